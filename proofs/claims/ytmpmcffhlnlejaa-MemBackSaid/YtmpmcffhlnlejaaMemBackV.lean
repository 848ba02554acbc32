/- What is stored is loaded: plain numbers. -/
import Derived.Test.YtmpmcffhlnlejaaMemVal
namespace Go.Proofs.Ytmpmcffhlnlejaa.MemEq
open Go.RowKit Go.Proofs.YtmpmcffhlnlejaaW.PrintWords Go.Proofs.YtmpmcffhlnlejaaW.PrintLast Go.Proofs.YtmpmcffhlnlejaaW.PrintMore
set_option linter.unusedVariables false
set_option linter.unusedSimpArgs false

theorem emod_step (v P : Int) (hP : 0 < P) : v % P + (v / P) % 256 * P = v % (256 * P) := by
  have h1 := Int.emod_nonneg v (show P ≠ 0 by omega)
  have h2 := Int.emod_lt_of_pos v hP
  have h3 := Int.emod_nonneg (v / P) (show (256 : Int) ≠ 0 by decide)
  have h4 := Int.emod_lt_of_pos (v / P) (show (0 : Int) < 256 by decide)
  have e1 : P * (v / P) + v % P = v := Int.mul_ediv_add_emod v P
  have e2 : 256 * (v / P / 256) + v / P % 256 = v / P := Int.mul_ediv_add_emod (v / P) 256
  have hv : v = (v % P + (v / P) % 256 * P) + (256 * P) * (v / P / 256) := by
    calc v = P * (v / P) + v % P := e1.symm
      _ = P * (256 * (v / P / 256) + v / P % 256) + v % P := by rw [e2]
      _ = (v % P + (v / P) % 256 * P) + (256 * P) * (v / P / 256) := by
        rw [Int.mul_add, Int.mul_comm P (v / P % 256), ← Int.mul_assoc P 256, Int.mul_comm P 256]
        omega
  have hlt : v % P + (v / P) % 256 * P < 256 * P := by
    have : (v / P) % 256 * P ≤ 255 * P := Int.mul_le_mul_of_nonneg_right (by omega) (by omega)
    omega
  have hge : 0 ≤ v % P + (v / P) % 256 * P := by
    have := Int.mul_nonneg h3 (show 0 ≤ P by omega)
    omega
  have key : v % (256 * P) = (v % P + (v / P) % 256 * P) % (256 * P) := by
    have h := Int.add_mul_emod_self_left (v % P + (v / P) % 256 * P) (256 * P) (v / P / 256)
    rw [← hv] at h
    exact h
  rw [key, Int.emod_eq_of_lt hge hlt]

theorem stB_get (v : Int) (n k : Nat) (h : k < n) : (stB v n).getD k 0 = byteOf v k := by
  simp [stB, List.getD, h]

theorem leN_stB (v : Int) (n : Nat) : ∀ k, k ≤ n → ((leN (stB v n) k : Nat) : Int) = v % (2 ^ (8 * k))
  | 0, _ => by simp [leN]
  | k + 1, hk => by
    have ih := leN_stB v n k (by omega)
    rw [leN, stB_get v n k (by omega), Int.natCast_add, Int.natCast_mul, ih, byteOf_toNat, Int.natCast_pow]
    have hP : (0 : Int) < 2 ^ (8 * k) := Int.pow_pos (by decide)
    have := emod_step v (2 ^ (8 * k)) hP
    rw [show (2 : Int) ^ (8 * (k + 1)) = 256 * 2 ^ (8 * k) by rw [show 8 * (k + 1) = 8 * k + 8 by omega, Int.pow_add]; omega]
    exact this

theorem and_m1 (x : Int) : bits .and .i64 x (-1) = wrap64 x := by
  have h0 : bits .and .i64 x (-1) = IntKind.i64.wrap ((BitVec.ofInt 64 x &&& BitVec.ofInt 64 (-1)).toNat : Int) := rfl
  have h1 : BitVec.ofInt 64 (-1) = BitVec.allOnes 64 := by decide
  have hx : (BitVec.ofInt 64 x).toNat = (x % 18446744073709551616).toNat := by
    rw [BitVec.toNat_ofInt]
    rfl
  rw [h0, h1, BitVec.and_allOnes, hx, wrap_eq]
  unfold wrap64
  omega
end Go.Proofs.Ytmpmcffhlnlejaa.MemEq
