/- What a load reckons, in plain numbers. -/
import Derived.Test.YtmpmcffhlnlejaaMemSt
namespace Go.Proofs.Ytmpmcffhlnlejaa.MemEq
open Go.RowKit Go.Proofs.YtmpmcffhlnlejaaW.PrintWords Go.Proofs.YtmpmcffhlnlejaaW.PrintLast Go.Proofs.YtmpmcffhlnlejaaW.PrintMore
set_option linter.unusedVariables false
set_option linter.unusedSimpArgs false

theorem ofInt_wrap (u : Nat) (hu : u < 18446744073709551616) : BitVec.ofInt 64 (wrap64 (u : Int)) = BitVec.ofNat 64 u := by
  apply BitVec.eq_of_toNat_eq
  rw [BitVec.toNat_ofInt, BitVec.toNat_ofNat]
  unfold wrap64
  rw [show ((2 ^ 64 : Nat) : Int) = 18446744073709551616 from rfl, show (2 : Nat) ^ 64 = 18446744073709551616 from rfl]
  omega

theorem bits_or_eq (x y : Int) : bits .or .i64 x y = IntKind.i64.wrap ((BitVec.ofInt 64 x ||| BitVec.ofInt 64 y).toNat : Int) := rfl
theorem wrap_eq (n : Int) : IntKind.i64.wrap n = wrap64 n := by
  rw [IntKind.wrap_i64]
  unfold wrap64
  omega

theorem or_nat (u v : Nat) (hu : u < 18446744073709551616) (hv : v < 18446744073709551616) : bits .or .i64 (wrap64 (u : Int)) (wrap64 (v : Int)) = wrap64 ((u ||| v : Nat) : Int) := by
  have e : (BitVec.ofNat 64 u ||| BitVec.ofNat 64 v).toNat = u ||| v := by
    rw [BitVec.toNat_or, BitVec.toNat_ofNat, BitVec.toNat_ofNat, Nat.mod_eq_of_lt hu, Nat.mod_eq_of_lt hv]
  rw [bits_or_eq, ofInt_wrap u hu, ofInt_wrap v hv, e, wrap_eq]

/-- Bytes as a number, the lowest first. -/
def leN (L : List UInt8) : Nat → Nat
  | 0 => 0
  | k + 1 => leN L k + (L.getD k 0).toNat * 2 ^ (8 * k)
theorem leN_lt (L : List UInt8) : ∀ k, leN L k < 2 ^ (8 * k)
  | 0 => by simp [leN]
  | k + 1 => by
    have h1 := leN_lt L k
    have h2 := UInt8.toNat_lt (L.getD k 0)
    have h3 : (L.getD k 0).toNat * 2 ^ (8 * k) ≤ 255 * 2 ^ (8 * k) := Nat.mul_le_mul_right _ (by omega)
    have h4 : 2 ^ (8 * (k + 1)) = 256 * 2 ^ (8 * k) := by rw [show 8 * (k + 1) = 8 * k + 8 by omega, Nat.pow_add]; omega
    rw [leN, h4]
    omega

theorem raw_le (L : List UInt8) : ∀ k, k ≤ 8 → rawTo L k = wrap64 ((leN L k : Nat) : Int)
  | 0, _ => by
    show (0 : Int) = wrap64 ((0 : Nat) : Int)
    unfold wrap64
    omega
  | k + 1, hk => by
    have ih := raw_le L k (by omega)
    have h1 := leN_lt L k
    have h2 := UInt8.toNat_lt (L.getD k 0)
    have hp : 2 ^ (8 * k) ≤ 2 ^ 56 := Nat.pow_le_pow_right (by decide) (by omega)
    have h3 : (L.getD k 0).toNat * 2 ^ (8 * k) ≤ 255 * 2 ^ (8 * k) := Nat.mul_le_mul_right _ (by omega)
    have hc : (((L.getD k 0).toNat : Int) * 2 ^ (8 * k)) = (((L.getD k 0).toNat * 2 ^ (8 * k) : Nat) : Int) := by
      rw [Int.natCast_mul, Int.natCast_pow]; rfl
    rw [rawTo, ih, hc, or_nat _ _ (by omega) (by omega), leN]
    congr 2
    have := Nat.two_pow_add_eq_or_of_lt h1 (L.getD k 0).toNat
    rw [Nat.or_comm, Nat.mul_comm, ← this]
    omega

/-- A signed load of fewer than eight bytes. -/
theorem sign_of (n : Nat) (hn : n = 1 ∨ n = 2 ∨ n = 4) (u : Nat) (hu : u < 2 ^ (8 * n)) :
    wrap64 (wrap64 (u : Int) * 2 ^ (64 - 8 * n)) / 2 ^ (64 - 8 * n) = if 2 ^ (8 * n - 1) ≤ u then (u : Int) - 2 ^ (8 * n) else (u : Int) := by
  rcases hn with rfl | rfl | rfl
  · have hu' : u < 256 := hu
    rw [show (2 : Int) ^ (64 - 8 * 1) = 72057594037927936 from rfl, show (2 : Nat) ^ (8 * 1 - 1) = 128 from rfl, show (2 : Int) ^ (8 * 1) = 256 from rfl]
    unfold wrap64
    split <;> omega
  · have hu' : u < 65536 := hu
    rw [show (2 : Int) ^ (64 - 8 * 2) = 281474976710656 from rfl, show (2 : Nat) ^ (8 * 2 - 1) = 32768 from rfl, show (2 : Int) ^ (8 * 2) = 65536 from rfl]
    unfold wrap64
    split <;> omega
  · have hu' : u < 4294967296 := hu
    rw [show (2 : Int) ^ (64 - 8 * 4) = 4294967296 from rfl, show (2 : Nat) ^ (8 * 4 - 1) = 2147483648 from rfl]
    unfold wrap64
    split <;> omega

/-- x & (2^j - 1), at whatever x. -/
theorem and_mask (x : Int) (j : Nat) (hj : j ≤ 62) : bits .and .i64 x (((2 ^ j - 1 : Nat)) : Int) = x % ((2 ^ j : Nat) : Int) := by
  have hp : 2 ^ j ≤ 2 ^ 62 := Nat.pow_le_pow_right (by decide) hj
  have hpos : 0 < 2 ^ j := Nat.two_pow_pos j
  have h62 : (2 : Nat) ^ 62 = 4611686018427387904 := by decide
  have h0 : bits .and .i64 x (((2 ^ j - 1 : Nat)) : Int) = IntKind.i64.wrap ((BitVec.ofInt 64 x &&& BitVec.ofInt 64 (((2 ^ j - 1 : Nat)) : Int)).toNat : Int) := rfl
  have hm : (BitVec.ofInt 64 (((2 ^ j - 1 : Nat)) : Int)).toNat = 2 ^ j - 1 := by
    rw [BitVec.ofInt_natCast, BitVec.toNat_ofNat, Nat.mod_eq_of_lt]
    have : (2 : Nat) ^ 64 = 18446744073709551616 := by decide
    omega
  have hx : (BitVec.ofInt 64 x).toNat = (x % 18446744073709551616).toNat := by
    rw [BitVec.toNat_ofInt]
    rfl
  have hd : ((2 ^ j : Nat) : Int) ∣ 18446744073709551616 := by
    have : (2 : Nat) ^ j ∣ 2 ^ 64 := Nat.pow_dvd_pow 2 (by omega)
    have h2 := Int.natCast_dvd_natCast.2 this
    have h64 : ((2 ^ 64 : Nat) : Int) = 18446744073709551616 := by decide
    rwa [h64] at h2
  have e : ((BitVec.ofInt 64 x &&& BitVec.ofInt 64 (((2 ^ j - 1 : Nat)) : Int)).toNat : Int) = x % ((2 ^ j : Nat) : Int) := by
    rw [BitVec.toNat_and, hm, hx, Nat.and_two_pow_sub_one_eq_mod, Int.natCast_emod, Int.toNat_of_nonneg (Int.emod_nonneg _ (by decide)), Int.emod_emod_of_dvd _ hd]
  rw [h0, e]
  have h1 := Int.emod_nonneg x (show ((2 ^ j : Nat) : Int) ≠ 0 by omega)
  have h2 := Int.emod_lt_of_pos x (show (0 : Int) < ((2 ^ j : Nat) : Int) by omega)
  exact IntWalk.i64_in _ (by omega)
end Go.Proofs.Ytmpmcffhlnlejaa.MemEq
