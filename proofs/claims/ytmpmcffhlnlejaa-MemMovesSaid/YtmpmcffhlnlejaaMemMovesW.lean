/- The walk of the law MemMoves: it returns true at whatever deeds and places. -/
import Derived.Test.YtmpmcffhlnlejaaMemMade
import Derived.Test.YtmpmcffhlnlejaaMemCp
namespace Go.Proofs.Ytmpmcffhlnlejaa.MemEq
open Go.RowKit Go.Proofs.YtmpmcffhlnlejaaW.PrintWords Go.Proofs.YtmpmcffhlnlejaaW.PrintLast Go.Proofs.YtmpmcffhlnlejaaW.PrintMore
open Go.Proofs.Ytmpmcffhlnlejaa.PMemBack
set_option linter.unusedVariables false
set_option linter.unusedSimpArgs false

theorem and_le (x : Int) (m : Nat) (hm : m < 9223372036854775808) : ∃ r : Nat, Go.bits .and .i64 x (m : Int) = (r : Int) ∧ r ≤ m := by
  have hle : (BitVec.ofInt 64 x &&& BitVec.ofInt 64 (m : Int)).toNat ≤ m := by
    rw [BitVec.toNat_and]
    refine Nat.le_trans Nat.and_le_right ?_
    rw [BitVec.ofInt_natCast, BitVec.toNat_ofNat]
    exact Nat.mod_le _ _
  refine ⟨(BitVec.ofInt 64 x &&& BitVec.ofInt 64 (m : Int)).toNat, ?_, hle⟩
  show IntKind.i64.wrap ((BitVec.ofInt 64 x &&& BitVec.ofInt 64 (m : Int)).toNat : Int) = _
  exact IntWalk.i64_in _ (by omega)

theorem bs_size (L : List UInt8) : (⟨L.toArray⟩ : ByteArray).size = L.length := by simp [ByteArray.size]

/-- What a copy leaves of the three parts. -/
theorem moved {S : List UInt8} {a b n : Nat} (ha : a + n ≤ S.length) (hb : b + n ≤ S.length) :
    (⟨(splice S a (getAt S b n)).toArray⟩ : ByteArray).extract 0 a = (⟨S.toArray⟩ : ByteArray).extract 0 a ∧
    (⟨(splice S a (getAt S b n)).toArray⟩ : ByteArray).extract a (a + n) = (⟨S.toArray⟩ : ByteArray).extract b (b + n) ∧
    (⟨(splice S a (getAt S b n)).toArray⟩ : ByteArray).extract (a + n) S.length = (⟨S.toArray⟩ : ByteArray).extract (a + n) S.length := by
  have hl : (getAt S b n).length = n := getAt_length hb
  have ht : (S.take a).length = a := by simp; omega
  simp only [ByteArray.extract_mk]
  refine ⟨?_, ?_, ?_⟩
  · simp only [splice, Nat.sub_zero, List.drop_zero]
    rw [List.take_append_of_le_length (by omega), List.take_of_length_le (by omega)]
  · simp only [splice]
    rw [List.drop_append_of_le_length (by omega), List.drop_of_length_le (by omega), List.nil_append, Nat.add_sub_cancel_left, Nat.add_sub_cancel_left, List.take_append_of_le_length (by omega), List.take_of_length_le (by omega)]
    rfl
  · have hd : (splice S a (getAt S b n)).drop (a + n) = S.drop (a + n) := by
      simp only [splice, hl]
      rw [← List.append_assoc, List.drop_append_of_le_length (by rw [List.length_append]; omega), List.drop_of_length_le (by rw [List.length_append]; omega), List.nil_append]
    rw [hd]

set_option maxHeartbeats 8000000 in
set_option maxRecDepth 100000 in
theorem law_moves (l : List S79) (A : Option Addr) (c : Nat) (at_ place n : Int) (W : World) (hl : k79.C W A l.length l) (hc : l.length ≤ c) :
    Calls Try.prog 12 #[.slice A l.length c, .int .i64 at_, .int .i64 place, .int .i64 n] W fun e w' => e = .returned (.bool true) ∧ Below W.heap.size W w' := by
  obtain ⟨a, ha, ha1⟩ := and_le at_ 1023 (by decide)
  obtain ⟨b, hb, hb1⟩ := and_le place 1023 (by decide)
  obtain ⟨m, hm, hm1⟩ := and_le n 1023 (by decide)
  replace ha : Go.bits .and .i64 at_ 1023 = (a : Int) := ha
  replace hb : Go.bits .and .i64 place 1023 = (b : Int) := hb
  replace hm : Go.bits .and .i64 n 1023 = (m : Int) := hm
  have HL := Aside0.mk hl
  clear hl
  go_enter Try.func12, Try.ntmps12
  go_wp2_with fail
  refine (made_calls HL.out hc).mono ?_
  rintro e w1 ⟨p, g, S, rfl, hS, hM, hp, hg, hb1'⟩
  have HM := Aside0.mk hM
  have HP := Aside0.mk hp
  have HG := Aside0.mk hg
  have HB := Aside0.mk hb1'
  clear hM hp hg hb1'
  have hrS : getAt S 0 65536 = S := by simp [getAt, ← hS]
  have HR := Aside0.mk (read_yes (at_ := 0) (n := 65536) HM.out (by omega) (by omega))
  rw [hrS] at HR
  clear hrS
  go_wp2_with fail
  refine HR.out.mono ?_
  rintro e w2 ⟨rfl, rfl⟩
  clear HR
  go_wp2_with fail
  refine (copy_yes (a := a) (b := b) (n := m) HM.out HM.out (by omega) (by omega) (by omega) (by omega)).mono ?_
  rintro e w3 ⟨rfl, hM, hT⟩
  obtain ⟨e1, e2, e3⟩ := moved (S := S) (a := a) (b := b) (n := m) (by omega) (by omega)
  have hS2 : (splice S a (getAt S b m)).length = 65536 := by rw [length_splice S a _ (by rw [getAt_length (by omega)]; omega)]; exact hS
  generalize splice S a (getAt S b m) = S2 at *
  have HM2 := Aside0.mk hM
  have HB2 := Aside0.mk (HB.out.trans (hT.below HP.out HG.out HB.out.size))
  have hrS : getAt S2 0 65536 = S2 := by simp [getAt, ← hS2]
  have HR := Aside0.mk (read_yes (at_ := 0) (n := 65536) HM2.out (by omega) (by omega))
  rw [hrS] at HR
  clear hrS hM hT HB HM
  go_wp2_with fail
  refine HR.out.mono ?_
  rintro e w4 ⟨rfl, rfl⟩
  clear HR
  rw [hS] at e3
  have s1 := (bs_size S).trans hS
  have s2 := (bs_size S2).trans hS2
  generalize (⟨S.toArray⟩ : ByteArray) = was at *
  generalize (⟨S2.toArray⟩ : ByteArray) = now at *
  clear hS hS2 HM2
  have q1 : ((now.extract 0 a).toList == (was.extract 0 a).toList) = true := by rw [e1]; exact beq_self_eq_true _
  have q2 : ((now.extract a (a + m)).toList == (was.extract b (b + m)).toList) = true := by rw [e2]; exact beq_self_eq_true _
  have q3 : ((now.extract (a + m) 65536).toList == (was.extract (a + m) 65536).toList) = true := by rw [e3]; exact beq_self_eq_true _
  clear e1 e2 e3
  go_wp2_with fail
  have t1 : (a : Int) ≤ 65536 := by omega
  have t2 : (a : Int) + (m : Int) ≤ 65536 := by omega
  have t3 : (b : Int) + (m : Int) ≤ 65536 := by omega
  have t4 : (b : Int) ≤ 65536 := by omega
  have t5 : (a : Int) ≤ (a : Int) + (m : Int) := by omega
  have t6 : (b : Int) ≤ (b : Int) + (m : Int) := by omega
  have t7 : (0 : Int) ≤ (a : Int) + (m : Int) := by omega
  have t8 : (0 : Int) ≤ (b : Int) + (m : Int) := by omega
  have t9 : a ≤ 65536 := by omega
  have t10 : a + m ≤ 65536 := by omega
  have t11 : b + m ≤ 65536 := by omega
  have v1 : IntKind.i64.wrap ((a : Int) + (m : Int)) = (a : Int) + (m : Int) := IntWalk.i64_in _ (by omega)
  have v2 : IntKind.i64.wrap ((b : Int) + (m : Int)) = (b : Int) + (m : Int) := IntWalk.i64_in _ (by omega)
  have v3 : ((a : Int) + (m : Int)).toNat = a + m := by omega
  have v4 : ((b : Int) + (m : Int)).toNat = b + m := by omega
  go_region_held3 (fun w' => Aside0 (Below w4.heap.size w4 w'))
    (first
      | exact ⟨Below.refl _ _⟩
      | exact ⟨below_drew1 (Below.refl _ _)⟩
      | exact ⟨below_step hq0.out hq⟩
      | assumption)
    ((go_at_call 29; obtain hq0 := ‹Aside0 (Below w4.heap.size w4 _)›; refine (awake_calls _).mono ?_; rintro e w' ⟨rfl, hq⟩))
  have HE := Aside0.mk (below_step HB2.out (‹Aside0 (Below w4.heap.size w4 _)›).out)
  go_wp2_with fail
  go_ret
  exact ⟨rfl, HE.out⟩
end Go.Proofs.Ytmpmcffhlnlejaa.MemEq
