/- The walk of the law MemBack: it returns true at whatever deeds, place and number. -/
import Derived.Test.YtmpmcffhlnlejaaMemSignsW
import Derived.Test.YtmpmcffhlnlejaaMemBackV
namespace Go.Proofs.Ytmpmcffhlnlejaa.MemEq
open Go.RowKit Go.Proofs.YtmpmcffhlnlejaaW.PrintWords Go.Proofs.YtmpmcffhlnlejaaW.PrintLast Go.Proofs.YtmpmcffhlnlejaaW.PrintMore
open Go.Proofs.Ytmpmcffhlnlejaa.PMemBack
set_option linter.unusedVariables false
set_option linter.unusedSimpArgs false

theorem bs_size' (L : List UInt8) : (⟨L.toArray⟩ : ByteArray).size = L.length := by simp [ByteArray.size]

/-- What a store leaves of the parts ahead of it and behind it. -/
theorem kept_parts {S R : List UInt8} {a : Nat} (ha : a + R.length ≤ S.length) :
    (⟨(splice S a R).toArray⟩ : ByteArray).extract 0 a = (⟨S.toArray⟩ : ByteArray).extract 0 a ∧
    (⟨(splice S a R).toArray⟩ : ByteArray).extract (a + R.length) S.length = (⟨S.toArray⟩ : ByteArray).extract (a + R.length) S.length := by
  have ht : (S.take a).length = a := by simp; omega
  simp only [ByteArray.extract_mk]
  refine ⟨?_, ?_⟩
  · simp only [splice, Nat.sub_zero, List.drop_zero]
    rw [List.take_append_of_le_length (by omega), List.take_of_length_le (by omega)]
  · have hd : (splice S a R).drop (a + R.length) = S.drop (a + R.length) := by
      simp only [splice]
      rw [← List.append_assoc, List.drop_append_of_le_length (by rw [List.length_append]; omega), List.drop_of_length_le (by rw [List.length_append]; omega), List.nil_append]
    rw [hd]

theorem get_splice {S R : List UInt8} {a n : Nat} (hn : R.length = n) (h : a + n ≤ S.length) : getAt (splice S a R) a n = R := by
  subst hn
  unfold getAt splice
  have ht : (S.take a).length = a := by simp; omega
  rw [List.drop_append_of_le_length (by omega), List.drop_of_length_le (by omega), List.nil_append, List.take_append_of_le_length (Nat.le_refl _), List.take_length]

/-- Fewer than eight bytes come back as the number's lowest bits. -/
theorem back_low {op : Int} {n : Nat} {t : Int} {st : Bool} (v : Int) (hw : widthF op = (n, t, st)) (hs : signedF op = false) (hn : n = 1 ∨ n = 2 ∨ n = 4) : loadF op (stB v n) = v % (2 ^ (8 * n)) := by
  rw [load_u hw hs (stB_length v n) hn]
  exact leN_stB v n n (Nat.le_refl _)
/-- Eight bytes come back as the whole number. -/
theorem back_all (v : Int) : loadF 41 (stB v 8) = wrap64 v := by
  unfold loadF
  rw [stB_length, raw_le _ 8 (Nat.le_refl _), leN_stB v 8 8 (Nat.le_refl _), show signedF 41 = false by decide, show widthF 41 = (8, 126, false) by decide]
  simp only [Bool.false_eq_true, if_false]
  rw [if_neg (by decide), show (2 : Int) ^ (8 * 8) = 18446744073709551616 from rfl]
  unfold wrap64
  omega

/-- Two rows of opcodes, and the memory's step. -/
theorem row_turned {w w' : World} {p g o : Nat} {cs : Array Value} (h : w.heap[o]? = some (.cells cs 3 (0, 0))) (ht : Turned p g w w') (h1 : o ≠ p) (h2 : o ≠ g) : w'.heap[o]? = some (.cells cs 3 (0, 0)) :=
  (ht.block o (blk_lt h) h1 h2).trans h

set_option maxHeartbeats 32000000 in
set_option maxRecDepth 100000 in
theorem law_back (l : List S79) (A : Option Addr) (c : Nat) (at_ v : Int) (W : World) (hl : k79.C W A l.length l) (hc : l.length ≤ c) :
    Calls Try.prog 10 #[.slice A l.length c, .int .i64 at_, .int .i64 v] W fun e w' => e = .returned (.bool true) ∧ Below W.heap.size W w' := by
  obtain ⟨a, ha, ha1⟩ := and_le at_ 65535 (by decide)
  replace ha : Go.bits .and .i64 at_ 65535 = (a : Int) := ha
  have HL := Aside0.mk hl
  clear hl
  go_enter Try.func10, Try.ntmps10
  go_wp2_with fail
  refine (made_calls HL.out hc).mono ?_
  rintro e w1 ⟨p, g, S, rfl, hS, hM, hp, hg, hb1⟩
  have HP := Aside0.mk hp
  have HG := Aside0.mk hg
  have HM0 := Aside0.mk (hM.below (below_alloc (below_alloc (Below.refl w1.heap.size w1) (.cells #[.int .i64 54, .int .i64 55, .int .i64 58, .int .i64 59, .int .i64 60, .int .i64 61, .int .i64 62] 3)) (.cells #[.int .i64 40, .int .i64 41, .int .i64 45, .int .i64 47, .int .i64 49, .int .i64 51, .int .i64 53] 3)))
  have HB0 := Aside0.mk (below_alloc (below_alloc hb1 (.cells #[.int .i64 54, .int .i64 55, .int .i64 58, .int .i64 59, .int .i64 60, .int .i64 61, .int .i64 62] 3)) (.cells #[.int .i64 40, .int .i64 41, .int .i64 45, .int .i64 47, .int .i64 49, .int .i64 51, .int .i64 53] 3))
  have K10 := blk_alloc (blk_new w1 (.cells #[.int .i64 54, .int .i64 55, .int .i64 58, .int .i64 59, .int .i64 60, .int .i64 61, .int .i64 62] 3)) (.cells #[.int .i64 40, .int .i64 41, .int .i64 45, .int .i64 47, .int .i64 49, .int .i64 51, .int .i64 53] 3)
  have K20 := blk_new (w1.alloc (.cells #[.int .i64 54, .int .i64 55, .int .i64 58, .int .i64 59, .int .i64 60, .int .i64 61, .int .i64 62] 3)) (.cells #[.int .i64 40, .int .i64 41, .int .i64 45, .int .i64 47, .int .i64 49, .int .i64 51, .int .i64 53] 3)
  simp only [World.size_alloc] at K20
  have HN := Aside0.mk (show w1.heap.size ≠ p ∧ w1.heap.size ≠ g ∧ w1.heap.size + 1 ≠ p ∧ w1.heap.size + 1 ≠ g from by have := hM.lt; omega)
  have KA := Aside0.mk K10
  have KB := Aside0.mk K20
  clear hM hp hg hb1 K10 K20
  go_wp2_with fail
  clear ha
  go_loopw [10] (fun v10 wr => ∃ k : Nat, k ≤ 7 ∧ v10 = .int .i64 (k : Int) ∧ ∃ S : List UInt8, S.length = 65536 ∧ Aside0 (MemAt 105 wr p g (1 * 65536) S 2 2) ∧ Aside0 (Below W.heap.size W wr) ∧ Aside0 (wr.heap[w1.heap.size]? = some (.cells #[.int .i64 54, .int .i64 55, .int .i64 58, .int .i64 59, .int .i64 60, .int .i64 61, .int .i64 62] 3 (0, 0))) ∧ Aside0 (wr.heap[w1.heap.size + 1]? = some (.cells #[.int .i64 40, .int .i64 41, .int .i64 45, .int .i64 47, .int .i64 49, .int .i64 51, .int .i64 53] 3 (0, 0)))) (fun v10 _ => 7 - (intOf v10).toNat)
  case atStart => exact ⟨0, Nat.zero_le _, rfl, S, hS, HM0, HB0, KA, KB⟩
  case round =>
    clear HM0 HB0 KA KB hS
    obtain ⟨k, hk, rfl, S, hS, HM, HB, K1, K2⟩ := hrel
    have hk6 : k = 0 ∨ k = 1 ∨ k = 2 ∨ k = 3 ∨ k = 4 ∨ k = 5 ∨ k = 6 ∨ k = 7 := by omega
    rcases hk6 with rfl | rfl | rfl | rfl | rfl | rfl | rfl | rfl
    · have hw1 : widthF 54 = (4, 127, true) := by decide
      have hw2 : widthF 40 = (4, 127, false) := by decide
      have HW := Aside0.mk (fun w => width_calls 54 w)
      rw [hw1] at HW
      have z1 : wr.cell? ⟨w1.heap.size, 0, none⟩ = some (.int .i64 54) := (blk_cell K1.out 0).trans rfl
      have z2 : wr.cell? ⟨w1.heap.size + 1, 0, none⟩ = some (.int .i64 40) := (blk_cell K2.out 0).trans rfl
      have s1 := (bs_size' S).trans hS
      go_wp2_with fail
      refine (HW.out _).mono ?_
      rintro e w2 ⟨rfl, ⟨d1, rfl⟩⟩
      have hrS : getAt S 0 65536 = S := by simp [getAt, ← hS]
      have HR := Aside0.mk (read_yes (at_ := 0) (n := 65536) (HM.out.drewN d1) (by omega) (by omega))
      rw [hrS] at HR
      go_wp2_with fail
      refine HR.out.mono ?_
      rintro e w2 ⟨rfl, rfl⟩
      clear HR
      by_cases hf : a + 4 ≤ 65536
      · go_wp2_with fail
        refine (store_yes (v := v) (a := a) (n := 4) (t := 127) (HM.out.drewN d1) (by omega) hw1 (by decide) (by omega)).mono ?_
        rintro e w3 ⟨rfl, hM, hT⟩
        have hT0 : Turned p g wr w3 := (Turned.drewN d1).trans hT
        have K1' := Aside0.mk (row_turned K1.out hT0 HN.out.1 HN.out.2.1)
        have K2' := Aside0.mk (row_turned K2.out hT0 HN.out.2.2.1 HN.out.2.2.2)
        have HB2 := Aside0.mk (HB.out.trans (hT0.below HP.out HG.out HB.out.size))
        have e0 := kept_parts (S := S) (R := stB v 4) (a := a) (by rw [stB_length]; omega)
        rw [stB_length, hS] at e0
        obtain ⟨e1, e2⟩ := e0
        have hS2 : (splice S a (stB v 4)).length = 65536 := (length_splice S a _ (by rw [stB_length]; omega)).trans hS
        have hg : getAt (splice S a (stB v 4)) a 4 = stB v 4 := get_splice (stB_length v 4) (by omega)
        generalize splice S a (stB v 4) = S2 at *
        have HM2 := Aside0.mk hM
        have hrS2 : getAt S2 0 65536 = S2 := by simp [getAt, ← hS2]
        have HR := Aside0.mk (read_yes (at_ := 0) (n := 65536) HM2.out (by omega) (by omega))
        rw [hrS2] at HR
        have HL := Aside0.mk (load_yes (op := 40) (a := a) (n := 4) (t := 127) HM2.out (by omega) hw2 (by decide) (by omega))
        rw [hg] at HL
        rw [back_low v hw2 (by decide) (by decide), show (2 : Int) ^ (8 * 4) = 4294967296 from rfl] at HL
        have q1 : Go.bits .and .i64 v 4294967295 = v % 4294967296 := and_mask v 32 (by decide)
        generalize v % 4294967296 = r at *
        have s2 := (bs_size' S2).trans hS2
        have q2 : (((⟨S.toArray⟩ : ByteArray).extract 0 a).toList == ((⟨S2.toArray⟩ : ByteArray).extract 0 a).toList) = true := by rw [e1]; exact beq_self_eq_true _
        have q3 : (((⟨S.toArray⟩ : ByteArray).extract (a + 4) 65536).toList == ((⟨S2.toArray⟩ : ByteArray).extract (a + 4) 65536).toList) = true := by rw [e2]; exact beq_self_eq_true _
        clear e1 e2 hg hT hT0 hM hrS hrS2 K1 K2 HB HM z1
        have z2 : w3.cell? ⟨w1.heap.size + 1, 0, none⟩ = some (.int .i64 40) := (blk_cell K2'.out 0).trans rfl
        have hd : decide ((65536 : Int) - 4 < (a : Int)) = false := decide_eq_false (by omega)
        generalize (⟨S.toArray⟩ : ByteArray) = was at *
        obtain ⟨now, hnow⟩ : ∃ x : ByteArray, x = ⟨S2.toArray⟩ := ⟨_, rfl⟩
        rw [← hnow] at HR q2 q3 s2
        clear hnow
        go_wp2_with fail
        refine HR.out.mono ?_
        rintro e w4 ⟨rfl, rfl⟩
        clear HR
        go_wp2_with fail
        refine HL.out.mono ?_
        rintro e w5 ⟨rfl, ⟨d2, rfl⟩⟩
        clear HL
        have t1 : (a : Int) ≤ 65536 := by omega
        have t2 : (a : Int) + 4 ≤ 65536 := by omega
        have t3 : (0 : Int) ≤ (a : Int) + 4 := by omega
        have t4 : a ≤ 65536 := by omega
        have t5 : a + 4 ≤ 65536 := by omega
        have v1 : IntKind.i64.wrap ((a : Int) + 4) = (a : Int) + 4 := IntWalk.i64_in _ (by omega)
        have v3 : ((a : Int) + 4).toNat = a + 4 := by omega
        go_wp2_with fail
        go_quiet (fail)
        go_wp2_with fail
        go_roundw
        case rel => exact ⟨1, by omega, by rfl, S2, hS2, ⟨HM2.out.drewN _⟩, ⟨pw_below_drewN HB2.out _⟩, ⟨K1'.out⟩, ⟨K2'.out⟩⟩
        case measure => simp [intOf]
      · have hff : fits S.length (a : Int) (4 : Nat) = false := decide_eq_false (by rw [hS]; omega)
        have HS := Aside0.mk (store_no (op := 54) (at_ := (a : Int)) (v := v) (HM.out.drewN d1) (by omega) (by rw [hw1]; exact hff))
        have HM2 := Aside0.mk (HM.out.drewN d1)
        have hd : decide ((65536 : Int) - 4 < (a : Int)) = true := decide_eq_true (by omega)
        have HB2 := Aside0.mk (pw_below_drewN HB.out d1)
        clear hff hw1 hw2
        have HR := Aside0.mk (fun d => read_yes (at_ := 0) (n := 65536) (HM.out.drewN d) (by omega) (by omega))
        rw [hrS] at HR
        clear hrS
        generalize (⟨S.toArray⟩ : ByteArray) = was at *
        go_wp2_with fail
        refine HS.out.mono ?_
        rintro e w3 ⟨rfl, ⟨d2, rfl⟩⟩
        go_wp2_with fail
        refine (HR.out (d1 + d2)).mono ?_
        rintro e w4 ⟨rfl, rfl⟩
        clear HR
        go_wp2_with fail
        go_roundw
        case rel => exact ⟨1, by omega, by rfl, S, hS, ⟨HM.out.drewN _⟩, ⟨pw_below_drewN HB.out _⟩, ⟨K1.out⟩, ⟨K2.out⟩⟩
        case measure => simp [intOf]
    · have hw1 : widthF 55 = (8, 126, true) := by decide
      have hw2 : widthF 41 = (8, 126, false) := by decide
      have HW := Aside0.mk (fun w => width_calls 55 w)
      rw [hw1] at HW
      have z1 : wr.cell? ⟨w1.heap.size, 1, none⟩ = some (.int .i64 55) := (blk_cell K1.out 1).trans rfl
      have z2 : wr.cell? ⟨w1.heap.size + 1, 1, none⟩ = some (.int .i64 41) := (blk_cell K2.out 1).trans rfl
      have s1 := (bs_size' S).trans hS
      go_wp2_with fail
      refine (HW.out _).mono ?_
      rintro e w2 ⟨rfl, ⟨d1, rfl⟩⟩
      have hrS : getAt S 0 65536 = S := by simp [getAt, ← hS]
      have HR := Aside0.mk (read_yes (at_ := 0) (n := 65536) (HM.out.drewN d1) (by omega) (by omega))
      rw [hrS] at HR
      go_wp2_with fail
      refine HR.out.mono ?_
      rintro e w2 ⟨rfl, rfl⟩
      clear HR
      by_cases hf : a + 8 ≤ 65536
      · go_wp2_with fail
        refine (store_yes (v := v) (a := a) (n := 8) (t := 126) (HM.out.drewN d1) (by omega) hw1 (by decide) (by omega)).mono ?_
        rintro e w3 ⟨rfl, hM, hT⟩
        have hT0 : Turned p g wr w3 := (Turned.drewN d1).trans hT
        have K1' := Aside0.mk (row_turned K1.out hT0 HN.out.1 HN.out.2.1)
        have K2' := Aside0.mk (row_turned K2.out hT0 HN.out.2.2.1 HN.out.2.2.2)
        have HB2 := Aside0.mk (HB.out.trans (hT0.below HP.out HG.out HB.out.size))
        have e0 := kept_parts (S := S) (R := stB v 8) (a := a) (by rw [stB_length]; omega)
        rw [stB_length, hS] at e0
        obtain ⟨e1, e2⟩ := e0
        have hS2 : (splice S a (stB v 8)).length = 65536 := (length_splice S a _ (by rw [stB_length]; omega)).trans hS
        have hg : getAt (splice S a (stB v 8)) a 8 = stB v 8 := get_splice (stB_length v 8) (by omega)
        generalize splice S a (stB v 8) = S2 at *
        have HM2 := Aside0.mk hM
        have hrS2 : getAt S2 0 65536 = S2 := by simp [getAt, ← hS2]
        have HR := Aside0.mk (read_yes (at_ := 0) (n := 65536) HM2.out (by omega) (by omega))
        rw [hrS2] at HR
        have HL := Aside0.mk (load_yes (op := 41) (a := a) (n := 8) (t := 126) HM2.out (by omega) hw2 (by decide) (by omega))
        rw [hg] at HL
        rw [back_all v] at HL
        have q1 := and_m1 v
        generalize wrap64 v = r at *
        have s2 := (bs_size' S2).trans hS2
        have q2 : (((⟨S.toArray⟩ : ByteArray).extract 0 a).toList == ((⟨S2.toArray⟩ : ByteArray).extract 0 a).toList) = true := by rw [e1]; exact beq_self_eq_true _
        have q3 : (((⟨S.toArray⟩ : ByteArray).extract (a + 8) 65536).toList == ((⟨S2.toArray⟩ : ByteArray).extract (a + 8) 65536).toList) = true := by rw [e2]; exact beq_self_eq_true _
        clear e1 e2 hg hT hT0 hM hrS hrS2 K1 K2 HB HM z1
        have z2 : w3.cell? ⟨w1.heap.size + 1, 1, none⟩ = some (.int .i64 41) := (blk_cell K2'.out 1).trans rfl
        have hd : decide ((65536 : Int) - 8 < (a : Int)) = false := decide_eq_false (by omega)
        generalize (⟨S.toArray⟩ : ByteArray) = was at *
        obtain ⟨now, hnow⟩ : ∃ x : ByteArray, x = ⟨S2.toArray⟩ := ⟨_, rfl⟩
        rw [← hnow] at HR q2 q3 s2
        clear hnow
        go_wp2_with fail
        refine HR.out.mono ?_
        rintro e w4 ⟨rfl, rfl⟩
        clear HR
        go_wp2_with fail
        refine HL.out.mono ?_
        rintro e w5 ⟨rfl, ⟨d2, rfl⟩⟩
        clear HL
        have t1 : (a : Int) ≤ 65536 := by omega
        have t2 : (a : Int) + 8 ≤ 65536 := by omega
        have t3 : (0 : Int) ≤ (a : Int) + 8 := by omega
        have t4 : a ≤ 65536 := by omega
        have t5 : a + 8 ≤ 65536 := by omega
        have v1 : IntKind.i64.wrap ((a : Int) + 8) = (a : Int) + 8 := IntWalk.i64_in _ (by omega)
        have v3 : ((a : Int) + 8).toNat = a + 8 := by omega
        go_wp2_with fail
        go_quiet (fail)
        go_wp2_with fail
        go_roundw
        case rel => exact ⟨2, by omega, by rfl, S2, hS2, ⟨HM2.out.drewN _⟩, ⟨pw_below_drewN HB2.out _⟩, ⟨K1'.out⟩, ⟨K2'.out⟩⟩
        case measure => simp [intOf]
      · have hff : fits S.length (a : Int) (8 : Nat) = false := decide_eq_false (by rw [hS]; omega)
        have HS := Aside0.mk (store_no (op := 55) (at_ := (a : Int)) (v := v) (HM.out.drewN d1) (by omega) (by rw [hw1]; exact hff))
        have HM2 := Aside0.mk (HM.out.drewN d1)
        have hd : decide ((65536 : Int) - 8 < (a : Int)) = true := decide_eq_true (by omega)
        have HB2 := Aside0.mk (pw_below_drewN HB.out d1)
        clear hff hw1 hw2
        have HR := Aside0.mk (fun d => read_yes (at_ := 0) (n := 65536) (HM.out.drewN d) (by omega) (by omega))
        rw [hrS] at HR
        clear hrS
        generalize (⟨S.toArray⟩ : ByteArray) = was at *
        go_wp2_with fail
        refine HS.out.mono ?_
        rintro e w3 ⟨rfl, ⟨d2, rfl⟩⟩
        go_wp2_with fail
        refine (HR.out (d1 + d2)).mono ?_
        rintro e w4 ⟨rfl, rfl⟩
        clear HR
        go_wp2_with fail
        go_roundw
        case rel => exact ⟨2, by omega, by rfl, S, hS, ⟨HM.out.drewN _⟩, ⟨pw_below_drewN HB.out _⟩, ⟨K1.out⟩, ⟨K2.out⟩⟩
        case measure => simp [intOf]
    · have hw1 : widthF 58 = (1, 127, true) := by decide
      have hw2 : widthF 45 = (1, 127, false) := by decide
      have HW := Aside0.mk (fun w => width_calls 58 w)
      rw [hw1] at HW
      have z1 : wr.cell? ⟨w1.heap.size, 2, none⟩ = some (.int .i64 58) := (blk_cell K1.out 2).trans rfl
      have z2 : wr.cell? ⟨w1.heap.size + 1, 2, none⟩ = some (.int .i64 45) := (blk_cell K2.out 2).trans rfl
      have s1 := (bs_size' S).trans hS
      go_wp2_with fail
      refine (HW.out _).mono ?_
      rintro e w2 ⟨rfl, ⟨d1, rfl⟩⟩
      have hrS : getAt S 0 65536 = S := by simp [getAt, ← hS]
      have HR := Aside0.mk (read_yes (at_ := 0) (n := 65536) (HM.out.drewN d1) (by omega) (by omega))
      rw [hrS] at HR
      go_wp2_with fail
      refine HR.out.mono ?_
      rintro e w2 ⟨rfl, rfl⟩
      clear HR
      by_cases hf : a + 1 ≤ 65536
      · go_wp2_with fail
        refine (store_yes (v := v) (a := a) (n := 1) (t := 127) (HM.out.drewN d1) (by omega) hw1 (by decide) (by omega)).mono ?_
        rintro e w3 ⟨rfl, hM, hT⟩
        have hT0 : Turned p g wr w3 := (Turned.drewN d1).trans hT
        have K1' := Aside0.mk (row_turned K1.out hT0 HN.out.1 HN.out.2.1)
        have K2' := Aside0.mk (row_turned K2.out hT0 HN.out.2.2.1 HN.out.2.2.2)
        have HB2 := Aside0.mk (HB.out.trans (hT0.below HP.out HG.out HB.out.size))
        have e0 := kept_parts (S := S) (R := stB v 1) (a := a) (by rw [stB_length]; omega)
        rw [stB_length, hS] at e0
        obtain ⟨e1, e2⟩ := e0
        have hS2 : (splice S a (stB v 1)).length = 65536 := (length_splice S a _ (by rw [stB_length]; omega)).trans hS
        have hg : getAt (splice S a (stB v 1)) a 1 = stB v 1 := get_splice (stB_length v 1) (by omega)
        generalize splice S a (stB v 1) = S2 at *
        have HM2 := Aside0.mk hM
        have hrS2 : getAt S2 0 65536 = S2 := by simp [getAt, ← hS2]
        have HR := Aside0.mk (read_yes (at_ := 0) (n := 65536) HM2.out (by omega) (by omega))
        rw [hrS2] at HR
        have HL := Aside0.mk (load_yes (op := 45) (a := a) (n := 1) (t := 127) HM2.out (by omega) hw2 (by decide) (by omega))
        rw [hg] at HL
        rw [back_low v hw2 (by decide) (by decide), show (2 : Int) ^ (8 * 1) = 256 from rfl] at HL
        have q1 : Go.bits .and .i64 v 255 = v % 256 := and_mask v 8 (by decide)
        generalize v % 256 = r at *
        have s2 := (bs_size' S2).trans hS2
        have q2 : (((⟨S.toArray⟩ : ByteArray).extract 0 a).toList == ((⟨S2.toArray⟩ : ByteArray).extract 0 a).toList) = true := by rw [e1]; exact beq_self_eq_true _
        have q3 : (((⟨S.toArray⟩ : ByteArray).extract (a + 1) 65536).toList == ((⟨S2.toArray⟩ : ByteArray).extract (a + 1) 65536).toList) = true := by rw [e2]; exact beq_self_eq_true _
        clear e1 e2 hg hT hT0 hM hrS hrS2 K1 K2 HB HM z1
        have z2 : w3.cell? ⟨w1.heap.size + 1, 2, none⟩ = some (.int .i64 45) := (blk_cell K2'.out 2).trans rfl
        have hd : decide ((65536 : Int) - 1 < (a : Int)) = false := decide_eq_false (by omega)
        generalize (⟨S.toArray⟩ : ByteArray) = was at *
        obtain ⟨now, hnow⟩ : ∃ x : ByteArray, x = ⟨S2.toArray⟩ := ⟨_, rfl⟩
        rw [← hnow] at HR q2 q3 s2
        clear hnow
        go_wp2_with fail
        refine HR.out.mono ?_
        rintro e w4 ⟨rfl, rfl⟩
        clear HR
        go_wp2_with fail
        refine HL.out.mono ?_
        rintro e w5 ⟨rfl, ⟨d2, rfl⟩⟩
        clear HL
        have t1 : (a : Int) ≤ 65536 := by omega
        have t2 : (a : Int) + 1 ≤ 65536 := by omega
        have t3 : (0 : Int) ≤ (a : Int) + 1 := by omega
        have t4 : a ≤ 65536 := by omega
        have t5 : a + 1 ≤ 65536 := by omega
        have v1 : IntKind.i64.wrap ((a : Int) + 1) = (a : Int) + 1 := IntWalk.i64_in _ (by omega)
        have v3 : ((a : Int) + 1).toNat = a + 1 := by omega
        go_wp2_with fail
        go_quiet (fail)
        go_wp2_with fail
        go_roundw
        case rel => exact ⟨3, by omega, by rfl, S2, hS2, ⟨HM2.out.drewN _⟩, ⟨pw_below_drewN HB2.out _⟩, ⟨K1'.out⟩, ⟨K2'.out⟩⟩
        case measure => simp [intOf]
      · exact absurd (by omega) hf
    · have hw1 : widthF 59 = (2, 127, true) := by decide
      have hw2 : widthF 47 = (2, 127, false) := by decide
      have HW := Aside0.mk (fun w => width_calls 59 w)
      rw [hw1] at HW
      have z1 : wr.cell? ⟨w1.heap.size, 3, none⟩ = some (.int .i64 59) := (blk_cell K1.out 3).trans rfl
      have z2 : wr.cell? ⟨w1.heap.size + 1, 3, none⟩ = some (.int .i64 47) := (blk_cell K2.out 3).trans rfl
      have s1 := (bs_size' S).trans hS
      go_wp2_with fail
      refine (HW.out _).mono ?_
      rintro e w2 ⟨rfl, ⟨d1, rfl⟩⟩
      have hrS : getAt S 0 65536 = S := by simp [getAt, ← hS]
      have HR := Aside0.mk (read_yes (at_ := 0) (n := 65536) (HM.out.drewN d1) (by omega) (by omega))
      rw [hrS] at HR
      go_wp2_with fail
      refine HR.out.mono ?_
      rintro e w2 ⟨rfl, rfl⟩
      clear HR
      by_cases hf : a + 2 ≤ 65536
      · go_wp2_with fail
        refine (store_yes (v := v) (a := a) (n := 2) (t := 127) (HM.out.drewN d1) (by omega) hw1 (by decide) (by omega)).mono ?_
        rintro e w3 ⟨rfl, hM, hT⟩
        have hT0 : Turned p g wr w3 := (Turned.drewN d1).trans hT
        have K1' := Aside0.mk (row_turned K1.out hT0 HN.out.1 HN.out.2.1)
        have K2' := Aside0.mk (row_turned K2.out hT0 HN.out.2.2.1 HN.out.2.2.2)
        have HB2 := Aside0.mk (HB.out.trans (hT0.below HP.out HG.out HB.out.size))
        have e0 := kept_parts (S := S) (R := stB v 2) (a := a) (by rw [stB_length]; omega)
        rw [stB_length, hS] at e0
        obtain ⟨e1, e2⟩ := e0
        have hS2 : (splice S a (stB v 2)).length = 65536 := (length_splice S a _ (by rw [stB_length]; omega)).trans hS
        have hg : getAt (splice S a (stB v 2)) a 2 = stB v 2 := get_splice (stB_length v 2) (by omega)
        generalize splice S a (stB v 2) = S2 at *
        have HM2 := Aside0.mk hM
        have hrS2 : getAt S2 0 65536 = S2 := by simp [getAt, ← hS2]
        have HR := Aside0.mk (read_yes (at_ := 0) (n := 65536) HM2.out (by omega) (by omega))
        rw [hrS2] at HR
        have HL := Aside0.mk (load_yes (op := 47) (a := a) (n := 2) (t := 127) HM2.out (by omega) hw2 (by decide) (by omega))
        rw [hg] at HL
        rw [back_low v hw2 (by decide) (by decide), show (2 : Int) ^ (8 * 2) = 65536 from rfl] at HL
        have q1 : Go.bits .and .i64 v 65535 = v % 65536 := and_mask v 16 (by decide)
        generalize v % 65536 = r at *
        have s2 := (bs_size' S2).trans hS2
        have q2 : (((⟨S.toArray⟩ : ByteArray).extract 0 a).toList == ((⟨S2.toArray⟩ : ByteArray).extract 0 a).toList) = true := by rw [e1]; exact beq_self_eq_true _
        have q3 : (((⟨S.toArray⟩ : ByteArray).extract (a + 2) 65536).toList == ((⟨S2.toArray⟩ : ByteArray).extract (a + 2) 65536).toList) = true := by rw [e2]; exact beq_self_eq_true _
        clear e1 e2 hg hT hT0 hM hrS hrS2 K1 K2 HB HM z1
        have z2 : w3.cell? ⟨w1.heap.size + 1, 3, none⟩ = some (.int .i64 47) := (blk_cell K2'.out 3).trans rfl
        have hd : decide ((65536 : Int) - 2 < (a : Int)) = false := decide_eq_false (by omega)
        generalize (⟨S.toArray⟩ : ByteArray) = was at *
        obtain ⟨now, hnow⟩ : ∃ x : ByteArray, x = ⟨S2.toArray⟩ := ⟨_, rfl⟩
        rw [← hnow] at HR q2 q3 s2
        clear hnow
        go_wp2_with fail
        refine HR.out.mono ?_
        rintro e w4 ⟨rfl, rfl⟩
        clear HR
        go_wp2_with fail
        refine HL.out.mono ?_
        rintro e w5 ⟨rfl, ⟨d2, rfl⟩⟩
        clear HL
        have t1 : (a : Int) ≤ 65536 := by omega
        have t2 : (a : Int) + 2 ≤ 65536 := by omega
        have t3 : (0 : Int) ≤ (a : Int) + 2 := by omega
        have t4 : a ≤ 65536 := by omega
        have t5 : a + 2 ≤ 65536 := by omega
        have v1 : IntKind.i64.wrap ((a : Int) + 2) = (a : Int) + 2 := IntWalk.i64_in _ (by omega)
        have v3 : ((a : Int) + 2).toNat = a + 2 := by omega
        go_wp2_with fail
        go_quiet (fail)
        go_wp2_with fail
        go_roundw
        case rel => exact ⟨4, by omega, by rfl, S2, hS2, ⟨HM2.out.drewN _⟩, ⟨pw_below_drewN HB2.out _⟩, ⟨K1'.out⟩, ⟨K2'.out⟩⟩
        case measure => simp [intOf]
      · have hff : fits S.length (a : Int) (2 : Nat) = false := decide_eq_false (by rw [hS]; omega)
        have HS := Aside0.mk (store_no (op := 59) (at_ := (a : Int)) (v := v) (HM.out.drewN d1) (by omega) (by rw [hw1]; exact hff))
        have HM2 := Aside0.mk (HM.out.drewN d1)
        have hd : decide ((65536 : Int) - 2 < (a : Int)) = true := decide_eq_true (by omega)
        have HB2 := Aside0.mk (pw_below_drewN HB.out d1)
        clear hff hw1 hw2
        have HR := Aside0.mk (fun d => read_yes (at_ := 0) (n := 65536) (HM.out.drewN d) (by omega) (by omega))
        rw [hrS] at HR
        clear hrS
        generalize (⟨S.toArray⟩ : ByteArray) = was at *
        go_wp2_with fail
        refine HS.out.mono ?_
        rintro e w3 ⟨rfl, ⟨d2, rfl⟩⟩
        go_wp2_with fail
        refine (HR.out (d1 + d2)).mono ?_
        rintro e w4 ⟨rfl, rfl⟩
        clear HR
        go_wp2_with fail
        go_roundw
        case rel => exact ⟨4, by omega, by rfl, S, hS, ⟨HM.out.drewN _⟩, ⟨pw_below_drewN HB.out _⟩, ⟨K1.out⟩, ⟨K2.out⟩⟩
        case measure => simp [intOf]
    · have hw1 : widthF 60 = (1, 126, true) := by decide
      have hw2 : widthF 49 = (1, 126, false) := by decide
      have HW := Aside0.mk (fun w => width_calls 60 w)
      rw [hw1] at HW
      have z1 : wr.cell? ⟨w1.heap.size, 4, none⟩ = some (.int .i64 60) := (blk_cell K1.out 4).trans rfl
      have z2 : wr.cell? ⟨w1.heap.size + 1, 4, none⟩ = some (.int .i64 49) := (blk_cell K2.out 4).trans rfl
      have s1 := (bs_size' S).trans hS
      go_wp2_with fail
      refine (HW.out _).mono ?_
      rintro e w2 ⟨rfl, ⟨d1, rfl⟩⟩
      have hrS : getAt S 0 65536 = S := by simp [getAt, ← hS]
      have HR := Aside0.mk (read_yes (at_ := 0) (n := 65536) (HM.out.drewN d1) (by omega) (by omega))
      rw [hrS] at HR
      go_wp2_with fail
      refine HR.out.mono ?_
      rintro e w2 ⟨rfl, rfl⟩
      clear HR
      by_cases hf : a + 1 ≤ 65536
      · go_wp2_with fail
        refine (store_yes (v := v) (a := a) (n := 1) (t := 126) (HM.out.drewN d1) (by omega) hw1 (by decide) (by omega)).mono ?_
        rintro e w3 ⟨rfl, hM, hT⟩
        have hT0 : Turned p g wr w3 := (Turned.drewN d1).trans hT
        have K1' := Aside0.mk (row_turned K1.out hT0 HN.out.1 HN.out.2.1)
        have K2' := Aside0.mk (row_turned K2.out hT0 HN.out.2.2.1 HN.out.2.2.2)
        have HB2 := Aside0.mk (HB.out.trans (hT0.below HP.out HG.out HB.out.size))
        have e0 := kept_parts (S := S) (R := stB v 1) (a := a) (by rw [stB_length]; omega)
        rw [stB_length, hS] at e0
        obtain ⟨e1, e2⟩ := e0
        have hS2 : (splice S a (stB v 1)).length = 65536 := (length_splice S a _ (by rw [stB_length]; omega)).trans hS
        have hg : getAt (splice S a (stB v 1)) a 1 = stB v 1 := get_splice (stB_length v 1) (by omega)
        generalize splice S a (stB v 1) = S2 at *
        have HM2 := Aside0.mk hM
        have hrS2 : getAt S2 0 65536 = S2 := by simp [getAt, ← hS2]
        have HR := Aside0.mk (read_yes (at_ := 0) (n := 65536) HM2.out (by omega) (by omega))
        rw [hrS2] at HR
        have HL := Aside0.mk (load_yes (op := 49) (a := a) (n := 1) (t := 126) HM2.out (by omega) hw2 (by decide) (by omega))
        rw [hg] at HL
        rw [back_low v hw2 (by decide) (by decide), show (2 : Int) ^ (8 * 1) = 256 from rfl] at HL
        have q1 : Go.bits .and .i64 v 255 = v % 256 := and_mask v 8 (by decide)
        generalize v % 256 = r at *
        have s2 := (bs_size' S2).trans hS2
        have q2 : (((⟨S.toArray⟩ : ByteArray).extract 0 a).toList == ((⟨S2.toArray⟩ : ByteArray).extract 0 a).toList) = true := by rw [e1]; exact beq_self_eq_true _
        have q3 : (((⟨S.toArray⟩ : ByteArray).extract (a + 1) 65536).toList == ((⟨S2.toArray⟩ : ByteArray).extract (a + 1) 65536).toList) = true := by rw [e2]; exact beq_self_eq_true _
        clear e1 e2 hg hT hT0 hM hrS hrS2 K1 K2 HB HM z1
        have z2 : w3.cell? ⟨w1.heap.size + 1, 4, none⟩ = some (.int .i64 49) := (blk_cell K2'.out 4).trans rfl
        have hd : decide ((65536 : Int) - 1 < (a : Int)) = false := decide_eq_false (by omega)
        generalize (⟨S.toArray⟩ : ByteArray) = was at *
        obtain ⟨now, hnow⟩ : ∃ x : ByteArray, x = ⟨S2.toArray⟩ := ⟨_, rfl⟩
        rw [← hnow] at HR q2 q3 s2
        clear hnow
        go_wp2_with fail
        refine HR.out.mono ?_
        rintro e w4 ⟨rfl, rfl⟩
        clear HR
        go_wp2_with fail
        refine HL.out.mono ?_
        rintro e w5 ⟨rfl, ⟨d2, rfl⟩⟩
        clear HL
        have t1 : (a : Int) ≤ 65536 := by omega
        have t2 : (a : Int) + 1 ≤ 65536 := by omega
        have t3 : (0 : Int) ≤ (a : Int) + 1 := by omega
        have t4 : a ≤ 65536 := by omega
        have t5 : a + 1 ≤ 65536 := by omega
        have v1 : IntKind.i64.wrap ((a : Int) + 1) = (a : Int) + 1 := IntWalk.i64_in _ (by omega)
        have v3 : ((a : Int) + 1).toNat = a + 1 := by omega
        go_wp2_with fail
        go_quiet (fail)
        go_wp2_with fail
        go_roundw
        case rel => exact ⟨5, by omega, by rfl, S2, hS2, ⟨HM2.out.drewN _⟩, ⟨pw_below_drewN HB2.out _⟩, ⟨K1'.out⟩, ⟨K2'.out⟩⟩
        case measure => simp [intOf]
      · exact absurd (by omega) hf
    · have hw1 : widthF 61 = (2, 126, true) := by decide
      have hw2 : widthF 51 = (2, 126, false) := by decide
      have HW := Aside0.mk (fun w => width_calls 61 w)
      rw [hw1] at HW
      have z1 : wr.cell? ⟨w1.heap.size, 5, none⟩ = some (.int .i64 61) := (blk_cell K1.out 5).trans rfl
      have z2 : wr.cell? ⟨w1.heap.size + 1, 5, none⟩ = some (.int .i64 51) := (blk_cell K2.out 5).trans rfl
      have s1 := (bs_size' S).trans hS
      go_wp2_with fail
      refine (HW.out _).mono ?_
      rintro e w2 ⟨rfl, ⟨d1, rfl⟩⟩
      have hrS : getAt S 0 65536 = S := by simp [getAt, ← hS]
      have HR := Aside0.mk (read_yes (at_ := 0) (n := 65536) (HM.out.drewN d1) (by omega) (by omega))
      rw [hrS] at HR
      go_wp2_with fail
      refine HR.out.mono ?_
      rintro e w2 ⟨rfl, rfl⟩
      clear HR
      by_cases hf : a + 2 ≤ 65536
      · go_wp2_with fail
        refine (store_yes (v := v) (a := a) (n := 2) (t := 126) (HM.out.drewN d1) (by omega) hw1 (by decide) (by omega)).mono ?_
        rintro e w3 ⟨rfl, hM, hT⟩
        have hT0 : Turned p g wr w3 := (Turned.drewN d1).trans hT
        have K1' := Aside0.mk (row_turned K1.out hT0 HN.out.1 HN.out.2.1)
        have K2' := Aside0.mk (row_turned K2.out hT0 HN.out.2.2.1 HN.out.2.2.2)
        have HB2 := Aside0.mk (HB.out.trans (hT0.below HP.out HG.out HB.out.size))
        have e0 := kept_parts (S := S) (R := stB v 2) (a := a) (by rw [stB_length]; omega)
        rw [stB_length, hS] at e0
        obtain ⟨e1, e2⟩ := e0
        have hS2 : (splice S a (stB v 2)).length = 65536 := (length_splice S a _ (by rw [stB_length]; omega)).trans hS
        have hg : getAt (splice S a (stB v 2)) a 2 = stB v 2 := get_splice (stB_length v 2) (by omega)
        generalize splice S a (stB v 2) = S2 at *
        have HM2 := Aside0.mk hM
        have hrS2 : getAt S2 0 65536 = S2 := by simp [getAt, ← hS2]
        have HR := Aside0.mk (read_yes (at_ := 0) (n := 65536) HM2.out (by omega) (by omega))
        rw [hrS2] at HR
        have HL := Aside0.mk (load_yes (op := 51) (a := a) (n := 2) (t := 126) HM2.out (by omega) hw2 (by decide) (by omega))
        rw [hg] at HL
        rw [back_low v hw2 (by decide) (by decide), show (2 : Int) ^ (8 * 2) = 65536 from rfl] at HL
        have q1 : Go.bits .and .i64 v 65535 = v % 65536 := and_mask v 16 (by decide)
        generalize v % 65536 = r at *
        have s2 := (bs_size' S2).trans hS2
        have q2 : (((⟨S.toArray⟩ : ByteArray).extract 0 a).toList == ((⟨S2.toArray⟩ : ByteArray).extract 0 a).toList) = true := by rw [e1]; exact beq_self_eq_true _
        have q3 : (((⟨S.toArray⟩ : ByteArray).extract (a + 2) 65536).toList == ((⟨S2.toArray⟩ : ByteArray).extract (a + 2) 65536).toList) = true := by rw [e2]; exact beq_self_eq_true _
        clear e1 e2 hg hT hT0 hM hrS hrS2 K1 K2 HB HM z1
        have z2 : w3.cell? ⟨w1.heap.size + 1, 5, none⟩ = some (.int .i64 51) := (blk_cell K2'.out 5).trans rfl
        have hd : decide ((65536 : Int) - 2 < (a : Int)) = false := decide_eq_false (by omega)
        generalize (⟨S.toArray⟩ : ByteArray) = was at *
        obtain ⟨now, hnow⟩ : ∃ x : ByteArray, x = ⟨S2.toArray⟩ := ⟨_, rfl⟩
        rw [← hnow] at HR q2 q3 s2
        clear hnow
        go_wp2_with fail
        refine HR.out.mono ?_
        rintro e w4 ⟨rfl, rfl⟩
        clear HR
        go_wp2_with fail
        refine HL.out.mono ?_
        rintro e w5 ⟨rfl, ⟨d2, rfl⟩⟩
        clear HL
        have t1 : (a : Int) ≤ 65536 := by omega
        have t2 : (a : Int) + 2 ≤ 65536 := by omega
        have t3 : (0 : Int) ≤ (a : Int) + 2 := by omega
        have t4 : a ≤ 65536 := by omega
        have t5 : a + 2 ≤ 65536 := by omega
        have v1 : IntKind.i64.wrap ((a : Int) + 2) = (a : Int) + 2 := IntWalk.i64_in _ (by omega)
        have v3 : ((a : Int) + 2).toNat = a + 2 := by omega
        go_wp2_with fail
        go_quiet (fail)
        go_wp2_with fail
        go_roundw
        case rel => exact ⟨6, by omega, by rfl, S2, hS2, ⟨HM2.out.drewN _⟩, ⟨pw_below_drewN HB2.out _⟩, ⟨K1'.out⟩, ⟨K2'.out⟩⟩
        case measure => simp [intOf]
      · have hff : fits S.length (a : Int) (2 : Nat) = false := decide_eq_false (by rw [hS]; omega)
        have HS := Aside0.mk (store_no (op := 61) (at_ := (a : Int)) (v := v) (HM.out.drewN d1) (by omega) (by rw [hw1]; exact hff))
        have HM2 := Aside0.mk (HM.out.drewN d1)
        have hd : decide ((65536 : Int) - 2 < (a : Int)) = true := decide_eq_true (by omega)
        have HB2 := Aside0.mk (pw_below_drewN HB.out d1)
        clear hff hw1 hw2
        have HR := Aside0.mk (fun d => read_yes (at_ := 0) (n := 65536) (HM.out.drewN d) (by omega) (by omega))
        rw [hrS] at HR
        clear hrS
        generalize (⟨S.toArray⟩ : ByteArray) = was at *
        go_wp2_with fail
        refine HS.out.mono ?_
        rintro e w3 ⟨rfl, ⟨d2, rfl⟩⟩
        go_wp2_with fail
        refine (HR.out (d1 + d2)).mono ?_
        rintro e w4 ⟨rfl, rfl⟩
        clear HR
        go_wp2_with fail
        go_roundw
        case rel => exact ⟨6, by omega, by rfl, S, hS, ⟨HM.out.drewN _⟩, ⟨pw_below_drewN HB.out _⟩, ⟨K1.out⟩, ⟨K2.out⟩⟩
        case measure => simp [intOf]
    · have hw1 : widthF 62 = (4, 126, true) := by decide
      have hw2 : widthF 53 = (4, 126, false) := by decide
      have HW := Aside0.mk (fun w => width_calls 62 w)
      rw [hw1] at HW
      have z1 : wr.cell? ⟨w1.heap.size, 6, none⟩ = some (.int .i64 62) := (blk_cell K1.out 6).trans rfl
      have z2 : wr.cell? ⟨w1.heap.size + 1, 6, none⟩ = some (.int .i64 53) := (blk_cell K2.out 6).trans rfl
      have s1 := (bs_size' S).trans hS
      go_wp2_with fail
      refine (HW.out _).mono ?_
      rintro e w2 ⟨rfl, ⟨d1, rfl⟩⟩
      have hrS : getAt S 0 65536 = S := by simp [getAt, ← hS]
      have HR := Aside0.mk (read_yes (at_ := 0) (n := 65536) (HM.out.drewN d1) (by omega) (by omega))
      rw [hrS] at HR
      go_wp2_with fail
      refine HR.out.mono ?_
      rintro e w2 ⟨rfl, rfl⟩
      clear HR
      by_cases hf : a + 4 ≤ 65536
      · go_wp2_with fail
        refine (store_yes (v := v) (a := a) (n := 4) (t := 126) (HM.out.drewN d1) (by omega) hw1 (by decide) (by omega)).mono ?_
        rintro e w3 ⟨rfl, hM, hT⟩
        have hT0 : Turned p g wr w3 := (Turned.drewN d1).trans hT
        have K1' := Aside0.mk (row_turned K1.out hT0 HN.out.1 HN.out.2.1)
        have K2' := Aside0.mk (row_turned K2.out hT0 HN.out.2.2.1 HN.out.2.2.2)
        have HB2 := Aside0.mk (HB.out.trans (hT0.below HP.out HG.out HB.out.size))
        have e0 := kept_parts (S := S) (R := stB v 4) (a := a) (by rw [stB_length]; omega)
        rw [stB_length, hS] at e0
        obtain ⟨e1, e2⟩ := e0
        have hS2 : (splice S a (stB v 4)).length = 65536 := (length_splice S a _ (by rw [stB_length]; omega)).trans hS
        have hg : getAt (splice S a (stB v 4)) a 4 = stB v 4 := get_splice (stB_length v 4) (by omega)
        generalize splice S a (stB v 4) = S2 at *
        have HM2 := Aside0.mk hM
        have hrS2 : getAt S2 0 65536 = S2 := by simp [getAt, ← hS2]
        have HR := Aside0.mk (read_yes (at_ := 0) (n := 65536) HM2.out (by omega) (by omega))
        rw [hrS2] at HR
        have HL := Aside0.mk (load_yes (op := 53) (a := a) (n := 4) (t := 126) HM2.out (by omega) hw2 (by decide) (by omega))
        rw [hg] at HL
        rw [back_low v hw2 (by decide) (by decide), show (2 : Int) ^ (8 * 4) = 4294967296 from rfl] at HL
        have q1 : Go.bits .and .i64 v 4294967295 = v % 4294967296 := and_mask v 32 (by decide)
        generalize v % 4294967296 = r at *
        have s2 := (bs_size' S2).trans hS2
        have q2 : (((⟨S.toArray⟩ : ByteArray).extract 0 a).toList == ((⟨S2.toArray⟩ : ByteArray).extract 0 a).toList) = true := by rw [e1]; exact beq_self_eq_true _
        have q3 : (((⟨S.toArray⟩ : ByteArray).extract (a + 4) 65536).toList == ((⟨S2.toArray⟩ : ByteArray).extract (a + 4) 65536).toList) = true := by rw [e2]; exact beq_self_eq_true _
        clear e1 e2 hg hT hT0 hM hrS hrS2 K1 K2 HB HM z1
        have z2 : w3.cell? ⟨w1.heap.size + 1, 6, none⟩ = some (.int .i64 53) := (blk_cell K2'.out 6).trans rfl
        have hd : decide ((65536 : Int) - 4 < (a : Int)) = false := decide_eq_false (by omega)
        generalize (⟨S.toArray⟩ : ByteArray) = was at *
        obtain ⟨now, hnow⟩ : ∃ x : ByteArray, x = ⟨S2.toArray⟩ := ⟨_, rfl⟩
        rw [← hnow] at HR q2 q3 s2
        clear hnow
        go_wp2_with fail
        refine HR.out.mono ?_
        rintro e w4 ⟨rfl, rfl⟩
        clear HR
        go_wp2_with fail
        refine HL.out.mono ?_
        rintro e w5 ⟨rfl, ⟨d2, rfl⟩⟩
        clear HL
        have t1 : (a : Int) ≤ 65536 := by omega
        have t2 : (a : Int) + 4 ≤ 65536 := by omega
        have t3 : (0 : Int) ≤ (a : Int) + 4 := by omega
        have t4 : a ≤ 65536 := by omega
        have t5 : a + 4 ≤ 65536 := by omega
        have v1 : IntKind.i64.wrap ((a : Int) + 4) = (a : Int) + 4 := IntWalk.i64_in _ (by omega)
        have v3 : ((a : Int) + 4).toNat = a + 4 := by omega
        go_wp2_with fail
        go_quiet (fail)
        go_wp2_with fail
        go_roundw
        case rel => exact ⟨7, by omega, by rfl, S2, hS2, ⟨HM2.out.drewN _⟩, ⟨pw_below_drewN HB2.out _⟩, ⟨K1'.out⟩, ⟨K2'.out⟩⟩
        case measure => simp [intOf]
      · have hff : fits S.length (a : Int) (4 : Nat) = false := decide_eq_false (by rw [hS]; omega)
        have HS := Aside0.mk (store_no (op := 62) (at_ := (a : Int)) (v := v) (HM.out.drewN d1) (by omega) (by rw [hw1]; exact hff))
        have HM2 := Aside0.mk (HM.out.drewN d1)
        have hd : decide ((65536 : Int) - 4 < (a : Int)) = true := decide_eq_true (by omega)
        have HB2 := Aside0.mk (pw_below_drewN HB.out d1)
        clear hff hw1 hw2
        have HR := Aside0.mk (fun d => read_yes (at_ := 0) (n := 65536) (HM.out.drewN d) (by omega) (by omega))
        rw [hrS] at HR
        clear hrS
        generalize (⟨S.toArray⟩ : ByteArray) = was at *
        go_wp2_with fail
        refine HS.out.mono ?_
        rintro e w3 ⟨rfl, ⟨d2, rfl⟩⟩
        go_wp2_with fail
        refine (HR.out (d1 + d2)).mono ?_
        rintro e w4 ⟨rfl, rfl⟩
        clear HR
        go_wp2_with fail
        go_roundw
        case rel => exact ⟨7, by omega, by rfl, S, hS, ⟨HM.out.drewN _⟩, ⟨pw_below_drewN HB.out _⟩, ⟨K1.out⟩, ⟨K2.out⟩⟩
        case measure => simp [intOf]
    · go_wp2_with fail
      refine (awake_calls _).mono ?_
      rintro e w2 ⟨rfl, hb⟩
      have HE := Aside0.mk (below_step HB.out hb)
      clear hb
      go_wp2_with fail
      go_ret
      exact ⟨rfl, HE.out⟩
end Go.Proofs.Ytmpmcffhlnlejaa.MemEq
