/- scarflaw04.awake: it is true. -/
import Derived.Test.YtmpmcffhlnlejaaMemGrow
namespace Go.Proofs.Ytmpmcffhlnlejaa.MemEq
open Go.RowKit Go.Proofs.YtmpmcffhlnlejaaW.PrintWords Go.Proofs.YtmpmcffhlnlejaaW.PrintLast Go.Proofs.YtmpmcffhlnlejaaW.PrintMore
set_option linter.unusedVariables false
set_option linter.unusedSimpArgs false

theorem getAt_splice {S R : List UInt8} {a : Nat} (h : a + R.length ≤ S.length) : getAt (splice S a R) a R.length = R := by
  unfold getAt splice
  have ht : (S.take a).length = a := by simp; omega
  rw [List.drop_append_of_le_length (by omega), List.drop_of_length_le (by omega), List.nil_append, List.take_append_of_le_length (Nat.le_refl _), List.take_length]
theorem getAt_take {S : List UInt8} {a n m : Nat} (h : n ≤ m) : getAt S a n = (getAt S a m).take n := by
  unfold getAt
  rw [List.take_take, Nat.min_eq_left h]

theorem awk_bytes : stB (-2) 4 = [254, 255, 255, 255] := by decide
theorem awk_load1 : loadF 44 [254] = 4294967294 := by kernel_rfl
theorem awk_load2 : loadF 48 [254] = -2 := by kernel_rfl

set_option maxHeartbeats 4000000 in
theorem awake_calls (W : World) : Calls Try.prog 29 #[] W fun e w' => e = .returned (.bool true) ∧ Below W.heap.size W w' := by
  have HN := Aside0.mk (@new_yes 1 (-1) W (by decide))
  go_enter Try.func29, Try.ntmps29
  go_wp2_with fail
  refine HN.out.mono ?_
  rintro e w1 ⟨p, g, rfl, hp, hg, hm, hb⟩
  obtain ⟨S, hS⟩ : ∃ S : List UInt8, S = List.replicate (1 * 65536) 0 := ⟨_, rfl⟩
  rw [← hS] at hm
  have hl : S.length = 65536 := by rw [hS, List.length_replicate]
  rw [if_pos (by decide)] at hm
  have HM := Aside0.mk hm
  have HP := Aside0.mk hp
  have HG := Aside0.mk hg
  have HB := Aside0.mk hb
  clear hm hS hp hg hb HN
  go_wp2_with fail
  refine (store_yes (a := 4) (n := 4) (t := 127) HM.out (by omega) (by decide) (by decide) (by omega)).mono ?_
  rintro e w2 ⟨rfl, hm, ht⟩
  have HB2 := Aside0.mk (HB.out.trans (ht.below HP.out HG.out HB.out.size))
  clear HB HM ht
  rw [awk_bytes] at hm
  have hl2 : (splice S 4 [254, 255, 255, 255]).length = 65536 := (length_splice S 4 _ (by simp; omega)).trans hl
  have hg4 : getAt (splice S 4 [254, 255, 255, 255]) 4 4 = [254, 255, 255, 255] := getAt_splice (R := [254, 255, 255, 255]) (by simp; omega)
  have hg1 : getAt (splice S 4 [254, 255, 255, 255]) 4 1 = [254] := by rw [getAt_take (m := 4) (by decide), hg4]; rfl
  generalize splice S 4 [254, 255, 255, 255] = T at *
  have HM := Aside0.mk hm
  clear hm hl
  have HR := Aside0.mk (fun w (h : MemAt 105 w p g (1 * 65536) T 16 (-1)) => read_yes (at_ := 4) (n := 4) h (by omega) (by omega))
  rw [hg4] at HR
  have HL1 := Aside0.mk (fun w (h : MemAt 105 w p g (1 * 65536) T 16 (-1)) => load_yes (op := 44) (a := 4) (n := 1) (t := 127) h (by omega) (by decide) (by decide) (by omega))
  rw [hg1, awk_load1] at HL1
  have HL2 := Aside0.mk (fun w (h : MemAt 105 w p g (1 * 65536) T 16 (-1)) => load_yes (op := 48) (a := 4) (n := 1) (t := 126) h (by omega) (by decide) (by decide) (by omega))
  rw [hg1, awk_load2] at HL2
  clear hg4 hg1
  go_wp2_with fail
  refine (HR.out _ HM.out).mono ?_
  rintro e w3 ⟨rfl, rfl⟩
  go_wp2_with fail
  refine (HL1.out _ HM.out).mono ?_
  rintro e w4 ⟨rfl, ⟨d1, rfl⟩⟩
  go_wp2_with fail
  refine (HL2.out _ (HM.out.drewN d1)).mono ?_
  rintro e w5 ⟨rfl, ⟨d2, rfl⟩⟩
  go_wp2_with fail
  refine (grow_yes (n := 1) (HM.out.drewN (d1 + d2)) (by omega) (by decide) (by rw [hl2]; decide)).mono ?_
  rintro e w6 ⟨rfl, g', cap', hg', hm, ht⟩
  have HB3 := Aside0.mk ((pw_below_drewN HB2.out (d1 + d2)).trans (ht.below HP.out HG.out HB2.out.size))
  have hl3 : (T ++ List.replicate (1 * 65536) 0).length = 131072 := by rw [List.length_append, hl2, List.length_replicate]
  generalize T ++ List.replicate (1 * 65536) 0 = T2 at *
  rw [hl2]
  have HM3 := Aside0.mk hm
  clear hm ht HM HB2
  go_wp2_with fail
  refine (load_no (op := 41) (at_ := 131065) HM3.out (by omega) (by rw [hl3]; decide)).mono ?_
  rintro e w7 ⟨rfl, ⟨d3, rfl⟩⟩
  have HE := Aside0.mk (pw_below_drewN HB3.out d3)
  clear HB3
  go_wp2_with fail
  go_ret
  exact ⟨rfl, HE.out⟩
end Go.Proofs.Ytmpmcffhlnlejaa.MemEq
