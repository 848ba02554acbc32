-- PRINTED BY print.sh 35421559b90ae4d0a3588c463048766b98c2df88dd9212a6774a882060cdf62d: not written by this session
import Derived.Test.YtmpmcffhlnlejaaPSubFitsx0
import Derived.Test.YtmpmcffhlnlejaaPSubFitsx3
namespace Go.Proofs.Ytmpmcffhlnlejaa.PSubFits
open Go.RowKit Go.Proofs.YtmpmcffhlnlejaaW.PrintWords Go.Proofs.YtmpmcffhlnlejaaW.PrintLast Go.Proofs.YtmpmcffhlnlejaaW.PrintMore
attribute [local go_sem] max2_int min2_int max_two min_two max_three min_three max_four min_four   -- for this text's walks alone
set_option linter.unusedVariables false
set_option linter.unusedSimpArgs false

/-! ### scarfref14_each: function 60 -/
mutual
def scarfref14_each.l0 : Nat → List (S27) → List (S27) → List Int → Int → Option (Int)
  | 0, _, _, _, _ => none
  | k + 1, x0, x1, x2, x7 => if x7 < (x0.length : Int) then (scarfref14_each.l1 k x0 x1 x2 x7 11 0) else (some 0)
def scarfref14_each.l1 : Nat → List (S27) → List (S27) → List Int → Int → Int → Int → Option (Int)
  | 0, _, _, _, _, _, _ => none
  | k + 1, x0, x1, x2, x7, x8, x9 => if x9 < (x1.length : Int) then (scarfref14_each.j2 k x0 x1 x2 x7 x8 x9 (x8 == 11)) else (scarfref14_each.j2 k x0 x1 x2 x7 x8 x9 false)
def scarfref14_each.j2 : Nat → List (S27) → List (S27) → List Int → Int → Int → Int → Bool → Option (Int)
  | 0, _, _, _, _, _, _, _ => none
  | k + 1, x0, x1, x2, x7, x8, x9, x23 => if x23 = true then (if 0 ≤ x9 then (if x9 < (x1.length : Int) then (if 0 ≤ x7 then (if x7 < (x0.length : Int) then (if ((rd_T27 x1 x9).f0).toList = ((rd_T27 x0 x7).f0).toList then ((scarfref14_Sigs.f k ((rd_T27 x0 x7).f0) ((rd_T27 x0 x7).f1) ((rd_T27 x0 x7).f2) ((rd_T27 x0 x7).f3.f0) ((rd_T27 x0 x7).f3.f1) ((rd_T27 x0 x7).f3.f2) ((rd_T27 x0 x7).f3.f3) ((rd_T27 x1 x9).f0) ((rd_T27 x1 x9).f1) ((rd_T27 x1 x9).f2) ((rd_T27 x1 x9).f3.f0) ((rd_T27 x1 x9).f3.f1) ((rd_T27 x1 x9).f3.f2) ((rd_T27 x1 x9).f3.f3) x2).bind fun t148 => (if t148 = true then (scarfref14_each.l1 k x0 x1 x2 x7 0 (wrap64 (x9 + 1))) else (scarfref14_each.l1 k x0 x1 x2 x7 6 (wrap64 (x9 + 1))))) else (scarfref14_each.l1 k x0 x1 x2 x7 x8 (wrap64 (x9 + 1)))) else (none)) else (none)) else (none)) else (none)) else (if x8 = 0 then (scarfref14_each.l0 k x0 x1 x2 (wrap64 (x7 + 1))) else (some x8))
end
def scarfref14_each.f (k : Nat) (l0 : List (S27)) (l1 : List (S27)) (l2 : List Int) : Option (Int) := scarfref14_each.l0 k l0 l1 l2 0
theorem scarfref14_each.mono_l : ∀ k, (∀ y0 y1 y2 y3, LeO (scarfref14_each.l0 k y0 y1 y2 y3) (scarfref14_each.l0 (k + 1) y0 y1 y2 y3)) ∧ (∀ y0 y1 y2 y3 y4 y5, LeO (scarfref14_each.l1 k y0 y1 y2 y3 y4 y5) (scarfref14_each.l1 (k + 1) y0 y1 y2 y3 y4 y5)) ∧ (∀ y0 y1 y2 y3 y4 y5 y6, LeO (scarfref14_each.j2 k y0 y1 y2 y3 y4 y5 y6) (scarfref14_each.j2 (k + 1) y0 y1 y2 y3 y4 y5 y6))
  | 0 => ⟨fun _ _ _ _ r h => by simp [scarfref14_each.l0] at h, fun _ _ _ _ _ _ r h => by simp [scarfref14_each.l1] at h, fun _ _ _ _ _ _ _ r h => by simp [scarfref14_each.j2] at h⟩
  | k + 1 => by
    obtain ⟨ih0, ih1, ih2⟩ := scarfref14_each.mono_l k
    refine ⟨?_, ?_, ?_⟩
    · intro y0 y1 y2 y3
      unfold scarfref14_each.l0
      repeat' first
      | (with_reducible exact ih0 _ _ _ _)
      | (with_reducible exact ih1 _ _ _ _ _ _)
      | (with_reducible exact ih2 _ _ _ _ _ _ _)
      | (with_reducible exact scarfref14_Sigs.mono _ _ _ _ _ _ _ _ _ _ _ _ _ _ _ _)
      | (with_reducible exact LeO.refl _)
      | (with_reducible exact LeO.none _)
      | (with_reducible refine LeO.ite ?_ ?_)
      | (with_reducible refine LeO.bind ?_ (fun _ => ?_))
      | exact ih0 _ _ _ _
      | exact ih1 _ _ _ _ _ _
      | exact ih2 _ _ _ _ _ _ _
      | exact scarfref14_Sigs.mono _ _ _ _ _ _ _ _ _ _ _ _ _ _ _ _
      | exact LeO.none _
      | refine LeO.ite ?_ ?_
      | refine LeO.bind ?_ (fun _ => ?_)
    · intro y0 y1 y2 y3 y4 y5
      unfold scarfref14_each.l1
      repeat' first
      | (with_reducible exact ih0 _ _ _ _)
      | (with_reducible exact ih1 _ _ _ _ _ _)
      | (with_reducible exact ih2 _ _ _ _ _ _ _)
      | (with_reducible exact scarfref14_Sigs.mono _ _ _ _ _ _ _ _ _ _ _ _ _ _ _ _)
      | (with_reducible exact LeO.refl _)
      | (with_reducible exact LeO.none _)
      | (with_reducible refine LeO.ite ?_ ?_)
      | (with_reducible refine LeO.bind ?_ (fun _ => ?_))
      | exact ih0 _ _ _ _
      | exact ih1 _ _ _ _ _ _
      | exact ih2 _ _ _ _ _ _ _
      | exact scarfref14_Sigs.mono _ _ _ _ _ _ _ _ _ _ _ _ _ _ _ _
      | exact LeO.none _
      | refine LeO.ite ?_ ?_
      | refine LeO.bind ?_ (fun _ => ?_)
    · intro y0 y1 y2 y3 y4 y5 y6
      unfold scarfref14_each.j2
      repeat' first
      | (with_reducible exact ih0 _ _ _ _)
      | (with_reducible exact ih1 _ _ _ _ _ _)
      | (with_reducible exact ih2 _ _ _ _ _ _ _)
      | (with_reducible exact scarfref14_Sigs.mono _ _ _ _ _ _ _ _ _ _ _ _ _ _ _ _)
      | (with_reducible exact LeO.refl _)
      | (with_reducible exact LeO.none _)
      | (with_reducible refine LeO.ite ?_ ?_)
      | (with_reducible refine LeO.bind ?_ (fun _ => ?_))
      | exact ih0 _ _ _ _
      | exact ih1 _ _ _ _ _ _
      | exact ih2 _ _ _ _ _ _ _
      | exact scarfref14_Sigs.mono _ _ _ _ _ _ _ _ _ _ _ _ _ _ _ _
      | exact LeO.none _
      | refine LeO.ite ?_ ?_
      | refine LeO.bind ?_ (fun _ => ?_)
theorem scarfref14_each.mono : ∀ a0 a1 a2 k, LeO (scarfref14_each.f k a0 a1 a2) (scarfref14_each.f (k + 1) a0 a1 a2) := by
  intro a0 a1 a2 k
  obtain ⟨ih0, ih1, ih2⟩ := scarfref14_each.mono_l k
  unfold scarfref14_each.f
  repeat' first
      | (with_reducible exact ih0 _ _ _ _)
      | (with_reducible exact ih1 _ _ _ _ _ _)
      | (with_reducible exact ih2 _ _ _ _ _ _ _)
      | (with_reducible exact scarfref14_Sigs.mono _ _ _ _ _ _ _ _ _ _ _ _ _ _ _ _)
      | (with_reducible exact LeO.refl _)
      | (with_reducible exact LeO.none _)
      | (with_reducible refine LeO.ite ?_ ?_)
      | (with_reducible refine LeO.bind ?_ (fun _ => ?_))
      | exact ih0 _ _ _ _
      | exact ih1 _ _ _ _ _ _
      | exact ih2 _ _ _ _ _ _ _
      | exact scarfref14_Sigs.mono _ _ _ _ _ _ _ _ _ _ _ _ _ _ _ _
      | exact LeO.none _
      | refine LeO.ite ?_ ?_
      | refine LeO.bind ?_ (fun _ => ?_)
def scarfref14_each.T8 : Bool × List (List Nat × List Nat) := (true, [([], []), ([], []), ([0, 1], [0, 1]), ([2], [2]), ([3], [3]), ([], []), ([], []), ([5, 6], [5, 6]), ([7], [7]), ([8], [8]), ([4, 9], [4, 9])])
def scarfref14_each.B8 : List Nat := [0, 0, 3, 7, 15, 0, 0, 96, 224, 480, 1023]
theorem scarfref14_each.tab8 : rtab .any (opsOf Try.f60 8) = scarfref14_each.T8 := by kernel_rfl
theorem scarfref14_each.bits8 : waitsOk scarfref14_each.T8.2 scarfref14_each.B8 = true := by kernel_rfl
def scarfref14_each.T10 : Bool × List (List Nat × List Nat) := (true, [([], []), ([], []), ([0, 1], [0, 1]), ([2], [2]), ([], []), ([], []), ([4, 5], [4, 5]), ([6], [6]), ([], []), ([3, 7, 8], [3, 7, 8])])
def scarfref14_each.B10 : List Nat := [0, 0, 3, 7, 0, 0, 48, 112, 0, 511]
theorem scarfref14_each.tab10 : rtab .any (opsOf Try.f60 10) = scarfref14_each.T10 := by kernel_rfl
theorem scarfref14_each.bits10 : waitsOk scarfref14_each.T10.2 scarfref14_each.B10 = true := by kernel_rfl
set_option maxHeartbeats 8000000 in
set_option maxRecDepth 100000 in
theorem scarfref14_each.calls (k : Nat) (A0 : Option Addr) (c0 : Nat) (l0 : List (S27)) (A1 : Option Addr) (c1 : Nat) (l1 : List (S27)) (A2 : Option Addr) (c2 : Nat) (l2 : List Int) (r : Int) (w : World) (hr0 : Kd.C k27 w A0 l0.length l0) (hc0 : l0.length ≤ c0) (hr1 : Kd.C k27 w A1 l1.length l1) (hc1 : l1.length ≤ c1) (hr2 : Kd.C (Kd.int .i64) w A2 l2.length l2) (hc2 : l2.length ≤ c2) (h : scarfref14_each.f k l0 l1 l2 = some r) :
    Calls Try.prog 60 #[.slice A0 l0.length c0, .slice A1 l1.length c1, .slice A2 l2.length c2] w fun e w' => e = .returned (.int .i64 r) ∧ Below w.heap.size w w' := by
  have hu27 := Try.underlying27
  have HR0 := Aside0.mk hr0
  have HC0 := Aside0.mk hc0
  clear hr0 hc0
  have HR1 := Aside0.mk hr1
  have HC1 := Aside0.mk hc1
  clear hr1 hc1
  have HR2 := Aside0.mk hr2
  have HC2 := Aside0.mk hc2
  clear hr2 hc2
  have HB := Aside0.mk (Below.refl w.heap.size w)
  have H : (scarfref14_each.l0 k l0 l1 l2 0) = some r := h
  clear h
  have H' := Aside0.mk H
  clear H
  go_enter Try.func60, Try.ntmps60
  go_wp2
  go_loopg [7] k (fun kq v7 w' => ∃ (x7_1 : Int), v7 = .int .i64 x7_1 ∧ Aside0 (scarfref14_each.l0 kq l0 l1 l2 x7_1 = some r) ∧ Aside0 (kq ≤ k) ∧ Aside0 (Below w.heap.size w w'))
  case atStart => exact ⟨(0), (by first | rfl | (simp; done) | (simp [*]; done)), H', ⟨Nat.le_refl _⟩, ⟨by repeat (first | (with_reducible first | exact HB.out | apply below_alloc | apply pw_below_drewN | apply below_drew1) | exact HB.out)⟩⟩
  case round =>
    clear H'
    try clear c1
    try clear c2
    try clear p2
    obtain ⟨x7_1, rfl, HA, HK1, HB⟩ := hrel
    cases gk with
    | zero => exact absurd HA.out (by simp [scarfref14_each.l0])
    | succ k1 =>
      have H := HA.out
      clear HA
      simp only [scarfref14_each.l0] at H
      by_cases c4 : x7_1 < (l0.length : Int)
      · rw [if_pos c4] at H
        have c4b0 : decide (x7_1 < (l0.length : Int)) = true := decide_eq_true c4
        clear c4
        have H' := Aside0.mk H
        clear H
        go_wp2
        go_loopg [8, 9] k1 (fun kq v8 v9 w' => ∃ (x8_2 : Int) (x9_2 : Int), v8 = .int .i64 x8_2 ∧ v9 = .int .i64 x9_2 ∧ Aside0 (scarfref14_each.l1 kq l0 l1 l2 x7_1 x8_2 x9_2 = some r) ∧ Aside0 (kq ≤ k1) ∧ Aside0 (Below w.heap.size w w'))
        case atStart => exact ⟨(11), (0), (by first | rfl | (simp; done) | (simp [*]; done)), (by first | rfl | (simp; done) | (simp [*]; done)), H', ⟨Nat.le_refl _⟩, ⟨by repeat (first | (with_reducible first | exact HB.out | apply below_alloc | apply pw_below_drewN | apply below_drew1) | exact HB.out)⟩⟩
        case round =>
          clear H'
          try clear c1
          try clear c2
          try clear p2
          try clear c4
          try clear c4b0
          try clear p2
          obtain ⟨x8_2, x9_2, rfl, rfl, HA, HK2, HB⟩ := hrel
          cases gk with
          | zero => exact absurd HA.out (by simp [scarfref14_each.l1])
          | succ k2 =>
            have H := HA.out
            clear HA
            simp only [scarfref14_each.l1] at H
            have HC5 := Aside0.mk H
            clear H
            go_upto_region 6 with (fail)
            go_cut [23] (fun v23 wc => ∃ (kq : Nat) (x23_4 : Bool), v23 = .bool x23_4 ∧ Aside0 (scarfref14_each.j2 kq l0 l1 l2 x7_1 x8_2 x9_2 x23_4 = some r) ∧ Aside0 (kq ≤ k2) ∧ Aside0 (Below w.heap.size w wc))
            case first =>
              have H := HC5.out
              clear HC5
              by_cases c6 : x9_2 < (l1.length : Int)
              · rw [if_pos c6] at H
                have c6b0 : decide (x9_2 < (l1.length : Int)) = true := decide_eq_true c6
                clear c6
                (first | rw [c6b0] | (simp only [i64_w, i32_w]; rw [c6b0]) | skip)
                have H' := Aside0.mk H
                clear H
                go_wp2
                go_meet
                case rel => exact ⟨_, ((x8_2 == 11)), (by first | rfl | (simp; done) | (simp [*]; done)), H', ⟨by have := HK1.out; have := HK2.out; first | omega | exact Nat.le_refl _⟩, ⟨by repeat (first | (with_reducible first | exact HB.out | apply below_alloc | apply pw_below_drewN | apply below_drew1) | exact HB.out)⟩⟩
              · rw [if_neg c6] at H
                have c6b0 : decide (x9_2 < (l1.length : Int)) = false := decide_eq_false c6
                clear c6
                (first | rw [c6b0] | (simp only [i64_w, i32_w]; rw [c6b0]) | skip)
                have H' := Aside0.mk H
                clear H
                go_wp2
                go_meet
                case rel => exact ⟨_, (false), (by first | rfl | (simp; done) | (simp [*]; done)), H', ⟨by have := HK1.out; have := HK2.out; first | omega | exact Nat.le_refl _⟩, ⟨by repeat (first | (with_reducible first | exact HB.out | apply below_alloc | apply pw_below_drewN | apply below_drew1) | exact HB.out)⟩⟩
            case rest =>
              clear HC5
              try clear c1
              try clear c2
              try clear p2
              try clear c4
              try clear c4b0
              try clear c6
              try clear c6b0
              try clear p2
              obtain ⟨kq, x23_4, rfl, HA, HJ4, HB⟩ := hcut
              cases kq with
              | zero => exact absurd HA.out (by simp [scarfref14_each.j2])
              | succ kj4 =>
                have H := HA.out
                clear HA
                simp only [scarfref14_each.j2] at H
                by_cases c7 : x23_4 = true
                · subst c7
                  have H1 : (if 0 ≤ x9_2 then (if x9_2 < (l1.length : Int) then (if 0 ≤ x7_1 then (if x7_1 < (l0.length : Int) then (if ((rd_T27 l1 x9_2).f0).toList = ((rd_T27 l0 x7_1).f0).toList then ((scarfref14_Sigs.f kj4 ((rd_T27 l0 x7_1).f0) ((rd_T27 l0 x7_1).f1) ((rd_T27 l0 x7_1).f2) ((rd_T27 l0 x7_1).f3.f0) ((rd_T27 l0 x7_1).f3.f1) ((rd_T27 l0 x7_1).f3.f2) ((rd_T27 l0 x7_1).f3.f3) ((rd_T27 l1 x9_2).f0) ((rd_T27 l1 x9_2).f1) ((rd_T27 l1 x9_2).f2) ((rd_T27 l1 x9_2).f3.f0) ((rd_T27 l1 x9_2).f3.f1) ((rd_T27 l1 x9_2).f3.f2) ((rd_T27 l1 x9_2).f3.f3) l2).bind fun t148 => (if t148 = true then (scarfref14_each.l1 kj4 l0 l1 l2 x7_1 0 (wrap64 (x9_2 + 1))) else (scarfref14_each.l1 kj4 l0 l1 l2 x7_1 6 (wrap64 (x9_2 + 1))))) else (scarfref14_each.l1 kj4 l0 l1 l2 x7_1 x8_2 (wrap64 (x9_2 + 1)))) else (none)) else (none)) else (none)) else (none)) = some r := by rw [if_pos rfl] at H; exact H
                  clear H
                  have H := H1
                  clear H1
                  by_cases c8 : 0 ≤ x9_2
                  · rw [if_pos c8] at H
                    have c8b0 : decide (0 ≤ x9_2) = true := decide_eq_true c8
                    clear c8
                    by_cases c9 : x9_2 < (l1.length : Int)
                    · rw [if_pos c9] at H
                      have c9b0 : decide (x9_2 < (l1.length : Int)) = true := decide_eq_true c9
                      clear c9
                      by_cases c10 : 0 ≤ x7_1
                      · rw [if_pos c10] at H
                        have c10b0 : decide (0 ≤ x7_1) = true := decide_eq_true c10
                        clear c10
                        by_cases c11 : x7_1 < (l0.length : Int)
                        · rw [if_pos c11] at H
                          have c11b0 : decide (x7_1 < (l0.length : Int)) = true := decide_eq_true c11
                          clear c11
                          by_cases c12 : ((rd_T27 l1 x9_2).f0).toList = ((rd_T27 l0 x7_1).f0).toList
                          · rw [if_pos c12] at H
                            have c12b0 : (((rd_T27 l1 x9_2).f0).toList == ((rd_T27 l0 x7_1).f0).toList) = true := beq_iff_eq.mpr c12
                            have c12b1 : (((rd_T27 l1 x9_2).f0).toList != ((rd_T27 l0 x7_1).f0).toList) = false := bne_eq_false_iff_eq.mpr c12
                            clear c12
                            replace H := Option.bind_eq_some_iff.mp H
                            obtain ⟨t148, A130, H⟩ := H
                            replace H : (if t148 = true then (scarfref14_each.l1 kj4 l0 l1 l2 x7_1 0 (wrap64 (x9_2 + 1))) else (scarfref14_each.l1 kj4 l0 l1 l2 x7_1 6 (wrap64 (x9_2 + 1)))) = some r := H
                            have A13 := Aside0.mk A130
                            clear A130
                            by_cases c14 : t148 = true
                            · subst c14
                              have H1 : (scarfref14_each.l1 kj4 l0 l1 l2 x7_1 0 (wrap64 (x9_2 + 1))) = some r := by rw [if_pos rfl] at H; exact H
                              clear H
                              have H := H1
                              clear H1
                              have H' := Aside0.mk H
                              clear H
                              try go_wp2
                              have n0_ := Aside0.mk (below_drew1 HB.out)
                              clear HB
                              have HB := n0_
                              clear n0_
                              have p144 : 0 ≤ (x9_2 : Int) := of_decide_eq_true (by first | (with_reducible assumption) | assumption)
                              have q144 : x9_2 < (l1.length : Int) := of_decide_eq_true (by first | (with_reducible assumption) | assumption)
                              obtain ⟨ad144, A144_1, c144_1, A144_2, c144_2, A144_4, c144_4, A144_5, c144_5, e144, hx144_0, hx144_1, hx144_2, hx144_3, hx144_4, hx144_5, hx144_6, hl144_1, hi144_1, hl144_2, hi144_2, hl144_4, hi144_4, hl144_5, hi144_5⟩ := at_T27 HR1.out x9_2 p144 q144
                              have hw144_6 := hx144_6
                              have hw144_5 := hx144_5
                              have hw144_4 := hx144_4
                              have hw144_3 := hx144_3
                              have hw144_2 := hx144_2
                              have hw144_1 := hx144_1
                              have hw144_0 := hx144_0
                              cases e144
                              replace hx144_0 := (HB.out.cell (World.block_lt_of_cell? w _ hx144_0)).trans hx144_0
                              replace hx144_1 := (HB.out.cell (World.block_lt_of_cell? w _ hx144_1)).trans hx144_1
                              replace hx144_2 := (HB.out.cell (World.block_lt_of_cell? w _ hx144_2)).trans hx144_2
                              replace hx144_3 := (HB.out.cell (World.block_lt_of_cell? w _ hx144_3)).trans hx144_3
                              replace hx144_4 := (HB.out.cell (World.block_lt_of_cell? w _ hx144_4)).trans hx144_4
                              replace hx144_5 := (HB.out.cell (World.block_lt_of_cell? w _ hx144_5)).trans hx144_5
                              replace hx144_6 := (HB.out.cell (World.block_lt_of_cell? w _ hx144_6)).trans hx144_6
                              have HR144_1 := Aside0.mk hi144_1
                              have HC144_1 := Aside0.mk hl144_1
                              clear hi144_1 hl144_1
                              have HR144_2 := Aside0.mk hi144_2
                              have HC144_2 := Aside0.mk hl144_2
                              clear hi144_2 hl144_2
                              have HR144_4 := Aside0.mk hi144_4
                              have HC144_4 := Aside0.mk hl144_4
                              clear hi144_4 hl144_4
                              have HR144_5 := Aside0.mk hi144_5
                              have HC144_5 := Aside0.mk hl144_5
                              clear hi144_5 hl144_5
                              replace p144 := eq_true p144
                              replace q144 := eq_true q144
                              have p145 : 0 ≤ (x7_1 : Int) := of_decide_eq_true (by first | (with_reducible assumption) | assumption)
                              have q145 : x7_1 < (l0.length : Int) := of_decide_eq_true (by first | (with_reducible assumption) | assumption)
                              obtain ⟨ad145, A145_1, c145_1, A145_2, c145_2, A145_4, c145_4, A145_5, c145_5, e145, hx145_0, hx145_1, hx145_2, hx145_3, hx145_4, hx145_5, hx145_6, hl145_1, hi145_1, hl145_2, hi145_2, hl145_4, hi145_4, hl145_5, hi145_5⟩ := at_T27 HR0.out x7_1 p145 q145
                              have hw145_6 := hx145_6
                              have hw145_5 := hx145_5
                              have hw145_4 := hx145_4
                              have hw145_3 := hx145_3
                              have hw145_2 := hx145_2
                              have hw145_1 := hx145_1
                              have hw145_0 := hx145_0
                              cases e145
                              replace hx145_0 := (HB.out.cell (World.block_lt_of_cell? w _ hx145_0)).trans hx145_0
                              replace hx145_1 := (HB.out.cell (World.block_lt_of_cell? w _ hx145_1)).trans hx145_1
                              replace hx145_2 := (HB.out.cell (World.block_lt_of_cell? w _ hx145_2)).trans hx145_2
                              replace hx145_3 := (HB.out.cell (World.block_lt_of_cell? w _ hx145_3)).trans hx145_3
                              replace hx145_4 := (HB.out.cell (World.block_lt_of_cell? w _ hx145_4)).trans hx145_4
                              replace hx145_5 := (HB.out.cell (World.block_lt_of_cell? w _ hx145_5)).trans hx145_5
                              replace hx145_6 := (HB.out.cell (World.block_lt_of_cell? w _ hx145_6)).trans hx145_6
                              have HR145_1 := Aside0.mk hi145_1
                              have HC145_1 := Aside0.mk hl145_1
                              clear hi145_1 hl145_1
                              have HR145_2 := Aside0.mk hi145_2
                              have HC145_2 := Aside0.mk hl145_2
                              clear hi145_2 hl145_2
                              have HR145_4 := Aside0.mk hi145_4
                              have HC145_4 := Aside0.mk hl145_4
                              clear hi145_4 hl145_4
                              have HR145_5 := Aside0.mk hi145_5
                              have HC145_5 := Aside0.mk hl145_5
                              clear hi145_5 hl145_5
                              replace p145 := eq_true p145
                              replace q145 := eq_true q145
                              refine start_ (n := 11) (S := fun w' => w'.cell? (ad144.add ((x9_2).toNat * 7)) = some (.string ((rd_T27 l1 x9_2).f0)) ∧ w'.cell? ⟨(ad144.add ((x9_2).toNat * 7)).block, (ad144.add ((x9_2).toNat * 7)).off + 1, none⟩ = some (.slice A144_1 ((rd_T27 l1 x9_2).f1).length c144_1) ∧ w'.cell? ⟨(ad144.add ((x9_2).toNat * 7)).block, (ad144.add ((x9_2).toNat * 7)).off + 2, none⟩ = some (.slice A144_2 ((rd_T27 l1 x9_2).f2).length c144_2) ∧ w'.cell? ⟨(ad144.add ((x9_2).toNat * 7)).block, (ad144.add ((x9_2).toNat * 7)).off + 3, none⟩ = some (.int .i64 ((rd_T27 l1 x9_2).f3.f0)) ∧ w'.cell? ⟨(ad144.add ((x9_2).toNat * 7)).block, (ad144.add ((x9_2).toNat * 7)).off + 4, none⟩ = some (.slice A144_4 ((rd_T27 l1 x9_2).f3.f1).length c144_4) ∧ w'.cell? ⟨(ad144.add ((x9_2).toNat * 7)).block, (ad144.add ((x9_2).toNat * 7)).off + 5, none⟩ = some (.slice A144_5 ((rd_T27 l1 x9_2).f3.f2).length c144_5) ∧ w'.cell? ⟨(ad144.add ((x9_2).toNat * 7)).block, (ad144.add ((x9_2).toNat * 7)).off + 6, none⟩ = some (.int .i64 ((rd_T27 l1 x9_2).f3.f3)) ∧ w'.cell? (ad145.add ((x7_1).toNat * 7)) = some (.string ((rd_T27 l0 x7_1).f0)) ∧ w'.cell? ⟨(ad145.add ((x7_1).toNat * 7)).block, (ad145.add ((x7_1).toNat * 7)).off + 1, none⟩ = some (.slice A145_1 ((rd_T27 l0 x7_1).f1).length c145_1) ∧ w'.cell? ⟨(ad145.add ((x7_1).toNat * 7)).block, (ad145.add ((x7_1).toNat * 7)).off + 2, none⟩ = some (.slice A145_2 ((rd_T27 l0 x7_1).f2).length c145_2) ∧ w'.cell? ⟨(ad145.add ((x7_1).toNat * 7)).block, (ad145.add ((x7_1).toNat * 7)).off + 3, none⟩ = some (.int .i64 ((rd_T27 l0 x7_1).f3.f0)) ∧ w'.cell? ⟨(ad145.add ((x7_1).toNat * 7)).block, (ad145.add ((x7_1).toNat * 7)).off + 4, none⟩ = some (.slice A145_4 ((rd_T27 l0 x7_1).f3.f1).length c145_4) ∧ w'.cell? ⟨(ad145.add ((x7_1).toNat * 7)).block, (ad145.add ((x7_1).toNat * 7)).off + 5, none⟩ = some (.slice A145_5 ((rd_T27 l0 x7_1).f3.f2).length c145_5) ∧ w'.cell? ⟨(ad145.add ((x7_1).toNat * 7)).block, (ad145.add ((x7_1).toNat * 7)).off + 6, none⟩ = some (.int .i64 ((rd_T27 l0 x7_1).f3.f3))) (ds := []) #[false, false, false, false, false, false, false, false, false, false, false] (by kernel_rfl) rfl rfl ⟨((HB.out.cell (World.block_lt_of_cell? w _ hw144_0)).trans hw144_0), ((HB.out.cell (World.block_lt_of_cell? w _ hw144_1)).trans hw144_1), ((HB.out.cell (World.block_lt_of_cell? w _ hw144_2)).trans hw144_2), ((HB.out.cell (World.block_lt_of_cell? w _ hw144_3)).trans hw144_3), ((HB.out.cell (World.block_lt_of_cell? w _ hw144_4)).trans hw144_4), ((HB.out.cell (World.block_lt_of_cell? w _ hw144_5)).trans hw144_5), ((HB.out.cell (World.block_lt_of_cell? w _ hw144_6)).trans hw144_6), ((HB.out.cell (World.block_lt_of_cell? w _ hw145_0)).trans hw145_0), ((HB.out.cell (World.block_lt_of_cell? w _ hw145_1)).trans hw145_1), ((HB.out.cell (World.block_lt_of_cell? w _ hw145_2)).trans hw145_2), ((HB.out.cell (World.block_lt_of_cell? w _ hw145_3)).trans hw145_3), ((HB.out.cell (World.block_lt_of_cell? w _ hw145_4)).trans hw145_4), ((HB.out.cell (World.block_lt_of_cell? w _ hw145_5)).trans hw145_5), ((HB.out.cell (World.block_lt_of_cell? w _ hw145_6)).trans hw145_6)⟩ (fun hHeld => ?_); refine with_tabW scarfref14_each.tab8 scarfref14_each.bits8 (fun HT_ HW_ => ?_)
                              generalize wc.drew = w15 at HB HR144_1 HR144_2 HR144_4 HR144_5 HR145_1 HR145_2 HR145_4 HR145_5 hx144_0 hx144_1 hx144_2 hx144_3 hx144_4 hx144_5 hx144_6 hx145_0 hx145_1 hx145_2 hx145_3 hx145_4 hx145_5 hx145_6 hHeld ⊢
                              refine pure_ (i := 0) (N := some 26) (v := ?_) (a' := ?_) #[true, false, false, false, false, false, false, false, false, false, false] rfl rfl (any_of HT_.out (by kernel_rfl)) (fun _ _ _ h => h) (Or.inl ⟨by rfl, ?_⟩) ?_ ?_
                              rotate_left
                              · intro w'
                                go_simp
                                with_reducible rfl
                              rotate_left
                              · simp only [Act.put, List.setIfInBounds_toArray, List.set_cons_zero, List.set_cons_succ, i64_w, i32_w]
                                rfl
                              refine pure_ (i := 1) (N := some 27) (v := ?_) (a' := ?_) #[true, true, false, false, false, false, false, false, false, false, false] rfl rfl (any_of HT_.out (by kernel_rfl)) (fun _ _ _ h => h) (Or.inl ⟨by rfl, ?_⟩) ?_ ?_
                              rotate_left
                              · intro w'
                                go_simp
                                with_reducible rfl
                              rotate_left
                              · simp only [Act.put, List.setIfInBounds_toArray, List.set_cons_zero, List.set_cons_succ, i64_w, i32_w]
                                rfl
                              refine pure_ (i := 2) (N := some 28) (v := ?_) (a' := ?_) #[true, true, true, false, false, false, false, false, false, false, false] rfl rfl (any_of HT_.out (by kernel_rfl)) (fun _ _ _ h => h) (Or.inl ⟨by rfl, ?_⟩) ?_ ?_
                              rotate_left
                              · intro w'
                                go_simp
                                with_reducible rfl
                              rotate_left
                              · simp only [Act.put, List.setIfInBounds_toArray, List.set_cons_zero, List.set_cons_succ, i64_w, i32_w]
                                rfl
                              refine pure_ (i := 3) (N := some 29) (v := ?_) (a' := ?_) #[true, true, true, true, false, false, false, false, false, false, false] rfl rfl (any_of HT_.out (by kernel_rfl)) (fun _ _ _ h => h) (Or.inl ⟨by rfl, ?_⟩) ?_ ?_
                              rotate_left
                              · intro w'
                                go_simp
                                with_reducible rfl
                              rotate_left
                              · simp only [Act.put, List.setIfInBounds_toArray, List.set_cons_zero, List.set_cons_succ, i64_w, i32_w]
                                rfl
                              refine pure_ (i := 5) (N := some 31) (v := ?_) (a' := ?_) #[true, true, true, true, false, true, false, false, false, false, false] rfl rfl (any_of HT_.out (by kernel_rfl)) (fun _ _ _ h => h) (Or.inl ⟨by rfl, ?_⟩) ?_ ?_
                              rotate_left
                              · intro w'
                                go_simp
                                with_reducible rfl
                              rotate_left
                              · simp only [Act.put, List.setIfInBounds_toArray, List.set_cons_zero, List.set_cons_succ, i64_w, i32_w]
                                rfl
                              refine pure_ (i := 6) (N := some 32) (v := ?_) (a' := ?_) #[true, true, true, true, false, true, true, false, false, false, false] rfl rfl (any_of HT_.out (by kernel_rfl)) (fun _ _ _ h => h) (Or.inl ⟨by rfl, ?_⟩) ?_ ?_
                              rotate_left
                              · intro w'
                                go_simp
                                with_reducible rfl
                              rotate_left
                              · simp only [Act.put, List.setIfInBounds_toArray, List.set_cons_zero, List.set_cons_succ, i64_w, i32_w]
                                rfl
                              refine pure_ (i := 7) (N := some 33) (v := ?_) (a' := ?_) #[true, true, true, true, false, true, true, true, false, false, false] rfl rfl (any_of HT_.out (by kernel_rfl)) (fun _ _ _ h => h) (Or.inl ⟨by rfl, ?_⟩) ?_ ?_
                              rotate_left
                              · intro w'
                                go_simp
                                with_reducible rfl
                              rotate_left
                              · simp only [Act.put, List.setIfInBounds_toArray, List.set_cons_zero, List.set_cons_succ, i64_w, i32_w]
                                rfl
                              refine pure_ (i := 8) (N := some 34) (v := ?_) (a' := ?_) #[true, true, true, true, false, true, true, true, true, false, false] rfl rfl (any_of HT_.out (by kernel_rfl)) (fun _ _ _ h => h) (Or.inl ⟨by rfl, ?_⟩) ?_ ?_
                              rotate_left
                              · intro w'
                                go_simp
                                with_reducible rfl
                              rotate_left
                              · simp only [Act.put, List.setIfInBounds_toArray, List.set_cons_zero, List.set_cons_succ, i64_w, i32_w]
                                rfl
                              refine take_ (i := 4) (N := some 30) (v := ?_) (a' := ?_) #[true, true, true, true, true, true, true, true, true, false, false] rfl rfl (take_ofW HT_.out HW_.out (by kernel_rfl)) (fun _ _ _ h => h) (Or.inl ⟨by rfl, ?_⟩) hHeld ?_ ?_
                              rotate_left
                              · rintro w' ⟨s0, s1, s2, s3, s4, s5, s6, s7, s8, s9, s10, s11, s12, s13⟩
                                go_simp
                                with_reducible rfl
                              rotate_left
                              · simp only [Act.put, List.setIfInBounds_toArray, List.set_cons_zero, List.set_cons_succ, i64_w, i32_w]
                                rfl
                              refine take_ (i := 9) (N := some 35) (v := ?_) (a' := ?_) #[true, true, true, true, true, true, true, true, true, true, false] rfl rfl (take_ofW HT_.out HW_.out (by kernel_rfl)) (fun _ _ _ h => h) (Or.inl ⟨by rfl, ?_⟩) hHeld ?_ ?_
                              rotate_left
                              · rintro w' ⟨s0, s1, s2, s3, s4, s5, s6, s7, s8, s9, s10, s11, s12, s13⟩
                                go_simp
                                with_reducible rfl
                              rotate_left
                              · simp only [Act.put, List.setIfInBounds_toArray, List.set_cons_zero, List.set_cons_succ, i64_w, i32_w]
                                rfl
                              refine pure_ (i := 10) (N := some 36) (v := ?_) (a' := ?_) #[true, true, true, true, true, true, true, true, true, true, true] rfl rfl (any_of HT_.out (by kernel_rfl)) (fun _ _ _ h => h) (Or.inl ⟨by rfl, ?_⟩) ?_ ?_
                              rotate_left
                              · intro w'
                                go_simp
                                with_reducible rfl
                              rotate_left
                              · simp only [Act.put, List.setIfInBounds_toArray, List.set_cons_zero, List.set_cons_succ, i64_w, i32_w]
                                rfl
                              refine done_ (done_of HT_.out (by kernel_rfl)) ?_
                              try go_wp2
                              have n0_ := Aside0.mk (below_drew1 HB.out)
                              clear HB
                              have HB := n0_
                              clear n0_
                              have p146 : 0 ≤ (x7_1 : Int) := of_decide_eq_true (by first | (with_reducible assumption) | assumption)
                              have q146 : x7_1 < (l0.length : Int) := of_decide_eq_true (by first | (with_reducible assumption) | assumption)
                              obtain ⟨ad146, A146_1, c146_1, A146_2, c146_2, A146_4, c146_4, A146_5, c146_5, e146, hx146_0, hx146_1, hx146_2, hx146_3, hx146_4, hx146_5, hx146_6, hl146_1, hi146_1, hl146_2, hi146_2, hl146_4, hi146_4, hl146_5, hi146_5⟩ := at_T27 HR0.out x7_1 p146 q146
                              have hw146_6 := hx146_6
                              have hw146_5 := hx146_5
                              have hw146_4 := hx146_4
                              have hw146_3 := hx146_3
                              have hw146_2 := hx146_2
                              have hw146_1 := hx146_1
                              have hw146_0 := hx146_0
                              obtain rfl : ad145 = ad146 := (by injection e146)
                              replace hx146_0 := (HB.out.cell (World.block_lt_of_cell? w _ hx146_0)).trans hx146_0
                              replace hx146_1 := (HB.out.cell (World.block_lt_of_cell? w _ hx146_1)).trans hx146_1
                              replace hx146_2 := (HB.out.cell (World.block_lt_of_cell? w _ hx146_2)).trans hx146_2
                              replace hx146_3 := (HB.out.cell (World.block_lt_of_cell? w _ hx146_3)).trans hx146_3
                              replace hx146_4 := (HB.out.cell (World.block_lt_of_cell? w _ hx146_4)).trans hx146_4
                              replace hx146_5 := (HB.out.cell (World.block_lt_of_cell? w _ hx146_5)).trans hx146_5
                              replace hx146_6 := (HB.out.cell (World.block_lt_of_cell? w _ hx146_6)).trans hx146_6
                              have HR146_1 := Aside0.mk hi146_1
                              have HC146_1 := Aside0.mk hl146_1
                              clear hi146_1 hl146_1
                              have HR146_2 := Aside0.mk hi146_2
                              have HC146_2 := Aside0.mk hl146_2
                              clear hi146_2 hl146_2
                              have HR146_4 := Aside0.mk hi146_4
                              have HC146_4 := Aside0.mk hl146_4
                              clear hi146_4 hl146_4
                              have HR146_5 := Aside0.mk hi146_5
                              have HC146_5 := Aside0.mk hl146_5
                              clear hi146_5 hl146_5
                              replace p146 := eq_true p146
                              replace q146 := eq_true q146
                              have p147 : 0 ≤ (x9_2 : Int) := of_decide_eq_true (by first | (with_reducible assumption) | assumption)
                              have q147 : x9_2 < (l1.length : Int) := of_decide_eq_true (by first | (with_reducible assumption) | assumption)
                              obtain ⟨ad147, A147_1, c147_1, A147_2, c147_2, A147_4, c147_4, A147_5, c147_5, e147, hx147_0, hx147_1, hx147_2, hx147_3, hx147_4, hx147_5, hx147_6, hl147_1, hi147_1, hl147_2, hi147_2, hl147_4, hi147_4, hl147_5, hi147_5⟩ := at_T27 HR1.out x9_2 p147 q147
                              have hw147_6 := hx147_6
                              have hw147_5 := hx147_5
                              have hw147_4 := hx147_4
                              have hw147_3 := hx147_3
                              have hw147_2 := hx147_2
                              have hw147_1 := hx147_1
                              have hw147_0 := hx147_0
                              obtain rfl : ad144 = ad147 := (by injection e147)
                              replace hx147_0 := (HB.out.cell (World.block_lt_of_cell? w _ hx147_0)).trans hx147_0
                              replace hx147_1 := (HB.out.cell (World.block_lt_of_cell? w _ hx147_1)).trans hx147_1
                              replace hx147_2 := (HB.out.cell (World.block_lt_of_cell? w _ hx147_2)).trans hx147_2
                              replace hx147_3 := (HB.out.cell (World.block_lt_of_cell? w _ hx147_3)).trans hx147_3
                              replace hx147_4 := (HB.out.cell (World.block_lt_of_cell? w _ hx147_4)).trans hx147_4
                              replace hx147_5 := (HB.out.cell (World.block_lt_of_cell? w _ hx147_5)).trans hx147_5
                              replace hx147_6 := (HB.out.cell (World.block_lt_of_cell? w _ hx147_6)).trans hx147_6
                              have HR147_1 := Aside0.mk hi147_1
                              have HC147_1 := Aside0.mk hl147_1
                              clear hi147_1 hl147_1
                              have HR147_2 := Aside0.mk hi147_2
                              have HC147_2 := Aside0.mk hl147_2
                              clear hi147_2 hl147_2
                              have HR147_4 := Aside0.mk hi147_4
                              have HC147_4 := Aside0.mk hl147_4
                              clear hi147_4 hl147_4
                              have HR147_5 := Aside0.mk hi147_5
                              have HC147_5 := Aside0.mk hl147_5
                              clear hi147_5 hl147_5
                              replace p147 := eq_true p147
                              replace q147 := eq_true q147
                              refine start_ (n := 10) (S := fun w' => w'.cell? (ad145.add ((x7_1).toNat * 7)) = some (.string ((rd_T27 l0 x7_1).f0)) ∧ w'.cell? ⟨(ad145.add ((x7_1).toNat * 7)).block, (ad145.add ((x7_1).toNat * 7)).off + 1, none⟩ = some (.slice A146_1 ((rd_T27 l0 x7_1).f1).length c146_1) ∧ w'.cell? ⟨(ad145.add ((x7_1).toNat * 7)).block, (ad145.add ((x7_1).toNat * 7)).off + 2, none⟩ = some (.slice A146_2 ((rd_T27 l0 x7_1).f2).length c146_2) ∧ w'.cell? ⟨(ad145.add ((x7_1).toNat * 7)).block, (ad145.add ((x7_1).toNat * 7)).off + 3, none⟩ = some (.int .i64 ((rd_T27 l0 x7_1).f3.f0)) ∧ w'.cell? ⟨(ad145.add ((x7_1).toNat * 7)).block, (ad145.add ((x7_1).toNat * 7)).off + 4, none⟩ = some (.slice A146_4 ((rd_T27 l0 x7_1).f3.f1).length c146_4) ∧ w'.cell? ⟨(ad145.add ((x7_1).toNat * 7)).block, (ad145.add ((x7_1).toNat * 7)).off + 5, none⟩ = some (.slice A146_5 ((rd_T27 l0 x7_1).f3.f2).length c146_5) ∧ w'.cell? ⟨(ad145.add ((x7_1).toNat * 7)).block, (ad145.add ((x7_1).toNat * 7)).off + 6, none⟩ = some (.int .i64 ((rd_T27 l0 x7_1).f3.f3)) ∧ w'.cell? (ad144.add ((x9_2).toNat * 7)) = some (.string ((rd_T27 l1 x9_2).f0)) ∧ w'.cell? ⟨(ad144.add ((x9_2).toNat * 7)).block, (ad144.add ((x9_2).toNat * 7)).off + 1, none⟩ = some (.slice A147_1 ((rd_T27 l1 x9_2).f1).length c147_1) ∧ w'.cell? ⟨(ad144.add ((x9_2).toNat * 7)).block, (ad144.add ((x9_2).toNat * 7)).off + 2, none⟩ = some (.slice A147_2 ((rd_T27 l1 x9_2).f2).length c147_2) ∧ w'.cell? ⟨(ad144.add ((x9_2).toNat * 7)).block, (ad144.add ((x9_2).toNat * 7)).off + 3, none⟩ = some (.int .i64 ((rd_T27 l1 x9_2).f3.f0)) ∧ w'.cell? ⟨(ad144.add ((x9_2).toNat * 7)).block, (ad144.add ((x9_2).toNat * 7)).off + 4, none⟩ = some (.slice A147_4 ((rd_T27 l1 x9_2).f3.f1).length c147_4) ∧ w'.cell? ⟨(ad144.add ((x9_2).toNat * 7)).block, (ad144.add ((x9_2).toNat * 7)).off + 5, none⟩ = some (.slice A147_5 ((rd_T27 l1 x9_2).f3.f2).length c147_5) ∧ w'.cell? ⟨(ad144.add ((x9_2).toNat * 7)).block, (ad144.add ((x9_2).toNat * 7)).off + 6, none⟩ = some (.int .i64 ((rd_T27 l1 x9_2).f3.f3))) (ds := []) #[false, false, false, false, false, false, false, false, false, false] (by kernel_rfl) rfl rfl ⟨((HB.out.cell (World.block_lt_of_cell? w _ hw146_0)).trans hw146_0), ((HB.out.cell (World.block_lt_of_cell? w _ hw146_1)).trans hw146_1), ((HB.out.cell (World.block_lt_of_cell? w _ hw146_2)).trans hw146_2), ((HB.out.cell (World.block_lt_of_cell? w _ hw146_3)).trans hw146_3), ((HB.out.cell (World.block_lt_of_cell? w _ hw146_4)).trans hw146_4), ((HB.out.cell (World.block_lt_of_cell? w _ hw146_5)).trans hw146_5), ((HB.out.cell (World.block_lt_of_cell? w _ hw146_6)).trans hw146_6), ((HB.out.cell (World.block_lt_of_cell? w _ hw147_0)).trans hw147_0), ((HB.out.cell (World.block_lt_of_cell? w _ hw147_1)).trans hw147_1), ((HB.out.cell (World.block_lt_of_cell? w _ hw147_2)).trans hw147_2), ((HB.out.cell (World.block_lt_of_cell? w _ hw147_3)).trans hw147_3), ((HB.out.cell (World.block_lt_of_cell? w _ hw147_4)).trans hw147_4), ((HB.out.cell (World.block_lt_of_cell? w _ hw147_5)).trans hw147_5), ((HB.out.cell (World.block_lt_of_cell? w _ hw147_6)).trans hw147_6)⟩ (fun hHeld => ?_); refine with_tabW scarfref14_each.tab10 scarfref14_each.bits10 (fun HT_ HW_ => ?_)
                              generalize w15.drew = w16 at HB HR146_1 HR146_2 HR146_4 HR146_5 HR147_1 HR147_2 HR147_4 HR147_5 hx146_0 hx146_1 hx146_2 hx146_3 hx146_4 hx146_5 hx146_6 hx147_0 hx147_1 hx147_2 hx147_3 hx147_4 hx147_5 hx147_6 hHeld ⊢
                              refine pure_ (i := 0) (N := some 37) (v := ?_) (a' := ?_) #[true, false, false, false, false, false, false, false, false, false] rfl rfl (any_of HT_.out (by kernel_rfl)) (fun _ _ _ h => h) (Or.inl ⟨by rfl, ?_⟩) ?_ ?_
                              rotate_left
                              · intro w'
                                go_simp
                                with_reducible rfl
                              rotate_left
                              · simp only [Act.put, List.setIfInBounds_toArray, List.set_cons_zero, List.set_cons_succ, i64_w, i32_w]
                                rfl
                              refine pure_ (i := 1) (N := some 38) (v := ?_) (a' := ?_) #[true, true, false, false, false, false, false, false, false, false] rfl rfl (any_of HT_.out (by kernel_rfl)) (fun _ _ _ h => h) (Or.inl ⟨by rfl, ?_⟩) ?_ ?_
                              rotate_left
                              · intro w'
                                go_simp
                                with_reducible rfl
                              rotate_left
                              · simp only [Act.put, List.setIfInBounds_toArray, List.set_cons_zero, List.set_cons_succ, i64_w, i32_w]
                                rfl
                              refine pure_ (i := 2) (N := some 39) (v := ?_) (a' := ?_) #[true, true, true, false, false, false, false, false, false, false] rfl rfl (any_of HT_.out (by kernel_rfl)) (fun _ _ _ h => h) (Or.inl ⟨by rfl, ?_⟩) ?_ ?_
                              rotate_left
                              · intro w'
                                go_simp
                                with_reducible rfl
                              rotate_left
                              · simp only [Act.put, List.setIfInBounds_toArray, List.set_cons_zero, List.set_cons_succ, i64_w, i32_w]
                                rfl
                              refine pure_ (i := 4) (N := some 41) (v := ?_) (a' := ?_) #[true, true, true, false, true, false, false, false, false, false] rfl rfl (any_of HT_.out (by kernel_rfl)) (fun _ _ _ h => h) (Or.inl ⟨by rfl, ?_⟩) ?_ ?_
                              rotate_left
                              · intro w'
                                go_simp
                                with_reducible rfl
                              rotate_left
                              · simp only [Act.put, List.setIfInBounds_toArray, List.set_cons_zero, List.set_cons_succ, i64_w, i32_w]
                                rfl
                              refine pure_ (i := 5) (N := some 42) (v := ?_) (a' := ?_) #[true, true, true, false, true, true, false, false, false, false] rfl rfl (any_of HT_.out (by kernel_rfl)) (fun _ _ _ h => h) (Or.inl ⟨by rfl, ?_⟩) ?_ ?_
                              rotate_left
                              · intro w'
                                go_simp
                                with_reducible rfl
                              rotate_left
                              · simp only [Act.put, List.setIfInBounds_toArray, List.set_cons_zero, List.set_cons_succ, i64_w, i32_w]
                                rfl
                              refine pure_ (i := 6) (N := some 43) (v := ?_) (a' := ?_) #[true, true, true, false, true, true, true, false, false, false] rfl rfl (any_of HT_.out (by kernel_rfl)) (fun _ _ _ h => h) (Or.inl ⟨by rfl, ?_⟩) ?_ ?_
                              rotate_left
                              · intro w'
                                go_simp
                                with_reducible rfl
                              rotate_left
                              · simp only [Act.put, List.setIfInBounds_toArray, List.set_cons_zero, List.set_cons_succ, i64_w, i32_w]
                                rfl
                              refine pure_ (i := 8) (N := some 45) (v := ?_) (a' := ?_) #[true, true, true, false, true, true, true, false, true, false] rfl rfl (any_of HT_.out (by kernel_rfl)) (fun _ _ _ h => h) (Or.inl ⟨by rfl, ?_⟩) ?_ ?_
                              rotate_left
                              · intro w'
                                go_simp
                                with_reducible rfl
                              rotate_left
                              · simp only [Act.put, List.setIfInBounds_toArray, List.set_cons_zero, List.set_cons_succ, i64_w, i32_w]
                                rfl
                              refine take_ (i := 3) (N := some 40) (v := ?_) (a' := ?_) #[true, true, true, true, true, true, true, false, true, false] rfl rfl (take_ofW HT_.out HW_.out (by kernel_rfl)) (fun _ _ _ h => h) (Or.inl ⟨by rfl, ?_⟩) hHeld ?_ ?_
                              rotate_left
                              · rintro w' ⟨s0, s1, s2, s3, s4, s5, s6, s7, s8, s9, s10, s11, s12, s13⟩
                                go_simp
                                with_reducible rfl
                              rotate_left
                              · simp only [Act.put, List.setIfInBounds_toArray, List.set_cons_zero, List.set_cons_succ, i64_w, i32_w]
                                rfl
                              refine take_ (i := 7) (N := some 44) (v := ?_) (a' := ?_) #[true, true, true, true, true, true, true, true, true, false] rfl rfl (take_ofW HT_.out HW_.out (by kernel_rfl)) (fun _ _ _ h => h) (Or.inl ⟨by rfl, ?_⟩) hHeld ?_ ?_
                              rotate_left
                              · rintro w' ⟨s0, s1, s2, s3, s4, s5, s6, s7, s8, s9, s10, s11, s12, s13⟩
                                go_simp
                                with_reducible rfl
                              rotate_left
                              · simp only [Act.put, List.setIfInBounds_toArray, List.set_cons_zero, List.set_cons_succ, i64_w, i32_w]
                                rfl
                              refine one_ (i := 9) (N := some 46) #[true, true, true, true, true, true, true, true, true, true] rfl rfl (one_of HT_.out (by kernel_rfl)) (by decide) (fun K hK => ?_)
                              refine goes_ Try.func18 (by kernel_rfl) rfl #[.agg #[.string ((rd_T27 l0 x7_1).f0), .slice A146_1 ((rd_T27 l0 x7_1).f1).length c146_1, .slice A146_2 ((rd_T27 l0 x7_1).f2).length c146_2, .int .i64 ((rd_T27 l0 x7_1).f3.f0), .slice A146_4 ((rd_T27 l0 x7_1).f3.f1).length c146_4, .slice A146_5 ((rd_T27 l0 x7_1).f3.f2).length c146_5, .int .i64 ((rd_T27 l0 x7_1).f3.f3)], .agg #[.string ((rd_T27 l1 x9_2).f0), .slice A147_1 ((rd_T27 l1 x9_2).f1).length c147_1, .slice A147_2 ((rd_T27 l1 x9_2).f2).length c147_2, .int .i64 ((rd_T27 l1 x9_2).f3.f0), .slice A147_4 ((rd_T27 l1 x9_2).f3.f1).length c147_4, .slice A147_5 ((rd_T27 l1 x9_2).f3.f2).length c147_5, .int .i64 ((rd_T27 l1 x9_2).f3.f3)], .slice A2 l2.length c2] (by rfl) rfl rfl (by (try simp only [List.map_toArray, List.map_cons, List.map_nil]); first | done | rfl | (simp only [List.length_drop, List.length_take]; rfl)) ?_
                              with_reducible refine (scarfref14_Sigs.calls kj4 ((rd_T27 l0 x7_1).f0) _ _ ((rd_T27 l0 x7_1).f1) _ _ ((rd_T27 l0 x7_1).f2) ((rd_T27 l0 x7_1).f3.f0) _ _ ((rd_T27 l0 x7_1).f3.f1) _ _ ((rd_T27 l0 x7_1).f3.f2) ((rd_T27 l0 x7_1).f3.f3) ((rd_T27 l1 x9_2).f0) _ _ ((rd_T27 l1 x9_2).f1) _ _ ((rd_T27 l1 x9_2).f2) ((rd_T27 l1 x9_2).f3.f0) _ _ ((rd_T27 l1 x9_2).f3.f1) _ _ ((rd_T27 l1 x9_2).f3.f2) ((rd_T27 l1 x9_2).f3.f3) _ _ l2 true _ ?side1 ?side2 ?side3 ?side4 ?side5 ?side6 ?side7 ?side8 ?side9 ?side10 ?side11 ?side12 ?side13 ?side14 ?side15 ?side16 ?side17 ?side18 A13.out).mono ?_
                              (case side1 => repeat (first | exact (Kd.C_below HR146_1.out HB.out) | (with_reducible refine Kd.C_alloc ?_ _) | (with_reducible refine Kd.C_drewN ?_ _) | (with_reducible refine Kd.C_drew ?_)))
                              (case side2 => exact HC146_1.out)
                              (case side3 => repeat (first | exact (Kd.C_below HR146_2.out HB.out) | (with_reducible refine Kd.C_alloc ?_ _) | (with_reducible refine Kd.C_drewN ?_ _) | (with_reducible refine Kd.C_drew ?_)))
                              (case side4 => exact HC146_2.out)
                              (case side5 => repeat (first | exact (Kd.C_below HR146_4.out HB.out) | (with_reducible refine Kd.C_alloc ?_ _) | (with_reducible refine Kd.C_drewN ?_ _) | (with_reducible refine Kd.C_drew ?_)))
                              (case side6 => exact HC146_4.out)
                              (case side7 => repeat (first | exact (Kd.C_below HR146_5.out HB.out) | (with_reducible refine Kd.C_alloc ?_ _) | (with_reducible refine Kd.C_drewN ?_ _) | (with_reducible refine Kd.C_drew ?_)))
                              (case side8 => exact HC146_5.out)
                              (case side9 => repeat (first | exact (Kd.C_below HR147_1.out HB.out) | (with_reducible refine Kd.C_alloc ?_ _) | (with_reducible refine Kd.C_drewN ?_ _) | (with_reducible refine Kd.C_drew ?_)))
                              (case side10 => exact HC147_1.out)
                              (case side11 => repeat (first | exact (Kd.C_below HR147_2.out HB.out) | (with_reducible refine Kd.C_alloc ?_ _) | (with_reducible refine Kd.C_drewN ?_ _) | (with_reducible refine Kd.C_drew ?_)))
                              (case side12 => exact HC147_2.out)
                              (case side13 => repeat (first | exact (Kd.C_below HR147_4.out HB.out) | (with_reducible refine Kd.C_alloc ?_ _) | (with_reducible refine Kd.C_drewN ?_ _) | (with_reducible refine Kd.C_drew ?_)))
                              (case side14 => exact HC147_4.out)
                              (case side15 => repeat (first | exact (Kd.C_below HR147_5.out HB.out) | (with_reducible refine Kd.C_alloc ?_ _) | (with_reducible refine Kd.C_drewN ?_ _) | (with_reducible refine Kd.C_drew ?_)))
                              (case side16 => exact HC147_5.out)
                              (case side17 => repeat (first | exact (Kd.C_below HR2.out HB.out) | (with_reducible refine Kd.C_alloc ?_ _) | (with_reducible refine Kd.C_drewN ?_ _) | (with_reducible refine Kd.C_drew ?_)))
                              (case side18 => exact HC2.out)
                              rintro e w17 ⟨rfl, hb⟩
                              refine ⟨_, rfl, ?_⟩
                              have n0_ := Aside0.mk (below_step (by repeat (first | (with_reducible first | exact HB.out | apply below_alloc | apply pw_below_drewN | apply below_drew1) | exact HB.out)) hb)
                              clear HB
                              have HB := n0_
                              clear n0_
                              (try clear hb)
                              (try clear hb2)
                              (try clear hk)
                              (try clear hi)
                              refine hK.out _ _ ⟨((HB.out.cell (World.block_lt_of_cell? w _ hw146_0)).trans hw146_0), ((HB.out.cell (World.block_lt_of_cell? w _ hw146_1)).trans hw146_1), ((HB.out.cell (World.block_lt_of_cell? w _ hw146_2)).trans hw146_2), ((HB.out.cell (World.block_lt_of_cell? w _ hw146_3)).trans hw146_3), ((HB.out.cell (World.block_lt_of_cell? w _ hw146_4)).trans hw146_4), ((HB.out.cell (World.block_lt_of_cell? w _ hw146_5)).trans hw146_5), ((HB.out.cell (World.block_lt_of_cell? w _ hw146_6)).trans hw146_6), ((HB.out.cell (World.block_lt_of_cell? w _ hw147_0)).trans hw147_0), ((HB.out.cell (World.block_lt_of_cell? w _ hw147_1)).trans hw147_1), ((HB.out.cell (World.block_lt_of_cell? w _ hw147_2)).trans hw147_2), ((HB.out.cell (World.block_lt_of_cell? w _ hw147_3)).trans hw147_3), ((HB.out.cell (World.block_lt_of_cell? w _ hw147_4)).trans hw147_4), ((HB.out.cell (World.block_lt_of_cell? w _ hw147_5)).trans hw147_5), ((HB.out.cell (World.block_lt_of_cell? w _ hw147_6)).trans hw147_6)⟩ (fun hHeld => ?_)
                              clear hK K
                              refine norm_ (a' := ?_) ?_ ?_
                              rotate_left
                              · show Act.put _ (some 46) _ = _
                                simp only [Act.put, List.setIfInBounds_toArray, List.set_cons_zero, List.set_cons_succ, i64_w, i32_w]
                                rfl
                              refine done_ (done_of HT_.out (by kernel_rfl)) ?_
                              try go_wp2
                              go_roundg kj4
                              case measure => have := HK1.out; have := HK2.out; have := HJ4.out; omega
                              case rel => exact ⟨(0), (wrap64 (x9_2 + 1)), (by first | rfl | (simp; done) | (simp [*]; done)), (by first | rfl | (simp; done) | (simp [*]; done)), H', ⟨by have := HK1.out; have := HK2.out; have := HJ4.out; omega⟩, ⟨by repeat (first | (with_reducible first | exact HB.out | apply below_alloc | apply pw_below_drewN | apply below_drew1) | exact HB.out)⟩⟩
                            · replace c14 := Bool.eq_false_iff.mpr c14
                              subst c14
                              have H1 : (scarfref14_each.l1 kj4 l0 l1 l2 x7_1 6 (wrap64 (x9_2 + 1))) = some r := by rw [if_neg (show ¬ (false = true) by decide)] at H; exact H
                              clear H
                              have H := H1
                              clear H1
                              have H' := Aside0.mk H
                              clear H
                              try go_wp2
                              have n0_ := Aside0.mk (below_drew1 HB.out)
                              clear HB
                              have HB := n0_
                              clear n0_
                              have p144 : 0 ≤ (x9_2 : Int) := of_decide_eq_true (by first | (with_reducible assumption) | assumption)
                              have q144 : x9_2 < (l1.length : Int) := of_decide_eq_true (by first | (with_reducible assumption) | assumption)
                              obtain ⟨ad144, A144_1, c144_1, A144_2, c144_2, A144_4, c144_4, A144_5, c144_5, e144, hx144_0, hx144_1, hx144_2, hx144_3, hx144_4, hx144_5, hx144_6, hl144_1, hi144_1, hl144_2, hi144_2, hl144_4, hi144_4, hl144_5, hi144_5⟩ := at_T27 HR1.out x9_2 p144 q144
                              have hw144_6 := hx144_6
                              have hw144_5 := hx144_5
                              have hw144_4 := hx144_4
                              have hw144_3 := hx144_3
                              have hw144_2 := hx144_2
                              have hw144_1 := hx144_1
                              have hw144_0 := hx144_0
                              cases e144
                              replace hx144_0 := (HB.out.cell (World.block_lt_of_cell? w _ hx144_0)).trans hx144_0
                              replace hx144_1 := (HB.out.cell (World.block_lt_of_cell? w _ hx144_1)).trans hx144_1
                              replace hx144_2 := (HB.out.cell (World.block_lt_of_cell? w _ hx144_2)).trans hx144_2
                              replace hx144_3 := (HB.out.cell (World.block_lt_of_cell? w _ hx144_3)).trans hx144_3
                              replace hx144_4 := (HB.out.cell (World.block_lt_of_cell? w _ hx144_4)).trans hx144_4
                              replace hx144_5 := (HB.out.cell (World.block_lt_of_cell? w _ hx144_5)).trans hx144_5
                              replace hx144_6 := (HB.out.cell (World.block_lt_of_cell? w _ hx144_6)).trans hx144_6
                              have HR144_1 := Aside0.mk hi144_1
                              have HC144_1 := Aside0.mk hl144_1
                              clear hi144_1 hl144_1
                              have HR144_2 := Aside0.mk hi144_2
                              have HC144_2 := Aside0.mk hl144_2
                              clear hi144_2 hl144_2
                              have HR144_4 := Aside0.mk hi144_4
                              have HC144_4 := Aside0.mk hl144_4
                              clear hi144_4 hl144_4
                              have HR144_5 := Aside0.mk hi144_5
                              have HC144_5 := Aside0.mk hl144_5
                              clear hi144_5 hl144_5
                              replace p144 := eq_true p144
                              replace q144 := eq_true q144
                              have p145 : 0 ≤ (x7_1 : Int) := of_decide_eq_true (by first | (with_reducible assumption) | assumption)
                              have q145 : x7_1 < (l0.length : Int) := of_decide_eq_true (by first | (with_reducible assumption) | assumption)
                              obtain ⟨ad145, A145_1, c145_1, A145_2, c145_2, A145_4, c145_4, A145_5, c145_5, e145, hx145_0, hx145_1, hx145_2, hx145_3, hx145_4, hx145_5, hx145_6, hl145_1, hi145_1, hl145_2, hi145_2, hl145_4, hi145_4, hl145_5, hi145_5⟩ := at_T27 HR0.out x7_1 p145 q145
                              have hw145_6 := hx145_6
                              have hw145_5 := hx145_5
                              have hw145_4 := hx145_4
                              have hw145_3 := hx145_3
                              have hw145_2 := hx145_2
                              have hw145_1 := hx145_1
                              have hw145_0 := hx145_0
                              cases e145
                              replace hx145_0 := (HB.out.cell (World.block_lt_of_cell? w _ hx145_0)).trans hx145_0
                              replace hx145_1 := (HB.out.cell (World.block_lt_of_cell? w _ hx145_1)).trans hx145_1
                              replace hx145_2 := (HB.out.cell (World.block_lt_of_cell? w _ hx145_2)).trans hx145_2
                              replace hx145_3 := (HB.out.cell (World.block_lt_of_cell? w _ hx145_3)).trans hx145_3
                              replace hx145_4 := (HB.out.cell (World.block_lt_of_cell? w _ hx145_4)).trans hx145_4
                              replace hx145_5 := (HB.out.cell (World.block_lt_of_cell? w _ hx145_5)).trans hx145_5
                              replace hx145_6 := (HB.out.cell (World.block_lt_of_cell? w _ hx145_6)).trans hx145_6
                              have HR145_1 := Aside0.mk hi145_1
                              have HC145_1 := Aside0.mk hl145_1
                              clear hi145_1 hl145_1
                              have HR145_2 := Aside0.mk hi145_2
                              have HC145_2 := Aside0.mk hl145_2
                              clear hi145_2 hl145_2
                              have HR145_4 := Aside0.mk hi145_4
                              have HC145_4 := Aside0.mk hl145_4
                              clear hi145_4 hl145_4
                              have HR145_5 := Aside0.mk hi145_5
                              have HC145_5 := Aside0.mk hl145_5
                              clear hi145_5 hl145_5
                              replace p145 := eq_true p145
                              replace q145 := eq_true q145
                              refine start_ (n := 11) (S := fun w' => w'.cell? (ad144.add ((x9_2).toNat * 7)) = some (.string ((rd_T27 l1 x9_2).f0)) ∧ w'.cell? ⟨(ad144.add ((x9_2).toNat * 7)).block, (ad144.add ((x9_2).toNat * 7)).off + 1, none⟩ = some (.slice A144_1 ((rd_T27 l1 x9_2).f1).length c144_1) ∧ w'.cell? ⟨(ad144.add ((x9_2).toNat * 7)).block, (ad144.add ((x9_2).toNat * 7)).off + 2, none⟩ = some (.slice A144_2 ((rd_T27 l1 x9_2).f2).length c144_2) ∧ w'.cell? ⟨(ad144.add ((x9_2).toNat * 7)).block, (ad144.add ((x9_2).toNat * 7)).off + 3, none⟩ = some (.int .i64 ((rd_T27 l1 x9_2).f3.f0)) ∧ w'.cell? ⟨(ad144.add ((x9_2).toNat * 7)).block, (ad144.add ((x9_2).toNat * 7)).off + 4, none⟩ = some (.slice A144_4 ((rd_T27 l1 x9_2).f3.f1).length c144_4) ∧ w'.cell? ⟨(ad144.add ((x9_2).toNat * 7)).block, (ad144.add ((x9_2).toNat * 7)).off + 5, none⟩ = some (.slice A144_5 ((rd_T27 l1 x9_2).f3.f2).length c144_5) ∧ w'.cell? ⟨(ad144.add ((x9_2).toNat * 7)).block, (ad144.add ((x9_2).toNat * 7)).off + 6, none⟩ = some (.int .i64 ((rd_T27 l1 x9_2).f3.f3)) ∧ w'.cell? (ad145.add ((x7_1).toNat * 7)) = some (.string ((rd_T27 l0 x7_1).f0)) ∧ w'.cell? ⟨(ad145.add ((x7_1).toNat * 7)).block, (ad145.add ((x7_1).toNat * 7)).off + 1, none⟩ = some (.slice A145_1 ((rd_T27 l0 x7_1).f1).length c145_1) ∧ w'.cell? ⟨(ad145.add ((x7_1).toNat * 7)).block, (ad145.add ((x7_1).toNat * 7)).off + 2, none⟩ = some (.slice A145_2 ((rd_T27 l0 x7_1).f2).length c145_2) ∧ w'.cell? ⟨(ad145.add ((x7_1).toNat * 7)).block, (ad145.add ((x7_1).toNat * 7)).off + 3, none⟩ = some (.int .i64 ((rd_T27 l0 x7_1).f3.f0)) ∧ w'.cell? ⟨(ad145.add ((x7_1).toNat * 7)).block, (ad145.add ((x7_1).toNat * 7)).off + 4, none⟩ = some (.slice A145_4 ((rd_T27 l0 x7_1).f3.f1).length c145_4) ∧ w'.cell? ⟨(ad145.add ((x7_1).toNat * 7)).block, (ad145.add ((x7_1).toNat * 7)).off + 5, none⟩ = some (.slice A145_5 ((rd_T27 l0 x7_1).f3.f2).length c145_5) ∧ w'.cell? ⟨(ad145.add ((x7_1).toNat * 7)).block, (ad145.add ((x7_1).toNat * 7)).off + 6, none⟩ = some (.int .i64 ((rd_T27 l0 x7_1).f3.f3))) (ds := []) #[false, false, false, false, false, false, false, false, false, false, false] (by kernel_rfl) rfl rfl ⟨((HB.out.cell (World.block_lt_of_cell? w _ hw144_0)).trans hw144_0), ((HB.out.cell (World.block_lt_of_cell? w _ hw144_1)).trans hw144_1), ((HB.out.cell (World.block_lt_of_cell? w _ hw144_2)).trans hw144_2), ((HB.out.cell (World.block_lt_of_cell? w _ hw144_3)).trans hw144_3), ((HB.out.cell (World.block_lt_of_cell? w _ hw144_4)).trans hw144_4), ((HB.out.cell (World.block_lt_of_cell? w _ hw144_5)).trans hw144_5), ((HB.out.cell (World.block_lt_of_cell? w _ hw144_6)).trans hw144_6), ((HB.out.cell (World.block_lt_of_cell? w _ hw145_0)).trans hw145_0), ((HB.out.cell (World.block_lt_of_cell? w _ hw145_1)).trans hw145_1), ((HB.out.cell (World.block_lt_of_cell? w _ hw145_2)).trans hw145_2), ((HB.out.cell (World.block_lt_of_cell? w _ hw145_3)).trans hw145_3), ((HB.out.cell (World.block_lt_of_cell? w _ hw145_4)).trans hw145_4), ((HB.out.cell (World.block_lt_of_cell? w _ hw145_5)).trans hw145_5), ((HB.out.cell (World.block_lt_of_cell? w _ hw145_6)).trans hw145_6)⟩ (fun hHeld => ?_); refine with_tabW scarfref14_each.tab8 scarfref14_each.bits8 (fun HT_ HW_ => ?_)
                              generalize wc.drew = w18 at HB HR144_1 HR144_2 HR144_4 HR144_5 HR145_1 HR145_2 HR145_4 HR145_5 hx144_0 hx144_1 hx144_2 hx144_3 hx144_4 hx144_5 hx144_6 hx145_0 hx145_1 hx145_2 hx145_3 hx145_4 hx145_5 hx145_6 hHeld ⊢
                              refine pure_ (i := 0) (N := some 26) (v := ?_) (a' := ?_) #[true, false, false, false, false, false, false, false, false, false, false] rfl rfl (any_of HT_.out (by kernel_rfl)) (fun _ _ _ h => h) (Or.inl ⟨by rfl, ?_⟩) ?_ ?_
                              rotate_left
                              · intro w'
                                go_simp
                                with_reducible rfl
                              rotate_left
                              · simp only [Act.put, List.setIfInBounds_toArray, List.set_cons_zero, List.set_cons_succ, i64_w, i32_w]
                                rfl
                              refine pure_ (i := 1) (N := some 27) (v := ?_) (a' := ?_) #[true, true, false, false, false, false, false, false, false, false, false] rfl rfl (any_of HT_.out (by kernel_rfl)) (fun _ _ _ h => h) (Or.inl ⟨by rfl, ?_⟩) ?_ ?_
                              rotate_left
                              · intro w'
                                go_simp
                                with_reducible rfl
                              rotate_left
                              · simp only [Act.put, List.setIfInBounds_toArray, List.set_cons_zero, List.set_cons_succ, i64_w, i32_w]
                                rfl
                              refine pure_ (i := 2) (N := some 28) (v := ?_) (a' := ?_) #[true, true, true, false, false, false, false, false, false, false, false] rfl rfl (any_of HT_.out (by kernel_rfl)) (fun _ _ _ h => h) (Or.inl ⟨by rfl, ?_⟩) ?_ ?_
                              rotate_left
                              · intro w'
                                go_simp
                                with_reducible rfl
                              rotate_left
                              · simp only [Act.put, List.setIfInBounds_toArray, List.set_cons_zero, List.set_cons_succ, i64_w, i32_w]
                                rfl
                              refine pure_ (i := 3) (N := some 29) (v := ?_) (a' := ?_) #[true, true, true, true, false, false, false, false, false, false, false] rfl rfl (any_of HT_.out (by kernel_rfl)) (fun _ _ _ h => h) (Or.inl ⟨by rfl, ?_⟩) ?_ ?_
                              rotate_left
                              · intro w'
                                go_simp
                                with_reducible rfl
                              rotate_left
                              · simp only [Act.put, List.setIfInBounds_toArray, List.set_cons_zero, List.set_cons_succ, i64_w, i32_w]
                                rfl
                              refine pure_ (i := 5) (N := some 31) (v := ?_) (a' := ?_) #[true, true, true, true, false, true, false, false, false, false, false] rfl rfl (any_of HT_.out (by kernel_rfl)) (fun _ _ _ h => h) (Or.inl ⟨by rfl, ?_⟩) ?_ ?_
                              rotate_left
                              · intro w'
                                go_simp
                                with_reducible rfl
                              rotate_left
                              · simp only [Act.put, List.setIfInBounds_toArray, List.set_cons_zero, List.set_cons_succ, i64_w, i32_w]
                                rfl
                              refine pure_ (i := 6) (N := some 32) (v := ?_) (a' := ?_) #[true, true, true, true, false, true, true, false, false, false, false] rfl rfl (any_of HT_.out (by kernel_rfl)) (fun _ _ _ h => h) (Or.inl ⟨by rfl, ?_⟩) ?_ ?_
                              rotate_left
                              · intro w'
                                go_simp
                                with_reducible rfl
                              rotate_left
                              · simp only [Act.put, List.setIfInBounds_toArray, List.set_cons_zero, List.set_cons_succ, i64_w, i32_w]
                                rfl
                              refine pure_ (i := 7) (N := some 33) (v := ?_) (a' := ?_) #[true, true, true, true, false, true, true, true, false, false, false] rfl rfl (any_of HT_.out (by kernel_rfl)) (fun _ _ _ h => h) (Or.inl ⟨by rfl, ?_⟩) ?_ ?_
                              rotate_left
                              · intro w'
                                go_simp
                                with_reducible rfl
                              rotate_left
                              · simp only [Act.put, List.setIfInBounds_toArray, List.set_cons_zero, List.set_cons_succ, i64_w, i32_w]
                                rfl
                              refine pure_ (i := 8) (N := some 34) (v := ?_) (a' := ?_) #[true, true, true, true, false, true, true, true, true, false, false] rfl rfl (any_of HT_.out (by kernel_rfl)) (fun _ _ _ h => h) (Or.inl ⟨by rfl, ?_⟩) ?_ ?_
                              rotate_left
                              · intro w'
                                go_simp
                                with_reducible rfl
                              rotate_left
                              · simp only [Act.put, List.setIfInBounds_toArray, List.set_cons_zero, List.set_cons_succ, i64_w, i32_w]
                                rfl
                              refine take_ (i := 4) (N := some 30) (v := ?_) (a' := ?_) #[true, true, true, true, true, true, true, true, true, false, false] rfl rfl (take_ofW HT_.out HW_.out (by kernel_rfl)) (fun _ _ _ h => h) (Or.inl ⟨by rfl, ?_⟩) hHeld ?_ ?_
                              rotate_left
                              · rintro w' ⟨s0, s1, s2, s3, s4, s5, s6, s7, s8, s9, s10, s11, s12, s13⟩
                                go_simp
                                with_reducible rfl
                              rotate_left
                              · simp only [Act.put, List.setIfInBounds_toArray, List.set_cons_zero, List.set_cons_succ, i64_w, i32_w]
                                rfl
                              refine take_ (i := 9) (N := some 35) (v := ?_) (a' := ?_) #[true, true, true, true, true, true, true, true, true, true, false] rfl rfl (take_ofW HT_.out HW_.out (by kernel_rfl)) (fun _ _ _ h => h) (Or.inl ⟨by rfl, ?_⟩) hHeld ?_ ?_
                              rotate_left
                              · rintro w' ⟨s0, s1, s2, s3, s4, s5, s6, s7, s8, s9, s10, s11, s12, s13⟩
                                go_simp
                                with_reducible rfl
                              rotate_left
                              · simp only [Act.put, List.setIfInBounds_toArray, List.set_cons_zero, List.set_cons_succ, i64_w, i32_w]
                                rfl
                              refine pure_ (i := 10) (N := some 36) (v := ?_) (a' := ?_) #[true, true, true, true, true, true, true, true, true, true, true] rfl rfl (any_of HT_.out (by kernel_rfl)) (fun _ _ _ h => h) (Or.inl ⟨by rfl, ?_⟩) ?_ ?_
                              rotate_left
                              · intro w'
                                go_simp
                                with_reducible rfl
                              rotate_left
                              · simp only [Act.put, List.setIfInBounds_toArray, List.set_cons_zero, List.set_cons_succ, i64_w, i32_w]
                                rfl
                              refine done_ (done_of HT_.out (by kernel_rfl)) ?_
                              try go_wp2
                              have n0_ := Aside0.mk (below_drew1 HB.out)
                              clear HB
                              have HB := n0_
                              clear n0_
                              have p146 : 0 ≤ (x7_1 : Int) := of_decide_eq_true (by first | (with_reducible assumption) | assumption)
                              have q146 : x7_1 < (l0.length : Int) := of_decide_eq_true (by first | (with_reducible assumption) | assumption)
                              obtain ⟨ad146, A146_1, c146_1, A146_2, c146_2, A146_4, c146_4, A146_5, c146_5, e146, hx146_0, hx146_1, hx146_2, hx146_3, hx146_4, hx146_5, hx146_6, hl146_1, hi146_1, hl146_2, hi146_2, hl146_4, hi146_4, hl146_5, hi146_5⟩ := at_T27 HR0.out x7_1 p146 q146
                              have hw146_6 := hx146_6
                              have hw146_5 := hx146_5
                              have hw146_4 := hx146_4
                              have hw146_3 := hx146_3
                              have hw146_2 := hx146_2
                              have hw146_1 := hx146_1
                              have hw146_0 := hx146_0
                              obtain rfl : ad145 = ad146 := (by injection e146)
                              replace hx146_0 := (HB.out.cell (World.block_lt_of_cell? w _ hx146_0)).trans hx146_0
                              replace hx146_1 := (HB.out.cell (World.block_lt_of_cell? w _ hx146_1)).trans hx146_1
                              replace hx146_2 := (HB.out.cell (World.block_lt_of_cell? w _ hx146_2)).trans hx146_2
                              replace hx146_3 := (HB.out.cell (World.block_lt_of_cell? w _ hx146_3)).trans hx146_3
                              replace hx146_4 := (HB.out.cell (World.block_lt_of_cell? w _ hx146_4)).trans hx146_4
                              replace hx146_5 := (HB.out.cell (World.block_lt_of_cell? w _ hx146_5)).trans hx146_5
                              replace hx146_6 := (HB.out.cell (World.block_lt_of_cell? w _ hx146_6)).trans hx146_6
                              have HR146_1 := Aside0.mk hi146_1
                              have HC146_1 := Aside0.mk hl146_1
                              clear hi146_1 hl146_1
                              have HR146_2 := Aside0.mk hi146_2
                              have HC146_2 := Aside0.mk hl146_2
                              clear hi146_2 hl146_2
                              have HR146_4 := Aside0.mk hi146_4
                              have HC146_4 := Aside0.mk hl146_4
                              clear hi146_4 hl146_4
                              have HR146_5 := Aside0.mk hi146_5
                              have HC146_5 := Aside0.mk hl146_5
                              clear hi146_5 hl146_5
                              replace p146 := eq_true p146
                              replace q146 := eq_true q146
                              have p147 : 0 ≤ (x9_2 : Int) := of_decide_eq_true (by first | (with_reducible assumption) | assumption)
                              have q147 : x9_2 < (l1.length : Int) := of_decide_eq_true (by first | (with_reducible assumption) | assumption)
                              obtain ⟨ad147, A147_1, c147_1, A147_2, c147_2, A147_4, c147_4, A147_5, c147_5, e147, hx147_0, hx147_1, hx147_2, hx147_3, hx147_4, hx147_5, hx147_6, hl147_1, hi147_1, hl147_2, hi147_2, hl147_4, hi147_4, hl147_5, hi147_5⟩ := at_T27 HR1.out x9_2 p147 q147
                              have hw147_6 := hx147_6
                              have hw147_5 := hx147_5
                              have hw147_4 := hx147_4
                              have hw147_3 := hx147_3
                              have hw147_2 := hx147_2
                              have hw147_1 := hx147_1
                              have hw147_0 := hx147_0
                              obtain rfl : ad144 = ad147 := (by injection e147)
                              replace hx147_0 := (HB.out.cell (World.block_lt_of_cell? w _ hx147_0)).trans hx147_0
                              replace hx147_1 := (HB.out.cell (World.block_lt_of_cell? w _ hx147_1)).trans hx147_1
                              replace hx147_2 := (HB.out.cell (World.block_lt_of_cell? w _ hx147_2)).trans hx147_2
                              replace hx147_3 := (HB.out.cell (World.block_lt_of_cell? w _ hx147_3)).trans hx147_3
                              replace hx147_4 := (HB.out.cell (World.block_lt_of_cell? w _ hx147_4)).trans hx147_4
                              replace hx147_5 := (HB.out.cell (World.block_lt_of_cell? w _ hx147_5)).trans hx147_5
                              replace hx147_6 := (HB.out.cell (World.block_lt_of_cell? w _ hx147_6)).trans hx147_6
                              have HR147_1 := Aside0.mk hi147_1
                              have HC147_1 := Aside0.mk hl147_1
                              clear hi147_1 hl147_1
                              have HR147_2 := Aside0.mk hi147_2
                              have HC147_2 := Aside0.mk hl147_2
                              clear hi147_2 hl147_2
                              have HR147_4 := Aside0.mk hi147_4
                              have HC147_4 := Aside0.mk hl147_4
                              clear hi147_4 hl147_4
                              have HR147_5 := Aside0.mk hi147_5
                              have HC147_5 := Aside0.mk hl147_5
                              clear hi147_5 hl147_5
                              replace p147 := eq_true p147
                              replace q147 := eq_true q147
                              refine start_ (n := 10) (S := fun w' => w'.cell? (ad145.add ((x7_1).toNat * 7)) = some (.string ((rd_T27 l0 x7_1).f0)) ∧ w'.cell? ⟨(ad145.add ((x7_1).toNat * 7)).block, (ad145.add ((x7_1).toNat * 7)).off + 1, none⟩ = some (.slice A146_1 ((rd_T27 l0 x7_1).f1).length c146_1) ∧ w'.cell? ⟨(ad145.add ((x7_1).toNat * 7)).block, (ad145.add ((x7_1).toNat * 7)).off + 2, none⟩ = some (.slice A146_2 ((rd_T27 l0 x7_1).f2).length c146_2) ∧ w'.cell? ⟨(ad145.add ((x7_1).toNat * 7)).block, (ad145.add ((x7_1).toNat * 7)).off + 3, none⟩ = some (.int .i64 ((rd_T27 l0 x7_1).f3.f0)) ∧ w'.cell? ⟨(ad145.add ((x7_1).toNat * 7)).block, (ad145.add ((x7_1).toNat * 7)).off + 4, none⟩ = some (.slice A146_4 ((rd_T27 l0 x7_1).f3.f1).length c146_4) ∧ w'.cell? ⟨(ad145.add ((x7_1).toNat * 7)).block, (ad145.add ((x7_1).toNat * 7)).off + 5, none⟩ = some (.slice A146_5 ((rd_T27 l0 x7_1).f3.f2).length c146_5) ∧ w'.cell? ⟨(ad145.add ((x7_1).toNat * 7)).block, (ad145.add ((x7_1).toNat * 7)).off + 6, none⟩ = some (.int .i64 ((rd_T27 l0 x7_1).f3.f3)) ∧ w'.cell? (ad144.add ((x9_2).toNat * 7)) = some (.string ((rd_T27 l1 x9_2).f0)) ∧ w'.cell? ⟨(ad144.add ((x9_2).toNat * 7)).block, (ad144.add ((x9_2).toNat * 7)).off + 1, none⟩ = some (.slice A147_1 ((rd_T27 l1 x9_2).f1).length c147_1) ∧ w'.cell? ⟨(ad144.add ((x9_2).toNat * 7)).block, (ad144.add ((x9_2).toNat * 7)).off + 2, none⟩ = some (.slice A147_2 ((rd_T27 l1 x9_2).f2).length c147_2) ∧ w'.cell? ⟨(ad144.add ((x9_2).toNat * 7)).block, (ad144.add ((x9_2).toNat * 7)).off + 3, none⟩ = some (.int .i64 ((rd_T27 l1 x9_2).f3.f0)) ∧ w'.cell? ⟨(ad144.add ((x9_2).toNat * 7)).block, (ad144.add ((x9_2).toNat * 7)).off + 4, none⟩ = some (.slice A147_4 ((rd_T27 l1 x9_2).f3.f1).length c147_4) ∧ w'.cell? ⟨(ad144.add ((x9_2).toNat * 7)).block, (ad144.add ((x9_2).toNat * 7)).off + 5, none⟩ = some (.slice A147_5 ((rd_T27 l1 x9_2).f3.f2).length c147_5) ∧ w'.cell? ⟨(ad144.add ((x9_2).toNat * 7)).block, (ad144.add ((x9_2).toNat * 7)).off + 6, none⟩ = some (.int .i64 ((rd_T27 l1 x9_2).f3.f3))) (ds := []) #[false, false, false, false, false, false, false, false, false, false] (by kernel_rfl) rfl rfl ⟨((HB.out.cell (World.block_lt_of_cell? w _ hw146_0)).trans hw146_0), ((HB.out.cell (World.block_lt_of_cell? w _ hw146_1)).trans hw146_1), ((HB.out.cell (World.block_lt_of_cell? w _ hw146_2)).trans hw146_2), ((HB.out.cell (World.block_lt_of_cell? w _ hw146_3)).trans hw146_3), ((HB.out.cell (World.block_lt_of_cell? w _ hw146_4)).trans hw146_4), ((HB.out.cell (World.block_lt_of_cell? w _ hw146_5)).trans hw146_5), ((HB.out.cell (World.block_lt_of_cell? w _ hw146_6)).trans hw146_6), ((HB.out.cell (World.block_lt_of_cell? w _ hw147_0)).trans hw147_0), ((HB.out.cell (World.block_lt_of_cell? w _ hw147_1)).trans hw147_1), ((HB.out.cell (World.block_lt_of_cell? w _ hw147_2)).trans hw147_2), ((HB.out.cell (World.block_lt_of_cell? w _ hw147_3)).trans hw147_3), ((HB.out.cell (World.block_lt_of_cell? w _ hw147_4)).trans hw147_4), ((HB.out.cell (World.block_lt_of_cell? w _ hw147_5)).trans hw147_5), ((HB.out.cell (World.block_lt_of_cell? w _ hw147_6)).trans hw147_6)⟩ (fun hHeld => ?_); refine with_tabW scarfref14_each.tab10 scarfref14_each.bits10 (fun HT_ HW_ => ?_)
                              generalize w18.drew = w19 at HB HR146_1 HR146_2 HR146_4 HR146_5 HR147_1 HR147_2 HR147_4 HR147_5 hx146_0 hx146_1 hx146_2 hx146_3 hx146_4 hx146_5 hx146_6 hx147_0 hx147_1 hx147_2 hx147_3 hx147_4 hx147_5 hx147_6 hHeld ⊢
                              refine pure_ (i := 0) (N := some 37) (v := ?_) (a' := ?_) #[true, false, false, false, false, false, false, false, false, false] rfl rfl (any_of HT_.out (by kernel_rfl)) (fun _ _ _ h => h) (Or.inl ⟨by rfl, ?_⟩) ?_ ?_
                              rotate_left
                              · intro w'
                                go_simp
                                with_reducible rfl
                              rotate_left
                              · simp only [Act.put, List.setIfInBounds_toArray, List.set_cons_zero, List.set_cons_succ, i64_w, i32_w]
                                rfl
                              refine pure_ (i := 1) (N := some 38) (v := ?_) (a' := ?_) #[true, true, false, false, false, false, false, false, false, false] rfl rfl (any_of HT_.out (by kernel_rfl)) (fun _ _ _ h => h) (Or.inl ⟨by rfl, ?_⟩) ?_ ?_
                              rotate_left
                              · intro w'
                                go_simp
                                with_reducible rfl
                              rotate_left
                              · simp only [Act.put, List.setIfInBounds_toArray, List.set_cons_zero, List.set_cons_succ, i64_w, i32_w]
                                rfl
                              refine pure_ (i := 2) (N := some 39) (v := ?_) (a' := ?_) #[true, true, true, false, false, false, false, false, false, false] rfl rfl (any_of HT_.out (by kernel_rfl)) (fun _ _ _ h => h) (Or.inl ⟨by rfl, ?_⟩) ?_ ?_
                              rotate_left
                              · intro w'
                                go_simp
                                with_reducible rfl
                              rotate_left
                              · simp only [Act.put, List.setIfInBounds_toArray, List.set_cons_zero, List.set_cons_succ, i64_w, i32_w]
                                rfl
                              refine pure_ (i := 4) (N := some 41) (v := ?_) (a' := ?_) #[true, true, true, false, true, false, false, false, false, false] rfl rfl (any_of HT_.out (by kernel_rfl)) (fun _ _ _ h => h) (Or.inl ⟨by rfl, ?_⟩) ?_ ?_
                              rotate_left
                              · intro w'
                                go_simp
                                with_reducible rfl
                              rotate_left
                              · simp only [Act.put, List.setIfInBounds_toArray, List.set_cons_zero, List.set_cons_succ, i64_w, i32_w]
                                rfl
                              refine pure_ (i := 5) (N := some 42) (v := ?_) (a' := ?_) #[true, true, true, false, true, true, false, false, false, false] rfl rfl (any_of HT_.out (by kernel_rfl)) (fun _ _ _ h => h) (Or.inl ⟨by rfl, ?_⟩) ?_ ?_
                              rotate_left
                              · intro w'
                                go_simp
                                with_reducible rfl
                              rotate_left
                              · simp only [Act.put, List.setIfInBounds_toArray, List.set_cons_zero, List.set_cons_succ, i64_w, i32_w]
                                rfl
                              refine pure_ (i := 6) (N := some 43) (v := ?_) (a' := ?_) #[true, true, true, false, true, true, true, false, false, false] rfl rfl (any_of HT_.out (by kernel_rfl)) (fun _ _ _ h => h) (Or.inl ⟨by rfl, ?_⟩) ?_ ?_
                              rotate_left
                              · intro w'
                                go_simp
                                with_reducible rfl
                              rotate_left
                              · simp only [Act.put, List.setIfInBounds_toArray, List.set_cons_zero, List.set_cons_succ, i64_w, i32_w]
                                rfl
                              refine pure_ (i := 8) (N := some 45) (v := ?_) (a' := ?_) #[true, true, true, false, true, true, true, false, true, false] rfl rfl (any_of HT_.out (by kernel_rfl)) (fun _ _ _ h => h) (Or.inl ⟨by rfl, ?_⟩) ?_ ?_
                              rotate_left
                              · intro w'
                                go_simp
                                with_reducible rfl
                              rotate_left
                              · simp only [Act.put, List.setIfInBounds_toArray, List.set_cons_zero, List.set_cons_succ, i64_w, i32_w]
                                rfl
                              refine take_ (i := 3) (N := some 40) (v := ?_) (a' := ?_) #[true, true, true, true, true, true, true, false, true, false] rfl rfl (take_ofW HT_.out HW_.out (by kernel_rfl)) (fun _ _ _ h => h) (Or.inl ⟨by rfl, ?_⟩) hHeld ?_ ?_
                              rotate_left
                              · rintro w' ⟨s0, s1, s2, s3, s4, s5, s6, s7, s8, s9, s10, s11, s12, s13⟩
                                go_simp
                                with_reducible rfl
                              rotate_left
                              · simp only [Act.put, List.setIfInBounds_toArray, List.set_cons_zero, List.set_cons_succ, i64_w, i32_w]
                                rfl
                              refine take_ (i := 7) (N := some 44) (v := ?_) (a' := ?_) #[true, true, true, true, true, true, true, true, true, false] rfl rfl (take_ofW HT_.out HW_.out (by kernel_rfl)) (fun _ _ _ h => h) (Or.inl ⟨by rfl, ?_⟩) hHeld ?_ ?_
                              rotate_left
                              · rintro w' ⟨s0, s1, s2, s3, s4, s5, s6, s7, s8, s9, s10, s11, s12, s13⟩
                                go_simp
                                with_reducible rfl
                              rotate_left
                              · simp only [Act.put, List.setIfInBounds_toArray, List.set_cons_zero, List.set_cons_succ, i64_w, i32_w]
                                rfl
                              refine one_ (i := 9) (N := some 46) #[true, true, true, true, true, true, true, true, true, true] rfl rfl (one_of HT_.out (by kernel_rfl)) (by decide) (fun K hK => ?_)
                              refine goes_ Try.func18 (by kernel_rfl) rfl #[.agg #[.string ((rd_T27 l0 x7_1).f0), .slice A146_1 ((rd_T27 l0 x7_1).f1).length c146_1, .slice A146_2 ((rd_T27 l0 x7_1).f2).length c146_2, .int .i64 ((rd_T27 l0 x7_1).f3.f0), .slice A146_4 ((rd_T27 l0 x7_1).f3.f1).length c146_4, .slice A146_5 ((rd_T27 l0 x7_1).f3.f2).length c146_5, .int .i64 ((rd_T27 l0 x7_1).f3.f3)], .agg #[.string ((rd_T27 l1 x9_2).f0), .slice A147_1 ((rd_T27 l1 x9_2).f1).length c147_1, .slice A147_2 ((rd_T27 l1 x9_2).f2).length c147_2, .int .i64 ((rd_T27 l1 x9_2).f3.f0), .slice A147_4 ((rd_T27 l1 x9_2).f3.f1).length c147_4, .slice A147_5 ((rd_T27 l1 x9_2).f3.f2).length c147_5, .int .i64 ((rd_T27 l1 x9_2).f3.f3)], .slice A2 l2.length c2] (by rfl) rfl rfl (by (try simp only [List.map_toArray, List.map_cons, List.map_nil]); first | done | rfl | (simp only [List.length_drop, List.length_take]; rfl)) ?_
                              with_reducible refine (scarfref14_Sigs.calls kj4 ((rd_T27 l0 x7_1).f0) _ _ ((rd_T27 l0 x7_1).f1) _ _ ((rd_T27 l0 x7_1).f2) ((rd_T27 l0 x7_1).f3.f0) _ _ ((rd_T27 l0 x7_1).f3.f1) _ _ ((rd_T27 l0 x7_1).f3.f2) ((rd_T27 l0 x7_1).f3.f3) ((rd_T27 l1 x9_2).f0) _ _ ((rd_T27 l1 x9_2).f1) _ _ ((rd_T27 l1 x9_2).f2) ((rd_T27 l1 x9_2).f3.f0) _ _ ((rd_T27 l1 x9_2).f3.f1) _ _ ((rd_T27 l1 x9_2).f3.f2) ((rd_T27 l1 x9_2).f3.f3) _ _ l2 false _ ?side1 ?side2 ?side3 ?side4 ?side5 ?side6 ?side7 ?side8 ?side9 ?side10 ?side11 ?side12 ?side13 ?side14 ?side15 ?side16 ?side17 ?side18 A13.out).mono ?_
                              (case side1 => repeat (first | exact (Kd.C_below HR146_1.out HB.out) | (with_reducible refine Kd.C_alloc ?_ _) | (with_reducible refine Kd.C_drewN ?_ _) | (with_reducible refine Kd.C_drew ?_)))
                              (case side2 => exact HC146_1.out)
                              (case side3 => repeat (first | exact (Kd.C_below HR146_2.out HB.out) | (with_reducible refine Kd.C_alloc ?_ _) | (with_reducible refine Kd.C_drewN ?_ _) | (with_reducible refine Kd.C_drew ?_)))
                              (case side4 => exact HC146_2.out)
                              (case side5 => repeat (first | exact (Kd.C_below HR146_4.out HB.out) | (with_reducible refine Kd.C_alloc ?_ _) | (with_reducible refine Kd.C_drewN ?_ _) | (with_reducible refine Kd.C_drew ?_)))
                              (case side6 => exact HC146_4.out)
                              (case side7 => repeat (first | exact (Kd.C_below HR146_5.out HB.out) | (with_reducible refine Kd.C_alloc ?_ _) | (with_reducible refine Kd.C_drewN ?_ _) | (with_reducible refine Kd.C_drew ?_)))
                              (case side8 => exact HC146_5.out)
                              (case side9 => repeat (first | exact (Kd.C_below HR147_1.out HB.out) | (with_reducible refine Kd.C_alloc ?_ _) | (with_reducible refine Kd.C_drewN ?_ _) | (with_reducible refine Kd.C_drew ?_)))
                              (case side10 => exact HC147_1.out)
                              (case side11 => repeat (first | exact (Kd.C_below HR147_2.out HB.out) | (with_reducible refine Kd.C_alloc ?_ _) | (with_reducible refine Kd.C_drewN ?_ _) | (with_reducible refine Kd.C_drew ?_)))
                              (case side12 => exact HC147_2.out)
                              (case side13 => repeat (first | exact (Kd.C_below HR147_4.out HB.out) | (with_reducible refine Kd.C_alloc ?_ _) | (with_reducible refine Kd.C_drewN ?_ _) | (with_reducible refine Kd.C_drew ?_)))
                              (case side14 => exact HC147_4.out)
                              (case side15 => repeat (first | exact (Kd.C_below HR147_5.out HB.out) | (with_reducible refine Kd.C_alloc ?_ _) | (with_reducible refine Kd.C_drewN ?_ _) | (with_reducible refine Kd.C_drew ?_)))
                              (case side16 => exact HC147_5.out)
                              (case side17 => repeat (first | exact (Kd.C_below HR2.out HB.out) | (with_reducible refine Kd.C_alloc ?_ _) | (with_reducible refine Kd.C_drewN ?_ _) | (with_reducible refine Kd.C_drew ?_)))
                              (case side18 => exact HC2.out)
                              rintro e w20 ⟨rfl, hb⟩
                              refine ⟨_, rfl, ?_⟩
                              have n0_ := Aside0.mk (below_step (by repeat (first | (with_reducible first | exact HB.out | apply below_alloc | apply pw_below_drewN | apply below_drew1) | exact HB.out)) hb)
                              clear HB
                              have HB := n0_
                              clear n0_
                              (try clear hb)
                              (try clear hb2)
                              (try clear hk)
                              (try clear hi)
                              refine hK.out _ _ ⟨((HB.out.cell (World.block_lt_of_cell? w _ hw146_0)).trans hw146_0), ((HB.out.cell (World.block_lt_of_cell? w _ hw146_1)).trans hw146_1), ((HB.out.cell (World.block_lt_of_cell? w _ hw146_2)).trans hw146_2), ((HB.out.cell (World.block_lt_of_cell? w _ hw146_3)).trans hw146_3), ((HB.out.cell (World.block_lt_of_cell? w _ hw146_4)).trans hw146_4), ((HB.out.cell (World.block_lt_of_cell? w _ hw146_5)).trans hw146_5), ((HB.out.cell (World.block_lt_of_cell? w _ hw146_6)).trans hw146_6), ((HB.out.cell (World.block_lt_of_cell? w _ hw147_0)).trans hw147_0), ((HB.out.cell (World.block_lt_of_cell? w _ hw147_1)).trans hw147_1), ((HB.out.cell (World.block_lt_of_cell? w _ hw147_2)).trans hw147_2), ((HB.out.cell (World.block_lt_of_cell? w _ hw147_3)).trans hw147_3), ((HB.out.cell (World.block_lt_of_cell? w _ hw147_4)).trans hw147_4), ((HB.out.cell (World.block_lt_of_cell? w _ hw147_5)).trans hw147_5), ((HB.out.cell (World.block_lt_of_cell? w _ hw147_6)).trans hw147_6)⟩ (fun hHeld => ?_)
                              clear hK K
                              refine norm_ (a' := ?_) ?_ ?_
                              rotate_left
                              · show Act.put _ (some 46) _ = _
                                simp only [Act.put, List.setIfInBounds_toArray, List.set_cons_zero, List.set_cons_succ, i64_w, i32_w]
                                rfl
                              refine done_ (done_of HT_.out (by kernel_rfl)) ?_
                              try go_wp2
                              go_roundg kj4
                              case measure => have := HK1.out; have := HK2.out; have := HJ4.out; omega
                              case rel => exact ⟨(6), (wrap64 (x9_2 + 1)), (by first | rfl | (simp; done) | (simp [*]; done)), (by first | rfl | (simp; done) | (simp [*]; done)), H', ⟨by have := HK1.out; have := HK2.out; have := HJ4.out; omega⟩, ⟨by repeat (first | (with_reducible first | exact HB.out | apply below_alloc | apply pw_below_drewN | apply below_drew1) | exact HB.out)⟩⟩
                          · rw [if_neg c12] at H
                            have c12b0 : (((rd_T27 l1 x9_2).f0).toList == ((rd_T27 l0 x7_1).f0).toList) = false := beq_eq_false_iff_ne.mpr c12
                            have c12b1 : (((rd_T27 l1 x9_2).f0).toList != ((rd_T27 l0 x7_1).f0).toList) = true := bne_iff_ne.mpr c12
                            have H' := Aside0.mk H
                            clear H
                            try go_wp2
                            have n0_ := Aside0.mk (below_drew1 HB.out)
                            clear HB
                            have HB := n0_
                            clear n0_
                            have p144 : 0 ≤ (x9_2 : Int) := of_decide_eq_true (by first | (with_reducible assumption) | assumption)
                            have q144 : x9_2 < (l1.length : Int) := of_decide_eq_true (by first | (with_reducible assumption) | assumption)
                            obtain ⟨ad144, A144_1, c144_1, A144_2, c144_2, A144_4, c144_4, A144_5, c144_5, e144, hx144_0, hx144_1, hx144_2, hx144_3, hx144_4, hx144_5, hx144_6, hl144_1, hi144_1, hl144_2, hi144_2, hl144_4, hi144_4, hl144_5, hi144_5⟩ := at_T27 HR1.out x9_2 p144 q144
                            have hw144_6 := hx144_6
                            have hw144_5 := hx144_5
                            have hw144_4 := hx144_4
                            have hw144_3 := hx144_3
                            have hw144_2 := hx144_2
                            have hw144_1 := hx144_1
                            have hw144_0 := hx144_0
                            cases e144
                            replace hx144_0 := (HB.out.cell (World.block_lt_of_cell? w _ hx144_0)).trans hx144_0
                            replace hx144_1 := (HB.out.cell (World.block_lt_of_cell? w _ hx144_1)).trans hx144_1
                            replace hx144_2 := (HB.out.cell (World.block_lt_of_cell? w _ hx144_2)).trans hx144_2
                            replace hx144_3 := (HB.out.cell (World.block_lt_of_cell? w _ hx144_3)).trans hx144_3
                            replace hx144_4 := (HB.out.cell (World.block_lt_of_cell? w _ hx144_4)).trans hx144_4
                            replace hx144_5 := (HB.out.cell (World.block_lt_of_cell? w _ hx144_5)).trans hx144_5
                            replace hx144_6 := (HB.out.cell (World.block_lt_of_cell? w _ hx144_6)).trans hx144_6
                            have HR144_1 := Aside0.mk hi144_1
                            have HC144_1 := Aside0.mk hl144_1
                            clear hi144_1 hl144_1
                            have HR144_2 := Aside0.mk hi144_2
                            have HC144_2 := Aside0.mk hl144_2
                            clear hi144_2 hl144_2
                            have HR144_4 := Aside0.mk hi144_4
                            have HC144_4 := Aside0.mk hl144_4
                            clear hi144_4 hl144_4
                            have HR144_5 := Aside0.mk hi144_5
                            have HC144_5 := Aside0.mk hl144_5
                            clear hi144_5 hl144_5
                            replace p144 := eq_true p144
                            replace q144 := eq_true q144
                            have p145 : 0 ≤ (x7_1 : Int) := of_decide_eq_true (by first | (with_reducible assumption) | assumption)
                            have q145 : x7_1 < (l0.length : Int) := of_decide_eq_true (by first | (with_reducible assumption) | assumption)
                            obtain ⟨ad145, A145_1, c145_1, A145_2, c145_2, A145_4, c145_4, A145_5, c145_5, e145, hx145_0, hx145_1, hx145_2, hx145_3, hx145_4, hx145_5, hx145_6, hl145_1, hi145_1, hl145_2, hi145_2, hl145_4, hi145_4, hl145_5, hi145_5⟩ := at_T27 HR0.out x7_1 p145 q145
                            have hw145_6 := hx145_6
                            have hw145_5 := hx145_5
                            have hw145_4 := hx145_4
                            have hw145_3 := hx145_3
                            have hw145_2 := hx145_2
                            have hw145_1 := hx145_1
                            have hw145_0 := hx145_0
                            cases e145
                            replace hx145_0 := (HB.out.cell (World.block_lt_of_cell? w _ hx145_0)).trans hx145_0
                            replace hx145_1 := (HB.out.cell (World.block_lt_of_cell? w _ hx145_1)).trans hx145_1
                            replace hx145_2 := (HB.out.cell (World.block_lt_of_cell? w _ hx145_2)).trans hx145_2
                            replace hx145_3 := (HB.out.cell (World.block_lt_of_cell? w _ hx145_3)).trans hx145_3
                            replace hx145_4 := (HB.out.cell (World.block_lt_of_cell? w _ hx145_4)).trans hx145_4
                            replace hx145_5 := (HB.out.cell (World.block_lt_of_cell? w _ hx145_5)).trans hx145_5
                            replace hx145_6 := (HB.out.cell (World.block_lt_of_cell? w _ hx145_6)).trans hx145_6
                            have HR145_1 := Aside0.mk hi145_1
                            have HC145_1 := Aside0.mk hl145_1
                            clear hi145_1 hl145_1
                            have HR145_2 := Aside0.mk hi145_2
                            have HC145_2 := Aside0.mk hl145_2
                            clear hi145_2 hl145_2
                            have HR145_4 := Aside0.mk hi145_4
                            have HC145_4 := Aside0.mk hl145_4
                            clear hi145_4 hl145_4
                            have HR145_5 := Aside0.mk hi145_5
                            have HC145_5 := Aside0.mk hl145_5
                            clear hi145_5 hl145_5
                            replace p145 := eq_true p145
                            replace q145 := eq_true q145
                            refine start_ (n := 11) (S := fun w' => w'.cell? (ad144.add ((x9_2).toNat * 7)) = some (.string ((rd_T27 l1 x9_2).f0)) ∧ w'.cell? ⟨(ad144.add ((x9_2).toNat * 7)).block, (ad144.add ((x9_2).toNat * 7)).off + 1, none⟩ = some (.slice A144_1 ((rd_T27 l1 x9_2).f1).length c144_1) ∧ w'.cell? ⟨(ad144.add ((x9_2).toNat * 7)).block, (ad144.add ((x9_2).toNat * 7)).off + 2, none⟩ = some (.slice A144_2 ((rd_T27 l1 x9_2).f2).length c144_2) ∧ w'.cell? ⟨(ad144.add ((x9_2).toNat * 7)).block, (ad144.add ((x9_2).toNat * 7)).off + 3, none⟩ = some (.int .i64 ((rd_T27 l1 x9_2).f3.f0)) ∧ w'.cell? ⟨(ad144.add ((x9_2).toNat * 7)).block, (ad144.add ((x9_2).toNat * 7)).off + 4, none⟩ = some (.slice A144_4 ((rd_T27 l1 x9_2).f3.f1).length c144_4) ∧ w'.cell? ⟨(ad144.add ((x9_2).toNat * 7)).block, (ad144.add ((x9_2).toNat * 7)).off + 5, none⟩ = some (.slice A144_5 ((rd_T27 l1 x9_2).f3.f2).length c144_5) ∧ w'.cell? ⟨(ad144.add ((x9_2).toNat * 7)).block, (ad144.add ((x9_2).toNat * 7)).off + 6, none⟩ = some (.int .i64 ((rd_T27 l1 x9_2).f3.f3)) ∧ w'.cell? (ad145.add ((x7_1).toNat * 7)) = some (.string ((rd_T27 l0 x7_1).f0)) ∧ w'.cell? ⟨(ad145.add ((x7_1).toNat * 7)).block, (ad145.add ((x7_1).toNat * 7)).off + 1, none⟩ = some (.slice A145_1 ((rd_T27 l0 x7_1).f1).length c145_1) ∧ w'.cell? ⟨(ad145.add ((x7_1).toNat * 7)).block, (ad145.add ((x7_1).toNat * 7)).off + 2, none⟩ = some (.slice A145_2 ((rd_T27 l0 x7_1).f2).length c145_2) ∧ w'.cell? ⟨(ad145.add ((x7_1).toNat * 7)).block, (ad145.add ((x7_1).toNat * 7)).off + 3, none⟩ = some (.int .i64 ((rd_T27 l0 x7_1).f3.f0)) ∧ w'.cell? ⟨(ad145.add ((x7_1).toNat * 7)).block, (ad145.add ((x7_1).toNat * 7)).off + 4, none⟩ = some (.slice A145_4 ((rd_T27 l0 x7_1).f3.f1).length c145_4) ∧ w'.cell? ⟨(ad145.add ((x7_1).toNat * 7)).block, (ad145.add ((x7_1).toNat * 7)).off + 5, none⟩ = some (.slice A145_5 ((rd_T27 l0 x7_1).f3.f2).length c145_5) ∧ w'.cell? ⟨(ad145.add ((x7_1).toNat * 7)).block, (ad145.add ((x7_1).toNat * 7)).off + 6, none⟩ = some (.int .i64 ((rd_T27 l0 x7_1).f3.f3))) (ds := []) #[false, false, false, false, false, false, false, false, false, false, false] (by kernel_rfl) rfl rfl ⟨((HB.out.cell (World.block_lt_of_cell? w _ hw144_0)).trans hw144_0), ((HB.out.cell (World.block_lt_of_cell? w _ hw144_1)).trans hw144_1), ((HB.out.cell (World.block_lt_of_cell? w _ hw144_2)).trans hw144_2), ((HB.out.cell (World.block_lt_of_cell? w _ hw144_3)).trans hw144_3), ((HB.out.cell (World.block_lt_of_cell? w _ hw144_4)).trans hw144_4), ((HB.out.cell (World.block_lt_of_cell? w _ hw144_5)).trans hw144_5), ((HB.out.cell (World.block_lt_of_cell? w _ hw144_6)).trans hw144_6), ((HB.out.cell (World.block_lt_of_cell? w _ hw145_0)).trans hw145_0), ((HB.out.cell (World.block_lt_of_cell? w _ hw145_1)).trans hw145_1), ((HB.out.cell (World.block_lt_of_cell? w _ hw145_2)).trans hw145_2), ((HB.out.cell (World.block_lt_of_cell? w _ hw145_3)).trans hw145_3), ((HB.out.cell (World.block_lt_of_cell? w _ hw145_4)).trans hw145_4), ((HB.out.cell (World.block_lt_of_cell? w _ hw145_5)).trans hw145_5), ((HB.out.cell (World.block_lt_of_cell? w _ hw145_6)).trans hw145_6)⟩ (fun hHeld => ?_); refine with_tabW scarfref14_each.tab8 scarfref14_each.bits8 (fun HT_ HW_ => ?_)
                            generalize wc.drew = w21 at HB HR144_1 HR144_2 HR144_4 HR144_5 HR145_1 HR145_2 HR145_4 HR145_5 hx144_0 hx144_1 hx144_2 hx144_3 hx144_4 hx144_5 hx144_6 hx145_0 hx145_1 hx145_2 hx145_3 hx145_4 hx145_5 hx145_6 hHeld ⊢
                            refine pure_ (i := 0) (N := some 26) (v := ?_) (a' := ?_) #[true, false, false, false, false, false, false, false, false, false, false] rfl rfl (any_of HT_.out (by kernel_rfl)) (fun _ _ _ h => h) (Or.inl ⟨by rfl, ?_⟩) ?_ ?_
                            rotate_left
                            · intro w'
                              go_simp
                              with_reducible rfl
                            rotate_left
                            · simp only [Act.put, List.setIfInBounds_toArray, List.set_cons_zero, List.set_cons_succ, i64_w, i32_w]
                              rfl
                            refine pure_ (i := 1) (N := some 27) (v := ?_) (a' := ?_) #[true, true, false, false, false, false, false, false, false, false, false] rfl rfl (any_of HT_.out (by kernel_rfl)) (fun _ _ _ h => h) (Or.inl ⟨by rfl, ?_⟩) ?_ ?_
                            rotate_left
                            · intro w'
                              go_simp
                              with_reducible rfl
                            rotate_left
                            · simp only [Act.put, List.setIfInBounds_toArray, List.set_cons_zero, List.set_cons_succ, i64_w, i32_w]
                              rfl
                            refine pure_ (i := 2) (N := some 28) (v := ?_) (a' := ?_) #[true, true, true, false, false, false, false, false, false, false, false] rfl rfl (any_of HT_.out (by kernel_rfl)) (fun _ _ _ h => h) (Or.inl ⟨by rfl, ?_⟩) ?_ ?_
                            rotate_left
                            · intro w'
                              go_simp
                              with_reducible rfl
                            rotate_left
                            · simp only [Act.put, List.setIfInBounds_toArray, List.set_cons_zero, List.set_cons_succ, i64_w, i32_w]
                              rfl
                            refine pure_ (i := 3) (N := some 29) (v := ?_) (a' := ?_) #[true, true, true, true, false, false, false, false, false, false, false] rfl rfl (any_of HT_.out (by kernel_rfl)) (fun _ _ _ h => h) (Or.inl ⟨by rfl, ?_⟩) ?_ ?_
                            rotate_left
                            · intro w'
                              go_simp
                              with_reducible rfl
                            rotate_left
                            · simp only [Act.put, List.setIfInBounds_toArray, List.set_cons_zero, List.set_cons_succ, i64_w, i32_w]
                              rfl
                            refine pure_ (i := 5) (N := some 31) (v := ?_) (a' := ?_) #[true, true, true, true, false, true, false, false, false, false, false] rfl rfl (any_of HT_.out (by kernel_rfl)) (fun _ _ _ h => h) (Or.inl ⟨by rfl, ?_⟩) ?_ ?_
                            rotate_left
                            · intro w'
                              go_simp
                              with_reducible rfl
                            rotate_left
                            · simp only [Act.put, List.setIfInBounds_toArray, List.set_cons_zero, List.set_cons_succ, i64_w, i32_w]
                              rfl
                            refine pure_ (i := 6) (N := some 32) (v := ?_) (a' := ?_) #[true, true, true, true, false, true, true, false, false, false, false] rfl rfl (any_of HT_.out (by kernel_rfl)) (fun _ _ _ h => h) (Or.inl ⟨by rfl, ?_⟩) ?_ ?_
                            rotate_left
                            · intro w'
                              go_simp
                              with_reducible rfl
                            rotate_left
                            · simp only [Act.put, List.setIfInBounds_toArray, List.set_cons_zero, List.set_cons_succ, i64_w, i32_w]
                              rfl
                            refine pure_ (i := 7) (N := some 33) (v := ?_) (a' := ?_) #[true, true, true, true, false, true, true, true, false, false, false] rfl rfl (any_of HT_.out (by kernel_rfl)) (fun _ _ _ h => h) (Or.inl ⟨by rfl, ?_⟩) ?_ ?_
                            rotate_left
                            · intro w'
                              go_simp
                              with_reducible rfl
                            rotate_left
                            · simp only [Act.put, List.setIfInBounds_toArray, List.set_cons_zero, List.set_cons_succ, i64_w, i32_w]
                              rfl
                            refine pure_ (i := 8) (N := some 34) (v := ?_) (a' := ?_) #[true, true, true, true, false, true, true, true, true, false, false] rfl rfl (any_of HT_.out (by kernel_rfl)) (fun _ _ _ h => h) (Or.inl ⟨by rfl, ?_⟩) ?_ ?_
                            rotate_left
                            · intro w'
                              go_simp
                              with_reducible rfl
                            rotate_left
                            · simp only [Act.put, List.setIfInBounds_toArray, List.set_cons_zero, List.set_cons_succ, i64_w, i32_w]
                              rfl
                            refine take_ (i := 4) (N := some 30) (v := ?_) (a' := ?_) #[true, true, true, true, true, true, true, true, true, false, false] rfl rfl (take_ofW HT_.out HW_.out (by kernel_rfl)) (fun _ _ _ h => h) (Or.inl ⟨by rfl, ?_⟩) hHeld ?_ ?_
                            rotate_left
                            · rintro w' ⟨s0, s1, s2, s3, s4, s5, s6, s7, s8, s9, s10, s11, s12, s13⟩
                              go_simp
                              with_reducible rfl
                            rotate_left
                            · simp only [Act.put, List.setIfInBounds_toArray, List.set_cons_zero, List.set_cons_succ, i64_w, i32_w]
                              rfl
                            refine take_ (i := 9) (N := some 35) (v := ?_) (a' := ?_) #[true, true, true, true, true, true, true, true, true, true, false] rfl rfl (take_ofW HT_.out HW_.out (by kernel_rfl)) (fun _ _ _ h => h) (Or.inl ⟨by rfl, ?_⟩) hHeld ?_ ?_
                            rotate_left
                            · rintro w' ⟨s0, s1, s2, s3, s4, s5, s6, s7, s8, s9, s10, s11, s12, s13⟩
                              go_simp
                              with_reducible rfl
                            rotate_left
                            · simp only [Act.put, List.setIfInBounds_toArray, List.set_cons_zero, List.set_cons_succ, i64_w, i32_w]
                              rfl
                            refine pure_ (i := 10) (N := some 36) (v := ?_) (a' := ?_) #[true, true, true, true, true, true, true, true, true, true, true] rfl rfl (any_of HT_.out (by kernel_rfl)) (fun _ _ _ h => h) (Or.inl ⟨by rfl, ?_⟩) ?_ ?_
                            rotate_left
                            · intro w'
                              go_simp
                              with_reducible rfl
                            rotate_left
                            · simp only [Act.put, List.setIfInBounds_toArray, List.set_cons_zero, List.set_cons_succ, i64_w, i32_w]
                              rfl
                            refine done_ (done_of HT_.out (by kernel_rfl)) ?_
                            try go_wp2
                            go_roundg kj4
                            case measure => have := HK1.out; have := HK2.out; have := HJ4.out; omega
                            case rel => exact ⟨(x8_2), (wrap64 (x9_2 + 1)), (by first | rfl | (simp; done) | (simp [*]; done)), (by first | rfl | (simp; done) | (simp [*]; done)), H', ⟨by have := HK1.out; have := HK2.out; have := HJ4.out; omega⟩, ⟨by repeat (first | (with_reducible first | exact HB.out | apply below_alloc | apply pw_below_drewN | apply below_drew1) | exact HB.out)⟩⟩
                        · rw [if_neg c11] at H
                          exact absurd H (by simp)
                      · rw [if_neg c10] at H
                        exact absurd H (by simp)
                    · rw [if_neg c9] at H
                      exact absurd H (by simp)
                  · rw [if_neg c8] at H
                    exact absurd H (by simp)
                · replace c7 := Bool.eq_false_iff.mpr c7
                  subst c7
                  have H1 : (if x8_2 = 0 then (scarfref14_each.l0 kj4 l0 l1 l2 (wrap64 (x7_1 + 1))) else (some x8_2)) = some r := by rw [if_neg (show ¬ (false = true) by decide)] at H; exact H
                  clear H
                  have H := H1
                  clear H1
                  by_cases c22 : x8_2 = 0
                  · rw [if_pos c22] at H
                    have c22b0 : (x8_2 == 0) = true := beq_iff_eq.mpr c22
                    have c22b1 : (x8_2 != 0) = false := bne_eq_false_iff_eq.mpr c22
                    clear c22
                    have H' := Aside0.mk H
                    clear H
                    go_wp2
                    go_roundg kj4
                    case measure => have := HK1.out; have := HK2.out; have := HJ4.out; omega
                    case rel => exact ⟨(wrap64 (x7_1 + 1)), (by first | rfl | (simp; done) | (simp [*]; done)), H', ⟨by have := HK1.out; have := HK2.out; have := HJ4.out; omega⟩, ⟨by repeat (first | (with_reducible first | exact HB.out | apply below_alloc | apply pw_below_drewN | apply below_drew1) | exact HB.out)⟩⟩
                  · rw [if_neg c22] at H
                    have c22b0 : (x8_2 == 0) = false := beq_eq_false_iff_ne.mpr c22
                    have c22b1 : (x8_2 != 0) = true := bne_iff_ne.mpr c22
                    obtain rfl := Option.some.inj H
                    go_wp2
                    go_ret
                    exact ⟨by first | rfl | (simp [errW_none, errW_some] <;> rfl) | (simp [*, errW_none, errW_some] <;> rfl), by repeat (first | (with_reducible first | exact HB.out | apply below_alloc | apply pw_below_drewN | apply below_drew1) | exact HB.out)⟩
      · rw [if_neg c4] at H
        have c4b0 : decide (x7_1 < (l0.length : Int)) = false := decide_eq_false c4
        clear c4
        obtain rfl := Option.some.inj H
        go_wp2
        go_ret
        exact ⟨by first | rfl | (simp [errW_none, errW_some] <;> rfl) | (simp [*, errW_none, errW_some] <;> rfl), by repeat (first | (with_reducible first | exact HB.out | apply below_alloc | apply pw_below_drewN | apply below_drew1) | exact HB.out)⟩

end Go.Proofs.Ytmpmcffhlnlejaa.PSubFits
