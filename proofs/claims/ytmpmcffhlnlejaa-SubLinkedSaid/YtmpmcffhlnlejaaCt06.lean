/- A part of the proof of the law that its last file names: texts of this seat's author and of the kit's printer, cut to what the theorem uses. Part 6: Wld4b, Wld5. -/
import Derived.Test.YtmpmcffhlnlejaaCt05
section
namespace Go.Proofs.Ytmpmcffhlnlejaa.Wld
open Go.RowKit Go.Proofs.YtmpmcffhlnlejaaW.PrintWords Go.Proofs.YtmpmcffhlnlejaaW.PrintLast Go.Proofs.YtmpmcffhlnlejaaW.PrintMore
open Go.Proofs.Ytmpmcffhlnlejaa.PSubSelf
set_option linter.unusedVariables false
set_option linter.unusedSimpArgs false
set_option maxHeartbeats 8000000 in
set_option maxRecDepth 100000 in
theorem def_4 (d : S154) (hsm : SmD d) (w : World) (A3 : Option Addr) (c3 : Nat) (A4 : Option Addr) (c4 : Nat) (A6 : Option Addr) (c6 : Nat) (h : DA w d A3 c3 A4 c4 A6 c6) (hkd : d.f0 = 4) (hfl : d.f3 = []) :
    Calls Try.prog 100 #[.agg (dfC d A3 c3 A4 c4 A6 c6)] w (DefOk d w) := by
  obtain ⟨kd, nm, ⟨tk, tn, tl, tr⟩, fs⟩ := d
  replace hkd : kd = 4 := hkd
  have htn : tn.length ≤ 140737488351232 := hsm.n
  have htl : tl.length ≤ 140737488351232 := hsm.l
  have Hfs : Aside0 (∀ f ∈ fs, SmF f) := ⟨hsm.fs⟩
  have Ht : Aside0 (TA w ⟨tk, tn, tl, tr⟩ A3 c3 A4 c4) := ⟨h.t⟩
  have Hf : Aside0 (k146.C w A6 fs.length fs) := ⟨h.f⟩
  clear h hsm
  replace hfl : fs = [] := hfl
  subst hkd hfl
  unfold dfC
  rw [List.length_nil]
  by_cases htk : tk = 16
  · subst htk
    by_cases htr : tr = 0
    · subst htr
      by_cases hn0 : tn.length = 0
      · have e9 : ((tn.length : Int) == 0) = true := beq_iff_eq.mpr (by omega)
        clear hn0
        have HB0 := Aside0.mk (below_alloc (Below.refl w.heap.size w) (.cells #[.int .i64 4, .string nm, .int .i64 16, .slice A3 tn.length c3, .slice A4 tl.length c4, .int .i64 0, .slice A6 0 c6] 154))
        have HK0 := Aside0.mk (blk_new w (.cells #[.int .i64 4, .string nm, .int .i64 16, .slice A3 tn.length c3, .slice A4 tl.length c4, .int .i64 0, .slice A6 0 c6] 154))
        have HS : Aside0 (∀ w' : World, w'.heap[w.heap.size]? = some (.cells #[.int .i64 4, .string nm, .int .i64 16, .slice A3 tn.length c3, .slice A4 tl.length c4, .int .i64 0, .slice A6 0 c6] 154 (0, 0)) → w'.cell? ⟨w.heap.size, 0, none⟩ = some (.int .i64 4) ∧ w'.cell? ⟨w.heap.size, 1, none⟩ = some (.string nm) ∧ w'.cell? ⟨w.heap.size, 2, none⟩ = some (.int .i64 16) ∧ w'.cell? ⟨w.heap.size, 3, none⟩ = some (.slice A3 tn.length c3) ∧ w'.cell? ⟨w.heap.size, 4, none⟩ = some (.slice A4 tl.length c4) ∧ w'.cell? ⟨w.heap.size, 5, none⟩ = some (.int .i64 0) ∧ w'.cell? ⟨w.heap.size, 6, none⟩ = some (.slice A6 0 c6)) :=
          ⟨fun w' hq => ⟨(blk_cell hq 0).trans rfl, (blk_cell hq 1).trans rfl, (blk_cell hq 2).trans rfl, (blk_cell hq 3).trans rfl, (blk_cell hq 4).trans rfl, (blk_cell hq 5).trans rfl, (blk_cell hq 6).trans rfl⟩⟩
        go_enter Try.func100, Try.ntmps100
        go_wp2_with fail
        refine (name_any nm _).mono ?_
        rintro e w1 ⟨⟨b0, rfl, hb0⟩, rfl⟩
        have HN := Aside0.mk hb0
        clear hb0
        cases b0 with
        | false =>
          go_wp2_with fail
          go_ret
          exact ⟨⟨false, rfl, fun h => by cases h⟩, HB0.out⟩
        | true =>
          go_wp2_with fail
          go_loop [3] (fun v3 => v3 = .int .i64 0) (fun _ => 0)
          case atStart => rfl
          case round =>
            obtain rfl := hrel
            obtain ⟨z0, z1, z2, z3, z4, z5, z6⟩ := HS.out _ HK0.out
            go_wp2_with fail
            go_quiet (fail)
            go_wp2_with fail
            go_ret
            exact ⟨⟨false, rfl, fun h => by cases h⟩, pw_below_drewN (below_alloc HB0.out _) _⟩
      · have e9 : ((tn.length : Int) == 0) = false := beq_eq_false_iff_ne.mpr (by omega)
        clear hn0
        have HB0 := Aside0.mk (below_alloc (Below.refl w.heap.size w) (.cells #[.int .i64 4, .string nm, .int .i64 16, .slice A3 tn.length c3, .slice A4 tl.length c4, .int .i64 0, .slice A6 0 c6] 154))
        have HK0 := Aside0.mk (blk_new w (.cells #[.int .i64 4, .string nm, .int .i64 16, .slice A3 tn.length c3, .slice A4 tl.length c4, .int .i64 0, .slice A6 0 c6] 154))
        have HS : Aside0 (∀ w' : World, w'.heap[w.heap.size]? = some (.cells #[.int .i64 4, .string nm, .int .i64 16, .slice A3 tn.length c3, .slice A4 tl.length c4, .int .i64 0, .slice A6 0 c6] 154 (0, 0)) → w'.cell? ⟨w.heap.size, 0, none⟩ = some (.int .i64 4) ∧ w'.cell? ⟨w.heap.size, 1, none⟩ = some (.string nm) ∧ w'.cell? ⟨w.heap.size, 2, none⟩ = some (.int .i64 16) ∧ w'.cell? ⟨w.heap.size, 3, none⟩ = some (.slice A3 tn.length c3) ∧ w'.cell? ⟨w.heap.size, 4, none⟩ = some (.slice A4 tl.length c4) ∧ w'.cell? ⟨w.heap.size, 5, none⟩ = some (.int .i64 0) ∧ w'.cell? ⟨w.heap.size, 6, none⟩ = some (.slice A6 0 c6)) :=
          ⟨fun w' hq => ⟨(blk_cell hq 0).trans rfl, (blk_cell hq 1).trans rfl, (blk_cell hq 2).trans rfl, (blk_cell hq 3).trans rfl, (blk_cell hq 4).trans rfl, (blk_cell hq 5).trans rfl, (blk_cell hq 6).trans rfl⟩⟩
        have HNN := Aside0.mk (fun w' (hb : Below w.heap.size w w') => names_any A3 c3 tn w' (Kd.C_below Ht.out.n hb) (by omega))
        go_enter Try.func100, Try.ntmps100
        go_wp2_with fail
        refine (name_any nm _).mono ?_
        rintro e w1 ⟨⟨b0, rfl, hb0⟩, rfl⟩
        have HN := Aside0.mk hb0
        clear hb0
        cases b0 with
        | false =>
          go_wp2_with fail
          go_ret
          exact ⟨⟨false, rfl, fun h => by cases h⟩, HB0.out⟩
        | true =>
          go_wp2_with fail
          go_loop [3] (fun v3 => v3 = .int .i64 0) (fun _ => 0)
          case atStart => rfl
          case round =>
            obtain rfl := hrel
            obtain ⟨z0, z1, z2, z3, z4, z5, z6⟩ := HS.out _ HK0.out
            go_wp2_with fail
            have HK1 := Aside0.mk (blk_alloc HK0.out (.cells #[.int .i64 0, .int .i64 0, .int .i64 13, .int .i64 15, .int .i64 16, .int .i64 19] 3))
            have HB1 := Aside0.mk (below_alloc HB0.out (.cells #[.int .i64 0, .int .i64 0, .int .i64 13, .int .i64 15, .int .i64 16, .int .i64 19] 3))
            have HKK := Aside0.mk (blk_new (w.alloc (.cells #[.int .i64 4, .string nm, .int .i64 16, .slice A3 tn.length c3, .slice A4 tl.length c4, .int .i64 0, .slice A6 0 c6] 154)) (.cells #[.int .i64 0, .int .i64 0, .int .i64 13, .int .i64 15, .int .i64 16, .int .i64 19] 3))
            generalize (w.alloc (.cells #[.int .i64 4, .string nm, .int .i64 16, .slice A3 tn.length c3, .slice A4 tl.length c4, .int .i64 0, .slice A6 0 c6] 154)).alloc (.cells #[.int .i64 0, .int .i64 0, .int .i64 13, .int .i64 15, .int .i64 16, .int .i64 19] 3) = wb at *
            have HSS : Aside0 (∀ w' : World, w'.heap = wb.heap → w'.cell? ⟨w.heap.size, 0, none⟩ = some (.int .i64 4) ∧ w'.cell? ⟨w.heap.size, 1, none⟩ = some (.string nm) ∧ w'.cell? ⟨w.heap.size, 2, none⟩ = some (.int .i64 16) ∧ w'.cell? ⟨w.heap.size, 3, none⟩ = some (.slice A3 tn.length c3) ∧ w'.cell? ⟨w.heap.size, 4, none⟩ = some (.slice A4 tl.length c4) ∧ w'.cell? ⟨w.heap.size, 5, none⟩ = some (.int .i64 0) ∧ w'.cell? ⟨w.heap.size, 6, none⟩ = some (.slice A6 0 c6) ∧ w'.cell? ⟨w.heap.size + 1, 4, none⟩ = some (.int .i64 16)) :=
              ⟨fun w' hh => by
                obtain ⟨y0, y1, y2, y3, y4, y5, y6⟩ := HS.out w' (by rw [hh]; exact HK1.out)
                refine ⟨y0, y1, y2, y3, y4, y5, y6, ?_⟩
                have h2 := HKK.out
                simp only [World.size_alloc] at h2
                rw [← hh] at h2
                exact (blk_cell h2 4).trans rfl⟩
            clear z0 z1 z2 z3 z4 z5 z6
            go_region_held3 (fun w' => w'.cell? ⟨w.heap.size, 0, none⟩ = some (.int .i64 4) ∧ w'.cell? ⟨w.heap.size, 1, none⟩ = some (.string nm) ∧ w'.cell? ⟨w.heap.size, 2, none⟩ = some (.int .i64 16) ∧ w'.cell? ⟨w.heap.size, 3, none⟩ = some (.slice A3 tn.length c3) ∧ w'.cell? ⟨w.heap.size, 4, none⟩ = some (.slice A4 tl.length c4) ∧ w'.cell? ⟨w.heap.size, 5, none⟩ = some (.int .i64 0) ∧ w'.cell? ⟨w.heap.size, 6, none⟩ = some (.slice A6 0 c6) ∧ w'.cell? ⟨w.heap.size + 1, 4, none⟩ = some (.int .i64 16))
              (exact HSS.out _ rfl)
              (first
                | (go_at_call 99; refine (HNN.out _ (below_drew1 HB1.out)).mono ?_; rintro e w3 ⟨⟨b, rfl, hbn⟩, rfl⟩))
            clear HSS HKK HNN
            have HB2 := Aside0.mk (below_drew1 HB1.out)
            have HK2 : Aside0 (wb.drew.heap[w.heap.size]? = some (.cells #[.int .i64 4, .string nm, .int .i64 16, .slice A3 tn.length c3, .slice A4 tl.length c4, .int .i64 0, .slice A6 0 c6] 154 (0, 0))) := ⟨HK1.out⟩
            have HBN := Aside0.mk hbn
            clear hbn HB1 HK1 HB0 HK0
            generalize wb.drew = wc at *
            obtain ⟨z0, z1, z2, z3, z4, z5, z6⟩ := HS.out wc HK2.out
            cases b with
            | false =>
              go_wp2_with fail
              go_ret
              exact ⟨⟨false, rfl, fun h => by cases h⟩, HB2.out⟩
            | true =>
              go_wp2_with fail
              go_ret
              refine ⟨⟨_, rfl, fun h => ?_⟩, HB2.out⟩
              have hl : tl = [] := by simpa using h
              exact ⟨HN.out (by first | rfl | trivial), by simp, fun f hf => by simp at hf, .mk (fun h => absurd h (show ¬ 20 ≤ (16 : Int) by decide)) (HBN.out (by first | rfl | trivial)).1 (by show tl.length ≤ 64; rw [hl]; simp) (fun y hy => by rw [show tl = [] from hl] at hy; simp at hy)⟩
    · have e9 : (tr == 0) = false := beq_eq_false_iff_ne.mpr htr
      have e10 : (tr != 0) = true := by simp [htr]
      clear htr
      have HB0 := Aside0.mk (below_alloc (Below.refl w.heap.size w) (.cells #[.int .i64 4, .string nm, .int .i64 16, .slice A3 tn.length c3, .slice A4 tl.length c4, .int .i64 tr, .slice A6 0 c6] 154))
      have HK0 := Aside0.mk (blk_new w (.cells #[.int .i64 4, .string nm, .int .i64 16, .slice A3 tn.length c3, .slice A4 tl.length c4, .int .i64 tr, .slice A6 0 c6] 154))
      have HS : Aside0 (∀ w' : World, w'.heap[w.heap.size]? = some (.cells #[.int .i64 4, .string nm, .int .i64 16, .slice A3 tn.length c3, .slice A4 tl.length c4, .int .i64 tr, .slice A6 0 c6] 154 (0, 0)) → w'.cell? ⟨w.heap.size, 0, none⟩ = some (.int .i64 4) ∧ w'.cell? ⟨w.heap.size, 1, none⟩ = some (.string nm) ∧ w'.cell? ⟨w.heap.size, 2, none⟩ = some (.int .i64 16) ∧ w'.cell? ⟨w.heap.size, 3, none⟩ = some (.slice A3 tn.length c3) ∧ w'.cell? ⟨w.heap.size, 4, none⟩ = some (.slice A4 tl.length c4) ∧ w'.cell? ⟨w.heap.size, 5, none⟩ = some (.int .i64 tr) ∧ w'.cell? ⟨w.heap.size, 6, none⟩ = some (.slice A6 0 c6)) :=
        ⟨fun w' hq => ⟨(blk_cell hq 0).trans rfl, (blk_cell hq 1).trans rfl, (blk_cell hq 2).trans rfl, (blk_cell hq 3).trans rfl, (blk_cell hq 4).trans rfl, (blk_cell hq 5).trans rfl, (blk_cell hq 6).trans rfl⟩⟩
      go_enter Try.func100, Try.ntmps100
      go_wp2_with fail
      refine (name_any nm _).mono ?_
      rintro e w1 ⟨⟨b0, rfl, hb0⟩, rfl⟩
      have HN := Aside0.mk hb0
      clear hb0
      cases b0 with
      | false =>
        go_wp2_with fail
        go_ret
        exact ⟨⟨false, rfl, fun h => by cases h⟩, HB0.out⟩
      | true =>
        go_wp2_with fail
        go_loop [3] (fun v3 => v3 = .int .i64 0) (fun _ => 0)
        case atStart => rfl
        case round =>
          obtain rfl := hrel
          obtain ⟨z0, z1, z2, z3, z4, z5, z6⟩ := HS.out _ HK0.out
          go_wp2_with fail
          go_quiet (fail)
          go_wp2_with fail
          go_ret
          exact ⟨⟨false, rfl, fun h => by cases h⟩, pw_below_drewN (below_alloc HB0.out _) _⟩
  · have e9 : (tk == 16) = false := beq_eq_false_iff_ne.mpr htk
    have e10 : (tk != 16) = true := by simp [htk]
    clear htk
    have HB0 := Aside0.mk (below_alloc (Below.refl w.heap.size w) (.cells #[.int .i64 4, .string nm, .int .i64 tk, .slice A3 tn.length c3, .slice A4 tl.length c4, .int .i64 tr, .slice A6 0 c6] 154))
    have HK0 := Aside0.mk (blk_new w (.cells #[.int .i64 4, .string nm, .int .i64 tk, .slice A3 tn.length c3, .slice A4 tl.length c4, .int .i64 tr, .slice A6 0 c6] 154))
    have HS : Aside0 (∀ w' : World, w'.heap[w.heap.size]? = some (.cells #[.int .i64 4, .string nm, .int .i64 tk, .slice A3 tn.length c3, .slice A4 tl.length c4, .int .i64 tr, .slice A6 0 c6] 154 (0, 0)) → w'.cell? ⟨w.heap.size, 0, none⟩ = some (.int .i64 4) ∧ w'.cell? ⟨w.heap.size, 1, none⟩ = some (.string nm) ∧ w'.cell? ⟨w.heap.size, 2, none⟩ = some (.int .i64 tk) ∧ w'.cell? ⟨w.heap.size, 3, none⟩ = some (.slice A3 tn.length c3) ∧ w'.cell? ⟨w.heap.size, 4, none⟩ = some (.slice A4 tl.length c4) ∧ w'.cell? ⟨w.heap.size, 5, none⟩ = some (.int .i64 tr) ∧ w'.cell? ⟨w.heap.size, 6, none⟩ = some (.slice A6 0 c6)) :=
      ⟨fun w' hq => ⟨(blk_cell hq 0).trans rfl, (blk_cell hq 1).trans rfl, (blk_cell hq 2).trans rfl, (blk_cell hq 3).trans rfl, (blk_cell hq 4).trans rfl, (blk_cell hq 5).trans rfl, (blk_cell hq 6).trans rfl⟩⟩
    go_enter Try.func100, Try.ntmps100
    go_wp2_with fail
    refine (name_any nm _).mono ?_
    rintro e w1 ⟨⟨b0, rfl, hb0⟩, rfl⟩
    have HN := Aside0.mk hb0
    clear hb0
    cases b0 with
    | false =>
      go_wp2_with fail
      go_ret
      exact ⟨⟨false, rfl, fun h => by cases h⟩, HB0.out⟩
    | true =>
      go_wp2_with fail
      go_loop [3] (fun v3 => v3 = .int .i64 0) (fun _ => 0)
      case atStart => rfl
      case round =>
        obtain rfl := hrel
        obtain ⟨z0, z1, z2, z3, z4, z5, z6⟩ := HS.out _ HK0.out
        go_wp2_with fail
        go_quiet (fail)
        go_wp2_with fail
        go_ret
        exact ⟨⟨false, rfl, fun h => by cases h⟩, pw_below_drewN (below_alloc HB0.out _) _⟩
set_option maxHeartbeats 8000000 in
set_option maxRecDepth 100000 in
theorem def_5 (d : S154) (hsm : SmD d) (w : World) (A3 : Option Addr) (c3 : Nat) (A4 : Option Addr) (c4 : Nat) (A6 : Option Addr) (c6 : Nat) (h : DA w d A3 c3 A4 c4 A6 c6) (hkd : d.f0 = 5) (hfl : d.f3 = []) :
    Calls Try.prog 100 #[.agg (dfC d A3 c3 A4 c4 A6 c6)] w (DefOk d w) := by
  obtain ⟨kd, nm, ⟨tk, tn, tl, tr⟩, fs⟩ := d
  replace hkd : kd = 5 := hkd
  have htn : tn.length ≤ 140737488351232 := hsm.n
  have htl : tl.length ≤ 140737488351232 := hsm.l
  have Hfs : Aside0 (∀ f ∈ fs, SmF f) := ⟨hsm.fs⟩
  have Ht : Aside0 (TA w ⟨tk, tn, tl, tr⟩ A3 c3 A4 c4) := ⟨h.t⟩
  have Hf : Aside0 (k146.C w A6 fs.length fs) := ⟨h.f⟩
  clear h hsm
  replace hfl : fs = [] := hfl
  subst hkd hfl
  unfold dfC
  rw [List.length_nil]
  by_cases htk : tk = 19
  · subst htk
    by_cases htr : tr = 0
    · subst htr
      by_cases hn0 : tn.length = 0
      · have e9 : ((tn.length : Int) == 0) = true := beq_iff_eq.mpr (by omega)
        clear hn0
        have HB0 := Aside0.mk (below_alloc (Below.refl w.heap.size w) (.cells #[.int .i64 5, .string nm, .int .i64 19, .slice A3 tn.length c3, .slice A4 tl.length c4, .int .i64 0, .slice A6 0 c6] 154))
        have HK0 := Aside0.mk (blk_new w (.cells #[.int .i64 5, .string nm, .int .i64 19, .slice A3 tn.length c3, .slice A4 tl.length c4, .int .i64 0, .slice A6 0 c6] 154))
        have HS : Aside0 (∀ w' : World, w'.heap[w.heap.size]? = some (.cells #[.int .i64 5, .string nm, .int .i64 19, .slice A3 tn.length c3, .slice A4 tl.length c4, .int .i64 0, .slice A6 0 c6] 154 (0, 0)) → w'.cell? ⟨w.heap.size, 0, none⟩ = some (.int .i64 5) ∧ w'.cell? ⟨w.heap.size, 1, none⟩ = some (.string nm) ∧ w'.cell? ⟨w.heap.size, 2, none⟩ = some (.int .i64 19) ∧ w'.cell? ⟨w.heap.size, 3, none⟩ = some (.slice A3 tn.length c3) ∧ w'.cell? ⟨w.heap.size, 4, none⟩ = some (.slice A4 tl.length c4) ∧ w'.cell? ⟨w.heap.size, 5, none⟩ = some (.int .i64 0) ∧ w'.cell? ⟨w.heap.size, 6, none⟩ = some (.slice A6 0 c6)) :=
          ⟨fun w' hq => ⟨(blk_cell hq 0).trans rfl, (blk_cell hq 1).trans rfl, (blk_cell hq 2).trans rfl, (blk_cell hq 3).trans rfl, (blk_cell hq 4).trans rfl, (blk_cell hq 5).trans rfl, (blk_cell hq 6).trans rfl⟩⟩
        go_enter Try.func100, Try.ntmps100
        go_wp2_with fail
        refine (name_any nm _).mono ?_
        rintro e w1 ⟨⟨b0, rfl, hb0⟩, rfl⟩
        have HN := Aside0.mk hb0
        clear hb0
        cases b0 with
        | false =>
          go_wp2_with fail
          go_ret
          exact ⟨⟨false, rfl, fun h => by cases h⟩, HB0.out⟩
        | true =>
          go_wp2_with fail
          go_loop [3] (fun v3 => v3 = .int .i64 0) (fun _ => 0)
          case atStart => rfl
          case round =>
            obtain rfl := hrel
            obtain ⟨z0, z1, z2, z3, z4, z5, z6⟩ := HS.out _ HK0.out
            go_wp2_with fail
            go_quiet (fail)
            go_wp2_with fail
            go_ret
            exact ⟨⟨false, rfl, fun h => by cases h⟩, pw_below_drewN (below_alloc HB0.out _) _⟩
      · have e9 : ((tn.length : Int) == 0) = false := beq_eq_false_iff_ne.mpr (by omega)
        clear hn0
        have HB0 := Aside0.mk (below_alloc (Below.refl w.heap.size w) (.cells #[.int .i64 5, .string nm, .int .i64 19, .slice A3 tn.length c3, .slice A4 tl.length c4, .int .i64 0, .slice A6 0 c6] 154))
        have HK0 := Aside0.mk (blk_new w (.cells #[.int .i64 5, .string nm, .int .i64 19, .slice A3 tn.length c3, .slice A4 tl.length c4, .int .i64 0, .slice A6 0 c6] 154))
        have HS : Aside0 (∀ w' : World, w'.heap[w.heap.size]? = some (.cells #[.int .i64 5, .string nm, .int .i64 19, .slice A3 tn.length c3, .slice A4 tl.length c4, .int .i64 0, .slice A6 0 c6] 154 (0, 0)) → w'.cell? ⟨w.heap.size, 0, none⟩ = some (.int .i64 5) ∧ w'.cell? ⟨w.heap.size, 1, none⟩ = some (.string nm) ∧ w'.cell? ⟨w.heap.size, 2, none⟩ = some (.int .i64 19) ∧ w'.cell? ⟨w.heap.size, 3, none⟩ = some (.slice A3 tn.length c3) ∧ w'.cell? ⟨w.heap.size, 4, none⟩ = some (.slice A4 tl.length c4) ∧ w'.cell? ⟨w.heap.size, 5, none⟩ = some (.int .i64 0) ∧ w'.cell? ⟨w.heap.size, 6, none⟩ = some (.slice A6 0 c6)) :=
          ⟨fun w' hq => ⟨(blk_cell hq 0).trans rfl, (blk_cell hq 1).trans rfl, (blk_cell hq 2).trans rfl, (blk_cell hq 3).trans rfl, (blk_cell hq 4).trans rfl, (blk_cell hq 5).trans rfl, (blk_cell hq 6).trans rfl⟩⟩
        have HNN := Aside0.mk (fun w' (hb : Below w.heap.size w w') => names_any A3 c3 tn w' (Kd.C_below Ht.out.n hb) (by omega))
        go_enter Try.func100, Try.ntmps100
        go_wp2_with fail
        refine (name_any nm _).mono ?_
        rintro e w1 ⟨⟨b0, rfl, hb0⟩, rfl⟩
        have HN := Aside0.mk hb0
        clear hb0
        cases b0 with
        | false =>
          go_wp2_with fail
          go_ret
          exact ⟨⟨false, rfl, fun h => by cases h⟩, HB0.out⟩
        | true =>
          go_wp2_with fail
          go_loop [3] (fun v3 => v3 = .int .i64 0) (fun _ => 0)
          case atStart => rfl
          case round =>
            obtain rfl := hrel
            obtain ⟨z0, z1, z2, z3, z4, z5, z6⟩ := HS.out _ HK0.out
            go_wp2_with fail
            have HK1 := Aside0.mk (blk_alloc HK0.out (.cells #[.int .i64 0, .int .i64 0, .int .i64 13, .int .i64 15, .int .i64 16, .int .i64 19] 3))
            have HB1 := Aside0.mk (below_alloc HB0.out (.cells #[.int .i64 0, .int .i64 0, .int .i64 13, .int .i64 15, .int .i64 16, .int .i64 19] 3))
            have HKK := Aside0.mk (blk_new (w.alloc (.cells #[.int .i64 5, .string nm, .int .i64 19, .slice A3 tn.length c3, .slice A4 tl.length c4, .int .i64 0, .slice A6 0 c6] 154)) (.cells #[.int .i64 0, .int .i64 0, .int .i64 13, .int .i64 15, .int .i64 16, .int .i64 19] 3))
            generalize (w.alloc (.cells #[.int .i64 5, .string nm, .int .i64 19, .slice A3 tn.length c3, .slice A4 tl.length c4, .int .i64 0, .slice A6 0 c6] 154)).alloc (.cells #[.int .i64 0, .int .i64 0, .int .i64 13, .int .i64 15, .int .i64 16, .int .i64 19] 3) = wb at *
            have HSS : Aside0 (∀ w' : World, w'.heap = wb.heap → w'.cell? ⟨w.heap.size, 0, none⟩ = some (.int .i64 5) ∧ w'.cell? ⟨w.heap.size, 1, none⟩ = some (.string nm) ∧ w'.cell? ⟨w.heap.size, 2, none⟩ = some (.int .i64 19) ∧ w'.cell? ⟨w.heap.size, 3, none⟩ = some (.slice A3 tn.length c3) ∧ w'.cell? ⟨w.heap.size, 4, none⟩ = some (.slice A4 tl.length c4) ∧ w'.cell? ⟨w.heap.size, 5, none⟩ = some (.int .i64 0) ∧ w'.cell? ⟨w.heap.size, 6, none⟩ = some (.slice A6 0 c6) ∧ w'.cell? ⟨w.heap.size + 1, 5, none⟩ = some (.int .i64 19)) :=
              ⟨fun w' hh => by
                obtain ⟨y0, y1, y2, y3, y4, y5, y6⟩ := HS.out w' (by rw [hh]; exact HK1.out)
                refine ⟨y0, y1, y2, y3, y4, y5, y6, ?_⟩
                have h2 := HKK.out
                simp only [World.size_alloc] at h2
                rw [← hh] at h2
                exact (blk_cell h2 5).trans rfl⟩
            clear z0 z1 z2 z3 z4 z5 z6
            go_region_held3 (fun w' => w'.cell? ⟨w.heap.size, 0, none⟩ = some (.int .i64 5) ∧ w'.cell? ⟨w.heap.size, 1, none⟩ = some (.string nm) ∧ w'.cell? ⟨w.heap.size, 2, none⟩ = some (.int .i64 19) ∧ w'.cell? ⟨w.heap.size, 3, none⟩ = some (.slice A3 tn.length c3) ∧ w'.cell? ⟨w.heap.size, 4, none⟩ = some (.slice A4 tl.length c4) ∧ w'.cell? ⟨w.heap.size, 5, none⟩ = some (.int .i64 0) ∧ w'.cell? ⟨w.heap.size, 6, none⟩ = some (.slice A6 0 c6) ∧ w'.cell? ⟨w.heap.size + 1, 5, none⟩ = some (.int .i64 19))
              (exact HSS.out _ rfl)
              (first
                | (go_at_call 99; refine (HNN.out _ (below_drew1 HB1.out)).mono ?_; rintro e w3 ⟨⟨b, rfl, hbn⟩, rfl⟩))
            clear HSS HKK HNN
            have HB2 := Aside0.mk (below_drew1 HB1.out)
            have HK2 : Aside0 (wb.drew.heap[w.heap.size]? = some (.cells #[.int .i64 5, .string nm, .int .i64 19, .slice A3 tn.length c3, .slice A4 tl.length c4, .int .i64 0, .slice A6 0 c6] 154 (0, 0))) := ⟨HK1.out⟩
            have HBN := Aside0.mk hbn
            clear hbn HB1 HK1 HB0 HK0
            generalize wb.drew = wc at *
            obtain ⟨z0, z1, z2, z3, z4, z5, z6⟩ := HS.out wc HK2.out
            cases b with
            | false =>
              go_wp2_with fail
              go_ret
              exact ⟨⟨false, rfl, fun h => by cases h⟩, HB2.out⟩
            | true =>
              go_wp2_with fail
              go_ret
              refine ⟨⟨_, rfl, fun h => ?_⟩, HB2.out⟩
              have hl : tl = [] := by simpa using h
              exact ⟨HN.out (by first | rfl | trivial), by simp, fun f hf => by simp at hf, .mk (fun h => absurd h (show ¬ 20 ≤ (19 : Int) by decide)) (HBN.out (by first | rfl | trivial)).1 (by show tl.length ≤ 64; rw [hl]; simp) (fun y hy => by rw [show tl = [] from hl] at hy; simp at hy)⟩
    · have e9 : (tr == 0) = false := beq_eq_false_iff_ne.mpr htr
      have e10 : (tr != 0) = true := by simp [htr]
      clear htr
      have HB0 := Aside0.mk (below_alloc (Below.refl w.heap.size w) (.cells #[.int .i64 5, .string nm, .int .i64 19, .slice A3 tn.length c3, .slice A4 tl.length c4, .int .i64 tr, .slice A6 0 c6] 154))
      have HK0 := Aside0.mk (blk_new w (.cells #[.int .i64 5, .string nm, .int .i64 19, .slice A3 tn.length c3, .slice A4 tl.length c4, .int .i64 tr, .slice A6 0 c6] 154))
      have HS : Aside0 (∀ w' : World, w'.heap[w.heap.size]? = some (.cells #[.int .i64 5, .string nm, .int .i64 19, .slice A3 tn.length c3, .slice A4 tl.length c4, .int .i64 tr, .slice A6 0 c6] 154 (0, 0)) → w'.cell? ⟨w.heap.size, 0, none⟩ = some (.int .i64 5) ∧ w'.cell? ⟨w.heap.size, 1, none⟩ = some (.string nm) ∧ w'.cell? ⟨w.heap.size, 2, none⟩ = some (.int .i64 19) ∧ w'.cell? ⟨w.heap.size, 3, none⟩ = some (.slice A3 tn.length c3) ∧ w'.cell? ⟨w.heap.size, 4, none⟩ = some (.slice A4 tl.length c4) ∧ w'.cell? ⟨w.heap.size, 5, none⟩ = some (.int .i64 tr) ∧ w'.cell? ⟨w.heap.size, 6, none⟩ = some (.slice A6 0 c6)) :=
        ⟨fun w' hq => ⟨(blk_cell hq 0).trans rfl, (blk_cell hq 1).trans rfl, (blk_cell hq 2).trans rfl, (blk_cell hq 3).trans rfl, (blk_cell hq 4).trans rfl, (blk_cell hq 5).trans rfl, (blk_cell hq 6).trans rfl⟩⟩
      go_enter Try.func100, Try.ntmps100
      go_wp2_with fail
      refine (name_any nm _).mono ?_
      rintro e w1 ⟨⟨b0, rfl, hb0⟩, rfl⟩
      have HN := Aside0.mk hb0
      clear hb0
      cases b0 with
      | false =>
        go_wp2_with fail
        go_ret
        exact ⟨⟨false, rfl, fun h => by cases h⟩, HB0.out⟩
      | true =>
        go_wp2_with fail
        go_loop [3] (fun v3 => v3 = .int .i64 0) (fun _ => 0)
        case atStart => rfl
        case round =>
          obtain rfl := hrel
          obtain ⟨z0, z1, z2, z3, z4, z5, z6⟩ := HS.out _ HK0.out
          go_wp2_with fail
          go_quiet (fail)
          go_wp2_with fail
          go_ret
          exact ⟨⟨false, rfl, fun h => by cases h⟩, pw_below_drewN (below_alloc HB0.out _) _⟩
  · have e9 : (tk == 19) = false := beq_eq_false_iff_ne.mpr htk
    have e10 : (tk != 19) = true := by simp [htk]
    clear htk
    have HB0 := Aside0.mk (below_alloc (Below.refl w.heap.size w) (.cells #[.int .i64 5, .string nm, .int .i64 tk, .slice A3 tn.length c3, .slice A4 tl.length c4, .int .i64 tr, .slice A6 0 c6] 154))
    have HK0 := Aside0.mk (blk_new w (.cells #[.int .i64 5, .string nm, .int .i64 tk, .slice A3 tn.length c3, .slice A4 tl.length c4, .int .i64 tr, .slice A6 0 c6] 154))
    have HS : Aside0 (∀ w' : World, w'.heap[w.heap.size]? = some (.cells #[.int .i64 5, .string nm, .int .i64 tk, .slice A3 tn.length c3, .slice A4 tl.length c4, .int .i64 tr, .slice A6 0 c6] 154 (0, 0)) → w'.cell? ⟨w.heap.size, 0, none⟩ = some (.int .i64 5) ∧ w'.cell? ⟨w.heap.size, 1, none⟩ = some (.string nm) ∧ w'.cell? ⟨w.heap.size, 2, none⟩ = some (.int .i64 tk) ∧ w'.cell? ⟨w.heap.size, 3, none⟩ = some (.slice A3 tn.length c3) ∧ w'.cell? ⟨w.heap.size, 4, none⟩ = some (.slice A4 tl.length c4) ∧ w'.cell? ⟨w.heap.size, 5, none⟩ = some (.int .i64 tr) ∧ w'.cell? ⟨w.heap.size, 6, none⟩ = some (.slice A6 0 c6)) :=
      ⟨fun w' hq => ⟨(blk_cell hq 0).trans rfl, (blk_cell hq 1).trans rfl, (blk_cell hq 2).trans rfl, (blk_cell hq 3).trans rfl, (blk_cell hq 4).trans rfl, (blk_cell hq 5).trans rfl, (blk_cell hq 6).trans rfl⟩⟩
    go_enter Try.func100, Try.ntmps100
    go_wp2_with fail
    refine (name_any nm _).mono ?_
    rintro e w1 ⟨⟨b0, rfl, hb0⟩, rfl⟩
    have HN := Aside0.mk hb0
    clear hb0
    cases b0 with
    | false =>
      go_wp2_with fail
      go_ret
      exact ⟨⟨false, rfl, fun h => by cases h⟩, HB0.out⟩
    | true =>
      go_wp2_with fail
      go_loop [3] (fun v3 => v3 = .int .i64 0) (fun _ => 0)
      case atStart => rfl
      case round =>
        obtain rfl := hrel
        obtain ⟨z0, z1, z2, z3, z4, z5, z6⟩ := HS.out _ HK0.out
        go_wp2_with fail
        go_quiet (fail)
        go_wp2_with fail
        go_ret
        exact ⟨⟨false, rfl, fun h => by cases h⟩, pw_below_drewN (below_alloc HB0.out _) _⟩
end Go.Proofs.Ytmpmcffhlnlejaa.Wld
end
section
namespace Go.Proofs.Ytmpmcffhlnlejaa.Wld
open Go.RowKit Go.Proofs.YtmpmcffhlnlejaaW.PrintWords Go.Proofs.YtmpmcffhlnlejaaW.PrintLast Go.Proofs.YtmpmcffhlnlejaaW.PrintMore
open Go.Proofs.Ytmpmcffhlnlejaa.PSubSelf
set_option linter.unusedVariables false
set_option linter.unusedSimpArgs false
theorem def_any (d : S154) (hsm : SmD d) (w : World) (A3 : Option Addr) (c3 : Nat) (A4 : Option Addr) (c4 : Nat) (A6 : Option Addr) (c6 : Nat) (h : DA w d A3 c3 A4 c4 A6 c6) :
    Calls Try.prog 100 #[.agg (dfC d A3 c3 A4 c4 A6 c6)] w (DefOk d w) := by
  by_cases h6 : d.f0 = 6
  · exact def_six d hsm w A3 c3 A4 c4 A6 c6 h h6
  by_cases hf : d.f3.length = 0
  · have hf' : d.f3 = [] := List.eq_nil_of_length_eq_zero hf
    by_cases h1 : d.f0 = 1
    · exact def_one d hsm w A3 c3 A4 c4 A6 c6 h h1 hf'
    by_cases h2 : d.f0 = 2
    · exact def_2 d hsm w A3 c3 A4 c4 A6 c6 h h2 hf'
    by_cases h3 : d.f0 = 3
    · exact def_3 d hsm w A3 c3 A4 c4 A6 c6 h h3 hf'
    by_cases h4 : d.f0 = 4
    · exact def_4 d hsm w A3 c3 A4 c4 A6 c6 h h4 hf'
    by_cases h5 : d.f0 = 5
    · exact def_5 d hsm w A3 c3 A4 c4 A6 c6 h h5 hf'
    exact def_out d hsm w A3 c3 A4 c4 A6 c6 h (by omega) hf'
  · exact def_far d hsm w A3 c3 A4 c4 A6 c6 h h6 hf
end Go.Proofs.Ytmpmcffhlnlejaa.Wld
end
