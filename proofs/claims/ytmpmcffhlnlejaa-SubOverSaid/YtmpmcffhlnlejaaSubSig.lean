/- The contract of subtype.Sigs, and what scarfref14.Same and Sigs come to: the same plain functions. -/
import Derived.Test.YtmpmcffhlnlejaaSubRef
namespace Go.Proofs.Ytmpmcffhlnlejaa.SubEq
open Go.RowKit Go.Proofs.YtmpmcffhlnlejaaW.PrintWords Go.Proofs.YtmpmcffhlnlejaaW.PrintLast Go.Proofs.YtmpmcffhlnlejaaW.PrintMore
open Go.Proofs.Ytmpmcffhlnlejaa.PSubFits
set_option linter.unusedVariables false
set_option linter.unusedSimpArgs false

/-- Two functions' types. -/
def sigsT (m : List Int) (a b : S27) : Bool := decide (a.f1 = b.f1) && sameT m a.f3 b.f3 && eqL (sameT m) a.f2 b.f2

/-- Where a function's value leads. -/
structure SigAt (w : World) (x : S27) (A1 : Option Addr) (c1 : Nat) (A2 : Option Addr) (c2 : Nat) (A4 : Option Addr) (c4 : Nat) (A5 : Option Addr) (c5 : Nat) : Prop where
  h1 : Kd.string.C w A1 x.f1.length x.f1
  l1 : x.f1.length ≤ c1
  h2 : k25.C w A2 x.f2.length x.f2
  l2 : x.f2.length ≤ c2
  t : TyAt w x.f3 A4 c4 A5 c5

theorem SigAt.below {w w' : World} {x : S27} {A1 : Option Addr} {c1 : Nat} {A2 : Option Addr} {c2 : Nat} {A4 : Option Addr} {c4 : Nat} {A5 : Option Addr} {c5 : Nat} (h : SigAt w x A1 c1 A2 c2 A4 c4 A5 c5) (hb : Below w.heap.size w w') : SigAt w' x A1 c1 A2 c2 A4 c4 A5 c5 :=
  ⟨Kd.C_below h.h1 hb, h.l1, Kd.C_below h.h2 hb, h.l2, h.t.below hb⟩

def Sigs17 (m : List Int) (x y : S27) : Prop :=
  ∀ (W : World) (A1 : Option Addr) (c1 : Nat) (A2 : Option Addr) (c2 : Nat) (A4 : Option Addr) (c4 : Nat) (A5 : Option Addr) (c5 : Nat) (B1 : Option Addr) (d1 : Nat) (B2 : Option Addr) (d2 : Nat) (B4 : Option Addr) (d4 : Nat) (B5 : Option Addr) (d5 : Nat) (M : Option Addr) (cm : Nat),
    SigAt W x A1 c1 A2 c2 A4 c4 A5 c5 → SigAt W y B1 d1 B2 d2 B4 d4 B5 d5 → (Kd.int .i64).C W M m.length m → m.length ≤ cm →
    Calls Try.prog 17 #[.agg #[.string x.f0, .slice A1 x.f1.length c1, .slice A2 x.f2.length c2, .int .i64 x.f3.f0, .slice A4 x.f3.f1.length c4, .slice A5 x.f3.f2.length c5, .int .i64 x.f3.f3],
      .agg #[.string y.f0, .slice B1 y.f1.length d1, .slice B2 y.f2.length d2, .int .i64 y.f3.f0, .slice B4 y.f3.f1.length d4, .slice B5 y.f3.f2.length d5, .int .i64 y.f3.f3], .slice M m.length cm] W fun e w' => e = .returned (.bool (sigsT m x y)) ∧ Below W.heap.size W w'

theorem cell_b1 (W : World) (cs : Array Value) (t : TypeId) (o' o'' : Obj) (n i : Nat) : ((((W.alloc (.cells cs t)).alloc o').alloc o'').drewN n).cell? ⟨W.heap.size, i, none⟩ = cs[i]? :=
  blk_cell (blk_drewN (blk_alloc (blk_alloc (blk_new W (.cells cs t)) o') o'') n) i
theorem cell_b2 (W : World) (o : Obj) (cs : Array Value) (t : TypeId) (o'' : Obj) (n i : Nat) : ((((W.alloc o).alloc (.cells cs t)).alloc o'').drewN n).cell? ⟨W.heap.size + 1, i, none⟩ = cs[i]? := by
  have h := blk_new (W.alloc o) (.cells cs t)
  simp only [World.size_alloc] at h
  exact blk_cell (blk_drewN (blk_alloc h o'') n) i
theorem lt_b3 (W : World) (o o' o'' : Obj) (n k : Nat) (h : k < 3) : W.heap.size + k < ((((W.alloc o).alloc o').alloc o'').drewN n).heap.size := by
  show W.heap.size + k < (((W.alloc o).alloc o').alloc o'').heap.size
  simp
  omega

set_option maxHeartbeats 2000000 in
theorem sigs_calls (m : List Int) (x y : S27) : Sigs17 m x y := by
  intro W A1 c1 A2 c2 A4 c4 A5 c5 B1 d1 B2 d2 B4 d4 B5 d5 M cm h1 h2 hm hcm
  have H1 := Aside0.mk h1
  have H2 := Aside0.mk h2
  have HM := Aside0.mk hm
  clear h1 h2 hm
  by_cases hn : x.f1 = y.f1
  · by_cases hs : sameT m x.f3 y.f3 = true
    · have HR := Aside0.mk (show sigsT m x y = eqL (sameT m) x.f2 y.f2 by rw [sigsT, hs, decide_eq_true hn]; simp)
      have HN := Aside0.mk (decide_eq_true hn)
      have HS := Aside0.mk hs
      clear hn hs
      go_enter Try.func17, Try.ntmps17
      go_wp2_with fail
      refine (eqS_calls (Kd.C_below H1.out.h1 (b3 _ _ _ _)) H1.out.l1 (Kd.C_below H2.out.h1 (b3 _ _ _ _)) H2.out.l1).mono ?_
      rintro e w1 ⟨rfl, ⟨n, rfl⟩⟩
      rw [HN.out]
      go_wp2_with fail
      have HBn := Aside0.mk (pw_below_drewN (b3 W (.cells #[.string x.f0, .slice A1 x.f1.length c1, .slice A2 x.f2.length c2, .int .i64 x.f3.f0, .slice A4 x.f3.f1.length c4, .slice A5 x.f3.f2.length c5, .int .i64 x.f3.f3] 27) (.cells #[.string y.f0, .slice B1 y.f1.length d1, .slice B2 y.f2.length d2, .int .i64 y.f3.f0, .slice B4 y.f3.f1.length d4, .slice B5 y.f3.f2.length d5, .int .i64 y.f3.f3] 27) (.cells #[.slice M m.length cm] 28)) n)
      refine (same_calls m x.f3 y.f3 _ A4 c4 A5 c5 B4 d4 B5 d5 M cm (H1.out.t.below HBn.out) (H2.out.t.below HBn.out) (Kd.C_below HM.out HBn.out) hcm).mono ?_
      rintro e w1 ⟨rfl, hb⟩
      rw [HS.out]
      have z1 := (hb.cell (p := ⟨W.heap.size, 2, none⟩) (lt_b3 W _ _ _ n 0 (by omega))).trans ((cell_b1 W _ _ _ _ n 2).trans rfl)
      have z2 := (hb.cell (p := ⟨W.heap.size + 1, 2, none⟩) (lt_b3 W _ _ _ n 1 (by omega))).trans ((cell_b2 W _ _ _ _ n 2).trans rfl)
      have z3 := (hb.cell (p := ⟨W.heap.size + 1 + 1, 0, none⟩) (lt_b3 W _ _ _ n 2 (by omega))).trans (cell_third W _ _ _ _ n)
      have HB := Aside0.mk (below_step HBn.out hb)
      clear hb HBn
      go_wp2_with fail
      have Z3 := Aside0.mk z3
      clear z1 z2 z3
      by_cases hl : x.f2.length = y.f2.length
      · refine (ef_calls 53 (.inr rfl) _ (Kd.C_below H1.out.h2 HB.out) (Kd.C_below H2.out.h2 HB.out) (gives_of (.inr rfl) (fun x' _ y' => same_calls m x' y') (Kd.C_below HM.out HB.out) hcm Z3.out) hl).mono ?_
        rintro e w2 ⟨rfl, hb⟩
        have HB2 := Aside0.mk (below_step HB.out hb)
        clear hb
        go_wp2_with fail
        go_ret
        exact ⟨by rw [HR.out]; rfl, HB2.out⟩
      · refine (ef_len H1.out.h2.2.1 H2.out.h2.2.1 hl).mono ?_
        rintro e w2 ⟨rfl, rfl⟩
        have hF2 := Aside0.mk (HR.out.trans (eqL_len hl))
        clear hl
        go_wp2_with fail
        go_ret
        exact ⟨by rw [hF2.out]; rfl, HB.out⟩
    · have hs' : sameT m x.f3 y.f3 = false := Bool.eq_false_iff.mpr hs
      have HR := Aside0.mk (show sigsT m x y = false by rw [sigsT, hs']; simp)
      have HN := Aside0.mk (decide_eq_true hn)
      have HS := Aside0.mk hs'
      clear hn hs hs'
      go_enter Try.func17, Try.ntmps17
      go_wp2_with fail
      refine (eqS_calls (Kd.C_below H1.out.h1 (b3 _ _ _ _)) H1.out.l1 (Kd.C_below H2.out.h1 (b3 _ _ _ _)) H2.out.l1).mono ?_
      rintro e w1 ⟨rfl, ⟨n, rfl⟩⟩
      rw [HN.out]
      go_wp2_with fail
      have HBn := Aside0.mk (pw_below_drewN (b3 W (.cells #[.string x.f0, .slice A1 x.f1.length c1, .slice A2 x.f2.length c2, .int .i64 x.f3.f0, .slice A4 x.f3.f1.length c4, .slice A5 x.f3.f2.length c5, .int .i64 x.f3.f3] 27) (.cells #[.string y.f0, .slice B1 y.f1.length d1, .slice B2 y.f2.length d2, .int .i64 y.f3.f0, .slice B4 y.f3.f1.length d4, .slice B5 y.f3.f2.length d5, .int .i64 y.f3.f3] 27) (.cells #[.slice M m.length cm] 28)) n)
      refine (same_calls m x.f3 y.f3 _ A4 c4 A5 c5 B4 d4 B5 d5 M cm (H1.out.t.below HBn.out) (H2.out.t.below HBn.out) (Kd.C_below HM.out HBn.out) hcm).mono ?_
      rintro e w1 ⟨rfl, hb⟩
      rw [HS.out]
      have HB := Aside0.mk (below_step HBn.out hb)
      clear hb HBn
      go_wp2_with fail
      go_ret
      exact ⟨by rw [HR.out]; rfl, HB.out⟩
  · have HR := Aside0.mk (show sigsT m x y = false by rw [sigsT, decide_eq_false hn]; simp)
    have HN := Aside0.mk (decide_eq_false hn)
    clear hn
    go_enter Try.func17, Try.ntmps17
    go_wp2_with fail
    refine (eqS_calls (Kd.C_below H1.out.h1 (b3 _ _ _ _)) H1.out.l1 (Kd.C_below H2.out.h1 (b3 _ _ _ _)) H2.out.l1).mono ?_
    rintro e w1 ⟨rfl, ⟨n, rfl⟩⟩
    rw [HN.out]
    go_wp2_with fail
    go_ret
    exact ⟨by rw [HR.out]; rfl, pw_below_drewN (b3 _ _ _ _) _⟩

/-! ### the reference's -/
theorem refSame_calls (m : List Int) (x y : S25) (W : World) (A1 : Option Addr) (c1 : Nat) (A2 : Option Addr) (c2 : Nat) (B1 : Option Addr) (d1 : Nat) (B2 : Option Addr) (d2 : Nat) (M : Option Addr) (cm : Nat)
    (h1 : TyAt W x A1 c1 A2 c2) (h2 : TyAt W y B1 d1 B2 d2) (hm : (Kd.int .i64).C W M m.length m) (hcm : m.length ≤ cm) :
    Calls Try.prog 16 #[.agg #[.int .i64 x.f0, .slice A1 x.f1.length c1, .slice A2 x.f2.length c2, .int .i64 x.f3], .agg #[.int .i64 y.f0, .slice B1 y.f1.length d1, .slice B2 y.f2.length d2, .int .i64 y.f3], .slice M m.length cm] W fun e w' => e = .returned (.bool (sameT m x y)) ∧ Below W.heap.size W w' := by
  obtain ⟨k, hk⟩ := (ref_same m (fit_At h1) y).rounds
  exact scarfref14_Same.calls k x.f0 A1 c1 x.f1 A2 c2 x.f2 x.f3 y.f0 B1 d1 y.f1 B2 d2 y.f2 y.f3 M cm m _ W h1.h1 h1.l1 h1.h2 h1.l2 h2.h1 h2.l1 h2.h2 h2.l2 hm hcm hk

def RefSigs (m : List Int) (x y : S27) : Prop :=
  Ev (fun k => scarfref14_Sigs.f k x.f0 x.f1 x.f2 x.f3.f0 x.f3.f1 x.f3.f2 x.f3.f3 y.f0 y.f1 y.f2 y.f3.f0 y.f3.f1 y.f3.f2 y.f3.f3 m) (sigsT m x y)

theorem refsig_l0 {m : List Int} {x y : S27} (hl : x.f2.length = y.f2.length) (hn : x.f2.length ≤ 9223372036854775807) (ih : ∀ x' ∈ x.f2, ∀ y', RefSame m x' y') :
    ∀ (d i : Nat), i + d = x.f2.length → Ev (fun k => scarfref14_Sigs.l0 k m (i : Int) x.f0 x.f1 x.f2 x.f3.f0 x.f3.f1 x.f3.f2 x.f3.f3 y.f0 y.f1 y.f2 y.f3.f0 y.f3.f1 y.f3.f2 y.f3.f3) (eqL (sameT m) (x.f2.drop i) (y.f2.drop i)) := by
  intro d
  induction d with
  | zero =>
    intro i hi
    rw [eqL_drop_nil hl (by omega)]
    refine Ev.step (f := fun _ => some true) (fun k => ?_) (Ev.now _)
    simp only [scarfref14_Sigs.l0]
    rw [if_neg (by omega)]
  | succ d ihd =>
    intro i hi
    have h1 : i < x.f2.length := by omega
    have h2 : i < y.f2.length := by omega
    rw [eqL_drop_step hl h1]
    have hx : rd_T25 x.f2 (i : Int) ∈ x.f2 := by rw [rdT_eq h1]; exact List.getElem_mem h1
    refine Ev.step (f := fun k => _) (fun k => by rw [scarfref14_Sigs.l0, if_pos (show (i : Int) < (x.f2.length : Int) by omega), if_pos (show (0 : Int) ≤ (i : Int) by omega), if_pos (show (i : Int) < (y.f2.length : Int) by omega)]) ?_
    refine Ev.bind (ih _ hx _) ?_
    cases sameT m (rd_T25 x.f2 (i : Int)) (rd_T25 y.f2 (i : Int)) with
    | true =>
      simp only [if_true, Bool.true_and]
      rw [wrap_succ h1 hn]
      exact ihd (i + 1) (by omega)
    | false =>
      simp only [Bool.false_and]
      exact Ev.congr (fun k => by simp) (Ev.now false)

theorem refsig (m : List Int) {x y : S27} (h1 : x.f1.length ≤ 9223372036854775807) (hn : x.f2.length ≤ 9223372036854775807) (h2 : ∀ x' ∈ x.f2, Fit x') (h3 : Fit x.f3) : RefSigs m x y := by
  unfold RefSigs
  have jt : Ev (fun k => scarfref14_Sigs.j0 k m true x.f0 x.f1 x.f2 x.f3.f0 x.f3.f1 x.f3.f2 x.f3.f3 y.f0 y.f1 y.f2 y.f3.f0 y.f3.f1 y.f3.f2 y.f3.f3) false :=
    Ev.step (f := fun _ => some false) (fun k => by rw [scarfref14_Sigs.j0]; simp) (Ev.now _)
  unfold scarfref14_Sigs.f sigsT
  refine Ev.bind (names_ev x.f1 y.f1 h1) ?_
  by_cases hs : x.f1 = y.f1
  · rw [decide_eq_true hs]
    simp only [if_true, Bool.true_and]
    by_cases hl : x.f2.length = y.f2.length
    · simp only [if_pos (show (x.f2.length : Int) = (y.f2.length : Int) by omega)]
      refine Ev.bind (ref_same m h3 y.f3) ?_
      cases sameT m x.f3 y.f3 with
      | true =>
        simp only [Bool.not_true, Bool.true_and]
        refine Ev.step (f := fun k => _) (fun k => by rw [scarfref14_Sigs.j0]) ?_
        simp only [Bool.false_eq_true, if_false]
        have h := refsig_l0 hl hn (fun x' hx' y' => ref_same m (h2 x' hx') y') x.f2.length 0 (by omega)
        simpa using h
      | false =>
        simp only [Bool.not_false, Bool.false_and]
        exact jt
    · simp only [if_neg (show ¬ (x.f2.length : Int) = (y.f2.length : Int) by omega)]
      rw [eqL_len hl, Bool.and_false]
      exact jt
  · rw [decide_eq_false hs]
    simp only [Bool.false_eq_true, if_false, Bool.false_and]
    exact jt

theorem refSigs_calls (m : List Int) (x y : S27) (W : World) (A1 : Option Addr) (c1 : Nat) (A2 : Option Addr) (c2 : Nat) (A4 : Option Addr) (c4 : Nat) (A5 : Option Addr) (c5 : Nat) (B1 : Option Addr) (d1 : Nat) (B2 : Option Addr) (d2 : Nat) (B4 : Option Addr) (d4 : Nat) (B5 : Option Addr) (d5 : Nat) (M : Option Addr) (cm : Nat)
    (h1 : SigAt W x A1 c1 A2 c2 A4 c4 A5 c5) (h2 : SigAt W y B1 d1 B2 d2 B4 d4 B5 d5) (hm : (Kd.int .i64).C W M m.length m) (hcm : m.length ≤ cm) :
    Calls Try.prog 18 #[.agg #[.string x.f0, .slice A1 x.f1.length c1, .slice A2 x.f2.length c2, .int .i64 x.f3.f0, .slice A4 x.f3.f1.length c4, .slice A5 x.f3.f2.length c5, .int .i64 x.f3.f3],
      .agg #[.string y.f0, .slice B1 y.f1.length d1, .slice B2 y.f2.length d2, .int .i64 y.f3.f0, .slice B4 y.f3.f1.length d4, .slice B5 y.f3.f2.length d5, .int .i64 y.f3.f3], .slice M m.length cm] W fun e w' => e = .returned (.bool (sigsT m x y)) ∧ Below W.heap.size W w' := by
  obtain ⟨k, hk⟩ := (refsig m (y := y) h1.h1.2.1 h1.h2.2.1 (fit_C h1.h2) (fit_At h1.t)).rounds
  exact scarfref14_Sigs.calls k x.f0 A1 c1 x.f1 A2 c2 x.f2 x.f3.f0 A4 c4 x.f3.f1 A5 c5 x.f3.f2 x.f3.f3 y.f0 B1 d1 y.f1 B2 d2 y.f2 y.f3.f0 B4 d4 y.f3.f1 B5 d5 y.f3.f2 y.f3.f3 M cm m _ W h1.h1 h1.l1 h1.h2 h1.l2 h1.t.h1 h1.t.l1 h1.t.h2 h1.t.l2 h2.h1 h2.l1 h2.h2 h2.l2 h2.t.h1 h2.t.l1 h2.t.h2 h2.t.l2 hm hcm hk
end Go.Proofs.Ytmpmcffhlnlejaa.SubEq
