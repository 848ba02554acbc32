/- What scarfref14.Same and Sigs (as printed) come to: the plain functions sameT and sigsT, at types whose lists are no longer than an int can count. -/
import Derived.Test.YtmpmcffhlnlejaaSubEq
import Derived.Test.YtmpmcffhlnlejaaPSubFitsx3
namespace Go.Proofs.Ytmpmcffhlnlejaa.SubEq
open Go.RowKit Go.Proofs.YtmpmcffhlnlejaaW.PrintWords Go.Proofs.YtmpmcffhlnlejaaW.PrintLast Go.Proofs.YtmpmcffhlnlejaaW.PrintMore
open Go.Proofs.Ytmpmcffhlnlejaa.PSubFits
set_option linter.unusedVariables false
set_option linter.unusedSimpArgs false

/-- No list within is longer than an int can count. -/
inductive Fit : S25 → Prop
  | mk (x : S25) (h1 : x.f1.length ≤ 9223372036854775807) (h2 : x.f2.length ≤ 9223372036854775807) (h : ∀ y ∈ x.f2, Fit y) : Fit x

theorem Fit.h1 {x : S25} (h : Fit x) : x.f1.length ≤ 9223372036854775807 := by cases h; assumption
theorem Fit.h2 {x : S25} (h : Fit x) : x.f2.length ≤ 9223372036854775807 := by cases h; assumption
theorem Fit.sub {x : S25} (h : Fit x) : ∀ y ∈ x.f2, Fit y := by cases h; assumption

theorem size_sub {x y : S25} (h : y ∈ x.f2) : SizeOf.sizeOf y < SizeOf.sizeOf x := by
  have h1 := List.sizeOf_lt_of_mem h
  have h2 : SizeOf.sizeOf x.f2 < SizeOf.sizeOf x := by
    cases x
    simp
    omega
  omega

theorem mem_C {w : World} {A : Option Addr} {xs : List S25} (h : k25.C w A xs.length xs) : ∀ y ∈ xs, ∃ cs, k25.K w y cs := by
  intro y hy
  obtain ⟨i, hi, rfl⟩ := List.mem_iff_getElem.1 hy
  obtain ⟨ad, hA, hc⟩ := h.2.2 (by omega)
  obtain ⟨c, _, hK, _⟩ := hc i _ (List.getElem?_eq_getElem hi)
  exact ⟨c, hK⟩

theorem fit_K : ∀ (n : Nat) (x : S25), SizeOf.sizeOf x ≤ n → ∀ {w : World} {cs : List Value}, k25.K w x cs → Fit x := by
  intro n
  induction n with
  | zero =>
    intro x hx
    cases x
    simp at hx
  | succ n ih =>
    intro x hx w cs hK
    obtain ⟨A1, c1, A2, c2, _, l1, g1, l2, g2⟩ := k25_open hK
    refine ⟨x, g1.2.1, g2.2.1, fun y hy => ?_⟩
    obtain ⟨cs', hK'⟩ := mem_C g2 y hy
    exact ih y (by have := size_sub hy; omega) hK'

theorem fit_C {w : World} {A : Option Addr} {xs : List S25} (h : k25.C w A xs.length xs) : ∀ y ∈ xs, Fit y := fun y hy => by
  obtain ⟨cs, hK⟩ := mem_C h y hy
  exact fit_K _ y (Nat.le_refl _) hK

theorem fit_At {w : World} {x : S25} {A1 : Option Addr} {c1 : Nat} {A2 : Option Addr} {c2 : Nat} (h : TyAt w x A1 c1 A2 c2) : Fit x := ⟨x, h.h1.2.1, h.h2.2.1, fit_C h.h2⟩

theorem names_l0 (xs ys : List ByteArray) (hl : xs.length = ys.length) (hn : xs.length ≤ 9223372036854775807) : ∀ (d k : Nat), k + d = xs.length →
    scarfref11_SameNames.l0 (d + 1) xs ys (k : Int) = some (decide (xs.drop k = ys.drop k)) := by
  intro d
  induction d with
  | zero =>
    intro k hk
    simp only [scarfref11_SameNames.l0]
    rw [if_neg (by omega), List.drop_eq_nil_of_le (by omega), List.drop_eq_nil_of_le (by omega)]
    simp
  | succ d ih =>
    intro k hk
    have h1 : k < xs.length := by omega
    have h2 : k < ys.length := by omega
    rw [scarfref11_SameNames.l0]
    rw [if_pos (by omega), if_pos (by omega), if_pos (by omega), rdB_eq h1, rdB_eq h2, wrap_succ h1 hn, ih (k + 1) (by omega)]
    by_cases e : xs[k] = ys[k]
    · rw [if_pos (by rw [e])]
      congr 1
      rw [decide_eq_decide, drop_eq_iff h1 h2]
      exact ⟨fun h => ⟨e, h⟩, fun h => h.2⟩
    · rw [if_neg (fun h => e (bytes_ext h))]
      congr 1
      symm
      rw [decide_eq_false_iff_not, drop_eq_iff h1 h2]
      exact fun h => e h.1

theorem names_ev (xs ys : List ByteArray) (hn : xs.length ≤ 9223372036854775807) : Ev (fun k => scarfref11_SameNames.f k xs ys) (decide (xs = ys)) := by
  by_cases hl : xs.length = ys.length
  · refine Ev.of (fun k => scarfref11_SameNames.mono xs ys k) (k := xs.length + 1) ?_
    unfold scarfref11_SameNames.f
    rw [if_pos (by omega)]
    have := names_l0 xs ys hl hn xs.length 0 (by omega)
    simpa using this
  · refine Ev.of (fun k => scarfref11_SameNames.mono xs ys k) (k := 0) ?_
    unfold scarfref11_SameNames.f
    rw [if_neg (by omega)]
    congr 1
    symm
    rw [decide_eq_false_iff_not]
    exact fun h => hl (by rw [h])

/-- scarfref14.Same at a pair. -/
def RefSame (m : List Int) (x y : S25) : Prop := Ev (fun k => scarfref14_Same.f k x.f0 x.f1 x.f2 x.f3 y.f0 y.f1 y.f2 y.f3 m) (sameT m x y)

theorem ref_l0 {m : List Int} {l l' : List S25} (hl : l.length = l'.length) (hn : l.length ≤ 9223372036854775807) (ih : ∀ x ∈ l, ∀ y ∈ l', RefSame m x y) (a0 : Int) (a1 : List ByteArray) (a3 b0 : Int) (b1 : List ByteArray) (b3 x7 : Int) :
    ∀ (d i : Nat), i + d = l.length → Ev (fun k => scarfref14_Same.l0 k m x7 (i : Int) a0 a1 l a3 b0 b1 l' b3) (eqL (sameT m) (l.drop i) (l'.drop i) && (x7 == b3)) := by
  intro d
  induction d with
  | zero =>
    intro i hi
    rw [eqL_drop_nil hl (by omega), Bool.true_and]
    refine Ev.step (f := fun _ => some (x7 == b3)) (fun k => ?_) (Ev.now _)
    simp only [scarfref14_Same.l0]
    rw [if_neg (by omega)]
  | succ d ihd =>
    intro i hi
    have h1 : i < l.length := by omega
    have h2 : i < l'.length := by omega
    rw [eqL_drop_step hl h1]
    have hx : rd_T25 l (i : Int) ∈ l := by rw [rdT_eq h1]; exact List.getElem_mem h1
    have hy : rd_T25 l' (i : Int) ∈ l' := by rw [rdT_eq h2]; exact List.getElem_mem h2
    refine Ev.step (f := fun k => (scarfref14_Same.f k (rd_T25 l (i : Int)).f0 (rd_T25 l (i : Int)).f1 (rd_T25 l (i : Int)).f2 (rd_T25 l (i : Int)).f3 (rd_T25 l' (i : Int)).f0 (rd_T25 l' (i : Int)).f1 (rd_T25 l' (i : Int)).f2 (rd_T25 l' (i : Int)).f3 m).bind fun t => if t = true then scarfref14_Same.l0 k m x7 (wrap64 ((i : Int) + 1)) a0 a1 l a3 b0 b1 l' b3 else some false) (fun k => ?_) ?_
    · rw [scarfref14_Same.l0]
      rw [if_pos (by omega), if_pos (by omega), if_pos (by omega)]
    · refine Ev.bind (ih _ hx _ hy) ?_
      cases sameT m (rd_T25 l (i : Int)) (rd_T25 l' (i : Int)) with
      | true =>
        simp only [if_true, Bool.true_and]
        rw [wrap_succ h1 hn]
        exact ihd (i + 1) (by omega)
      | false =>
        simp only [Bool.false_and]
        exact Ev.congr (fun k => by simp) (Ev.now false)

theorem ref_j2 {m : List Int} {l l' : List S25} (hl : l.length = l'.length) (hn : l.length ≤ 9223372036854775807) (ih : ∀ x ∈ l, ∀ y ∈ l', RefSame m x y) (a0 : Int) (a1 : List ByteArray) (a3 b0 : Int) (b1 : List ByteArray) (b3 x7 : Int) :
    Ev (fun k => scarfref14_Same.j2 k m x7 a0 a1 l a3 b0 b1 l' b3) (eqL (sameT m) l l' && (x7 == b3)) := by
  have h := ref_l0 hl hn ih a0 a1 a3 b0 b1 b3 x7 l.length 0 (by omega)
  exact Ev.step (fun k => by rw [scarfref14_Same.j2]) (by simpa using h)

theorem ref_j1 {m : List Int} {l l' : List S25} (hl : l.length = l'.length) (hn : l.length ≤ 9223372036854775807) (ih : ∀ x ∈ l, ∀ y ∈ l', RefSame m x y) (a0 : Int) (a1 : List ByteArray) (a3 b0 : Int) (b1 : List ByteArray) (b3 : Int) (own : Bool) (ho : own = decide (a0 = 20 ∨ a0 = 21)) :
    Ev (fun k => scarfref14_Same.j1 k m a3 own a0 a1 l a3 b0 b1 l' b3) (refOk m a0 a3 b3 && eqL (sameT m) l l') := by
  refine Ev.step (f := fun k => _) (fun k => by rw [scarfref14_Same.j1]) ?_
  cases own with
  | true =>
    have hk : a0 = 20 ∨ a0 = 21 := of_decide_eq_true ho.symm
    simp only [if_true]
    unfold refOk
    rw [if_pos hk]
    by_cases r1 : a3 < 0
    · simp only [if_pos r1]
      rw [decide_eq_false (by omega)]
      exact Ev.now false
    · by_cases r2 : a3 ≥ (m.length : Int)
      · simp only [if_neg r1, if_pos r2]
        rw [decide_eq_false (by omega)]
        exact Ev.now false
      · simp only [if_neg r1, if_neg r2, if_pos (show (0 : Int) ≤ a3 by omega), if_pos (show a3 < (m.length : Int) by omega)]
        by_cases r3 : rd m a3 < 0
        · simp only [if_pos r3]
          rw [decide_eq_false (by omega)]
          exact Ev.now false
        · simp only [if_neg r3]
          have h := ref_j2 hl hn ih a0 a1 a3 b0 b1 b3 (rd m a3)
          have e : (decide (0 ≤ a3 ∧ a3 < (m.length : Int) ∧ 0 ≤ rd m a3 ∧ rd m a3 = b3) && eqL (sameT m) l l') = (eqL (sameT m) l l' && (rd m a3 == b3)) := by
            rw [Bool.and_comm]
            congr 1
            by_cases q : rd m a3 = b3
            · rw [decide_eq_true (by refine ⟨by omega, by omega, by omega, q⟩), beq_iff_eq.mpr q]
            · rw [decide_eq_false (fun h => q h.2.2.2), beq_eq_false_iff_ne.mpr q]
          rw [e]
          exact h
  | false =>
    have hk : ¬ (a0 = 20 ∨ a0 = 21) := of_decide_eq_false ho.symm
    simp only [Bool.false_eq_true, if_false]
    unfold refOk
    rw [if_neg hk]
    have h := ref_j2 hl hn ih a0 a1 a3 b0 b1 b3 a3
    have e : (decide (a3 = b3) && eqL (sameT m) l l') = (eqL (sameT m) l l' && (a3 == b3)) := by
      rw [Bool.and_comm]
      congr 1
    rw [e]
    exact h

theorem ref_step {m : List Int} {x y : S25} (h1 : x.f1.length ≤ 9223372036854775807) (hn : x.f2.length ≤ 9223372036854775807) (ih : ∀ x' ∈ x.f2, ∀ y' ∈ y.f2, RefSame m x' y') : RefSame m x y := by
  unfold RefSame
  refine Ev.step (f := fun k => _) (fun k => by rw [scarfref14_Same.f]) ?_
  rw [sameT_eq]
  have jt : Ev (fun k => scarfref14_Same.j0 k m true x.f0 x.f1 x.f2 x.f3 y.f0 y.f1 y.f2 y.f3) false :=
    Ev.step (f := fun _ => some false) (fun k => by rw [scarfref14_Same.j0]; simp) (Ev.now _)
  by_cases h0 : x.f0 = y.f0
  · simp only [if_pos h0]
    refine Ev.bind (names_ev x.f1 y.f1 h1) ?_
    by_cases hs : x.f1 = y.f1
    · rw [decide_eq_true hs, decide_eq_true h0]
      simp only [if_true, Bool.true_and]
      by_cases hl : x.f2.length = y.f2.length
      · have e : ((x.f2.length : Int) != (y.f2.length : Int)) = false := bne_eq_false_iff_eq.mpr (by omega)
        rw [e]
        refine Ev.step (f := fun k => _) (fun k => by rw [scarfref14_Same.j0]) ?_
        simp only [Bool.false_eq_true, if_false]
        by_cases h20 : x.f0 = 20
        · simp only [if_pos h20]
          exact ref_j1 hl hn ih _ _ _ _ _ _ true (by rw [decide_eq_true (.inl h20)])
        · simp only [if_neg h20]
          exact ref_j1 hl hn ih _ _ _ _ _ _ _ (by
            by_cases h21 : x.f0 = 21
            · rw [beq_iff_eq.mpr h21, decide_eq_true (.inr h21)]
            · rw [beq_eq_false_iff_ne.mpr h21, decide_eq_false (fun h => h.elim h20 h21)])
      · have e : ((x.f2.length : Int) != (y.f2.length : Int)) = true := bne_iff_ne.mpr (by omega)
        rw [e, eqL_len hl, Bool.and_false]
        exact jt
    · rw [decide_eq_false hs]
      simp only [Bool.false_eq_true, if_false, Bool.and_false, Bool.false_and]
      exact jt
  · simp only [if_neg h0]
    rw [decide_eq_false h0]
    simp only [Bool.false_and]
    exact jt

theorem ref_same_n (m : List Int) : ∀ (n : Nat) (x : S25), SizeOf.sizeOf x ≤ n → Fit x → ∀ y, RefSame m x y := by
  intro n
  induction n with
  | zero =>
    intro x hx
    cases x
    simp at hx
  | succ n ih =>
    intro x hx hf y
    exact ref_step hf.h1 hf.h2 (fun x' hx' y' _ => ih x' (by have := size_sub hx'; omega) (hf.sub x' hx') y')

theorem ref_same (m : List Int) {x : S25} (hf : Fit x) (y : S25) : RefSame m x y := ref_same_n m _ x (Nat.le_refl _) hf y
end Go.Proofs.Ytmpmcffhlnlejaa.SubEq
