/- Plain laws of SubOver: fitting is transitive; differ answers. -/
import Derived.Test.YtmpmcffhlnlejaaSubFitsW
import Derived.Test.YtmpmcffhlnlejaaSubDif
namespace Go.Proofs.Ytmpmcffhlnlejaa.SubEq
open Go.RowKit Go.Proofs.YtmpmcffhlnlejaaW.PrintWords Go.Proofs.YtmpmcffhlnlejaaW.PrintLast Go.Proofs.YtmpmcffhlnlejaaW.PrintMore
open Go.Proofs.Ytmpmcffhlnlejaa.PSubFits
set_option linter.unusedVariables false
set_option linter.unusedSimpArgs false

theorem ixB_get {t : ByteArray} : ∀ {l : List ByteArray}, 0 ≤ ixB t l → ∃ i : Nat, ∃ h : i < l.length, ixB t l = (i : Int) ∧ l[i] = t
  | [], h => by simp [ixB] at h
  | x :: xs, h => by
    by_cases hx : x = t
    · exact ⟨0, by simp, by simp [ixB, hx], by simp [hx]⟩
    · unfold ixB at h
      rw [if_neg hx] at h
      by_cases hs : ixB t xs < 0
      · rw [if_pos hs] at h
        omega
      · obtain ⟨i, hi, h1, h2⟩ := ixB_get (t := t) (l := xs) (by omega)
        refine ⟨i + 1, by simp; omega, ?_, by simpa using h2⟩
        unfold ixB
        rw [if_neg hx, if_neg hs, h1]
        omega

theorem rd_pairs {a b : List ByteArray} {r : Int} (h0 : 0 ≤ r) (h1 : r < ((pairsF selfT a b).length : Int)) :
    ∃ h : r.toNat < a.length, rd (pairsF selfT a b) r = ixB a[r.toNat] b := by
  have hl : (pairsF selfT a b).length = a.length := by simp [pairsF]
  rw [hl] at h1
  have h : r.toNat < a.length := by omega
  refine ⟨h, ?_⟩
  have hr : r = ((r.toNat : Nat) : Int) := by omega
  have : rd (pairsF selfT a b) r = (pairsF selfT a b).getD r.toNat 0 := rfl
  rw [this]
  simp [pairsF, selfT, List.getD, h]

theorem refOk_trans {a b c : List ByteArray} {k x y z : Int} (h1 : refOk (pairsF selfT a b) k x y = true) (h2 : refOk (pairsF selfT b c) k y z = true) : refOk (pairsF selfT a c) k x z = true := by
  unfold refOk at *
  split
  · next hk =>
    rw [if_pos hk] at h1 h2
    obtain ⟨g1, g2, g3, g4⟩ := of_decide_eq_true h1
    obtain ⟨g5, g6, g7, g8⟩ := of_decide_eq_true h2
    obtain ⟨e1, e2⟩ := rd_pairs g1 g2
    obtain ⟨e3, e4⟩ := rd_pairs g5 g6
    rw [e2] at g3 g4
    rw [e4] at g7 g8
    obtain ⟨i, hi, e5, e6⟩ := ixB_get g3
    have g2' : x < ((pairsF selfT a c).length : Int) := by simpa [pairsF] using g2
    obtain ⟨_, e7⟩ := rd_pairs (b := c) g1 g2'
    have hy : y.toNat = i := by omega
    subst hy
    have e8 : b[y.toNat] = a[x.toNat] := e6
    rw [e8] at g7 g8
    exact decide_eq_true ⟨g1, g2', by rw [e7]; exact g7, by rw [e7]; exact g8⟩
  · next hk =>
    rw [if_neg hk] at h1 h2
    exact decide_eq_true ((of_decide_eq_true h1).trans (of_decide_eq_true h2))

mutual
theorem sameT_trans {a b c : List ByteArray} : ∀ {x y z : S25}, sameT (pairsF selfT a b) x y = true → sameT (pairsF selfT b c) y z = true → sameT (pairsF selfT a c) x z = true
  | ⟨k, ns, l, r⟩, ⟨k', ns', l', r'⟩, z, h1, h2 => by
    simp only [sameT, Bool.and_eq_true, decide_eq_true_eq] at h1 h2 ⊢
    obtain ⟨⟨⟨e1, e2⟩, e3⟩, e4⟩ := h1
    obtain ⟨⟨⟨f1, f2⟩, f3⟩, f4⟩ := h2
    have e1' : k = k' := e1
    have e2' : ns = ns' := e2
    have f1' : k' = z.f0 := f1
    have f2' : ns' = z.f1 := f2
    subst e1' e2'
    exact ⟨⟨⟨f1, f2⟩, refOk_trans e3 f3⟩, sameTs_trans e4 f4⟩
theorem sameTs_trans {a b c : List ByteArray} : ∀ {x y z : List S25}, sameTs (pairsF selfT a b) x y = true → sameTs (pairsF selfT b c) y z = true → sameTs (pairsF selfT a c) x z = true
  | [], [], z, h1, h2 => by
    cases z with
    | nil => simp [sameTs]
    | cons u v => simp [sameTs] at h2
  | x :: xs, y :: ys, [], h1, h2 => by simp [sameTs] at h2
  | x :: xs, y :: ys, z :: zs, h1, h2 => by
    simp only [sameTs, Bool.and_eq_true] at h1 h2 ⊢
    exact ⟨sameT_trans h1.1 h2.1, sameTs_trans h1.2 h2.2⟩
  | [], y :: ys, z, h1, h2 => by simp [sameTs] at h1
  | x :: xs, [], z, h1, h2 => by simp [sameTs] at h1
end

theorem sigsT_trans {a b c : List ByteArray} {x y z : S27} (h1 : sigsT (pairsF selfT a b) x y = true) (h2 : sigsT (pairsF selfT b c) y z = true) : sigsT (pairsF selfT a c) x z = true := by
  simp only [sigsT, Bool.and_eq_true, decide_eq_true_eq, ← sameTs_eq] at h1 h2 ⊢
  exact ⟨⟨h1.1.1.trans h2.1.1, sameT_trans h1.1.2 h2.1.2⟩, sameTs_trans h1.2 h2.2⟩

theorem allF_iff {among : List S27} {m : List Int} : ∀ {l : List S27}, allF among m l = 0 ↔ ∀ x ∈ l, ∃ y, among.find? (fun y => decide (y.f0 = x.f0)) = some y ∧ sigsT m x y = true
  | [] => by simp [allF]
  | x :: xs => by
    unfold allF
    cases hf : among.find? (fun y => decide (y.f0 = x.f0)) with
    | none => simp [hf]
    | some y =>
      by_cases hs : sigsT m x y = true
      · simp only [hs, if_true, List.mem_cons, forall_eq_or_imp, hf]
        rw [allF_iff]
        constructor
        · exact fun h => ⟨⟨y, rfl, hs⟩, h⟩
        · exact fun h => h.2
      · simp only [hs, List.mem_cons, forall_eq_or_imp, hf]
        constructor
        · intro h
          simp at h
        · rintro ⟨⟨y', h1, h2⟩, _⟩
          injection h1 with h1
          subst h1
          exact absurd h2 hs

theorem allF_trans {a b c : List ByteArray} {l lb lc : List S27} (h1 : allF lb (pairsF selfT a b) l = 0) (h2 : allF lc (pairsF selfT b c) lb = 0) : allF lc (pairsF selfT a c) l = 0 := by
  rw [allF_iff] at *
  intro x hx
  obtain ⟨y, hy, sy⟩ := h1 x hx
  have hn : y.f0 = x.f0 := by
    have := List.find?_some hy
    exact of_decide_eq_true this
  obtain ⟨z, hz, sz⟩ := h2 y (List.mem_of_find?_eq_some hy)
  rw [hn] at hz
  exact ⟨z, hz, sigsT_trans sy sz⟩

theorem fits_trans {a b c : Con} (h1 : fitsF a b = 0) (h2 : fitsF b c = 0) : fitsF a c = 0 := by
  unfold fitsF at *
  by_cases e1 : insF a b = 0
  · rw [if_pos e1] at h1
    by_cases e2 : insF b c = 0
    · rw [if_pos e2] at h2
      have e3 : insF a c = 0 := allF_trans e1 e2
      rw [if_pos e3]
      exact allF_trans h2 h1
    · rw [if_neg e2] at h2
      exact absurd h2 e2
  · rw [if_neg e1] at h1
    exact absurd h1 e1

/-- A loop within a loop answers. -/
theorem dbl {O : Nat → Int → Option Bool} {I : Nat → Int → Int → Option Bool} {E : Nat → Option Bool} {n : Nat}
    (hO : ∀ (k x : Nat), x < n → O (k + 1) x = I k x 0) (hOe : ∀ (k x : Nat), n ≤ x → O (k + 1) x = E k)
    (hI : ∀ (k x y : Nat), y < x → x < n → I (k + 1) x y = some false ∨ I (k + 1) x y = I k x ((y : Int) + 1)) (hIs : ∀ (x y : Nat), y < x → x < n → (∀ k, I (k + 1) x y = some false) ∨ (∀ k, I (k + 1) x y = I k x ((y : Int) + 1)))
    (hI3 : ∀ (k x y : Nat), x ≤ y → x < n → I (k + 1) x y = O k ((x : Int) + 1)) (hE : ∃ k r, E k = some r) : ∃ k r, O k 0 = some r := by
  have main : ∀ (d x : Nat), x + d = n → ∃ k r, O k (x : Int) = some r := by
    intro d
    induction d with
    | zero =>
      intro x hx
      obtain ⟨k, r, h⟩ := hE
      exact ⟨k + 1, r, by rw [hOe k x (by omega)]; exact h⟩
    | succ d ih =>
      intro x hx
      obtain ⟨k, r, h⟩ := ih (x + 1) (by omega)
      have inner : ∀ (e y : Nat), y + e = x → ∃ k r, I k (x : Int) (y : Int) = some r := by
        intro e
        induction e with
        | zero =>
          intro y hy
          exact ⟨k + 1, r, by rw [hI3 k x y (by omega) (by omega)]; simpa using h⟩
        | succ e ihe =>
          intro y hy
          rcases hIs x y (by omega) (by omega) with h1 | h1
          · exact ⟨1, false, h1 0⟩
          · obtain ⟨k', r', h'⟩ := ihe (y + 1) (by omega)
            exact ⟨k' + 1, r', by rw [h1]; simpa using h'⟩
      obtain ⟨k', r', h'⟩ := inner x 0 (by omega)
      exact ⟨k' + 1, r', by rw [hO k' x (by omega)]; simpa using h'⟩
  simpa using main n 0 (by omega)

open Go.Proofs.Ytmpmcffhlnlejaa.SubDif in
theorem differ_ev (x0 : List ByteArray) (x1 x2 : List S27) (h0 : x0.length ≤ 9223372036854775807) (h1 : x1.length ≤ 9223372036854775807) (h2 : x2.length ≤ 9223372036854775807) : ∃ k r, scarflaw14_differ.f k x0 x1 x2 = some r := by
  unfold scarflaw14_differ.f
  have wr : ∀ {x n : Nat}, x < n → n ≤ 9223372036854775807 → wrap64 ((x : Int) + 1) = (x : Int) + 1 := fun h1 h2 => by
    unfold wrap64; omega
  have c4 : ∃ k r, scarflaw14_differ.l4 k 0 x0 x1 x2 = some r := by
    refine dbl (O := fun k x => scarflaw14_differ.l4 k x x0 x1 x2) (I := fun k x y => scarflaw14_differ.l5 k x y x0 x1 x2) (E := fun _ => some true) (n := x0.length) ?_ ?_ ?_ ?_ ?_ ⟨0, true, rfl⟩
    · intro k x h
      simp only [scarflaw14_differ.l4]
      rw [if_pos (by omega)]
    · intro k x h
      simp only [scarflaw14_differ.l4]
      rw [if_neg (by omega)]
    · intro k x y h1 h2
      simp only [scarflaw14_differ.l5]
      rw [if_pos (by omega), if_pos (by omega), if_pos (by omega), if_pos (by omega), if_pos (by omega), wr h1 (by omega)]
      split
      · exact .inl rfl
      · exact .inr rfl
    · intro x y h1 h2
      by_cases hq : (rdOf ByteArray.empty x0 (x : Int)).toList = (rdOf ByteArray.empty x0 (y : Int)).toList
      · refine .inl fun k => ?_
        simp only [scarflaw14_differ.l5]
        rw [if_pos (by omega), if_pos (by omega), if_pos (by omega), if_pos (by omega), if_pos (by omega), if_pos hq]
      · refine .inr fun k => ?_
        simp only [scarflaw14_differ.l5]
        rw [if_pos (by omega), if_pos (by omega), if_pos (by omega), if_pos (by omega), if_pos (by omega), if_neg hq, wr h1 (by omega)]
    · intro k x y h1 h2
      simp only [scarflaw14_differ.l5]
      rw [if_neg (by omega), wr h2 (by omega)]
  have c2 : ∃ k r, scarflaw14_differ.l2 k 0 x0 x1 x2 = some r := by
    refine dbl (O := fun k x => scarflaw14_differ.l2 k x x0 x1 x2) (I := fun k x y => scarflaw14_differ.l3 k x y x0 x1 x2) (E := fun k => scarflaw14_differ.l4 k 0 x0 x1 x2) (n := x2.length) ?_ ?_ ?_ ?_ ?_ c4
    · intro k x h
      simp only [scarflaw14_differ.l2]
      rw [if_pos (by omega)]
    · intro k x h
      simp only [scarflaw14_differ.l2]
      rw [if_neg (by omega)]
    · intro k x y h1 h2
      simp only [scarflaw14_differ.l3]
      rw [if_pos (by omega), if_pos (by omega), if_pos (by omega), if_pos (by omega), if_pos (by omega), wr h1 (by omega)]
      split
      · exact .inl rfl
      · exact .inr rfl
    · intro x y h1 h2
      by_cases hq : ((rd_T27 x2 (x : Int)).f0).toList = ((rd_T27 x2 (y : Int)).f0).toList
      · refine .inl fun k => ?_
        simp only [scarflaw14_differ.l3]
        rw [if_pos (by omega), if_pos (by omega), if_pos (by omega), if_pos (by omega), if_pos (by omega), if_pos hq]
      · refine .inr fun k => ?_
        simp only [scarflaw14_differ.l3]
        rw [if_pos (by omega), if_pos (by omega), if_pos (by omega), if_pos (by omega), if_pos (by omega), if_neg hq, wr h1 (by omega)]
    · intro k x y h1 h2
      simp only [scarflaw14_differ.l3]
      rw [if_neg (by omega), wr h2 (by omega)]
  refine dbl (O := fun k x => scarflaw14_differ.l0 k x x0 x1 x2) (I := fun k x y => scarflaw14_differ.l1 k x y x0 x1 x2) (E := fun k => scarflaw14_differ.l2 k 0 x0 x1 x2) (n := x1.length) ?_ ?_ ?_ ?_ ?_ c2
  · intro k x h
    simp only [scarflaw14_differ.l0]
    rw [if_pos (by omega)]
  · intro k x h
    simp only [scarflaw14_differ.l0]
    rw [if_neg (by omega)]
  · intro k x y h1 h2
    simp only [scarflaw14_differ.l1]
    rw [if_pos (by omega), if_pos (by omega), if_pos (by omega), if_pos (by omega), if_pos (by omega), wr h1 (by omega)]
    split
    · exact .inl rfl
    · exact .inr rfl
  · intro x y h1 h2
    by_cases hq : ((rd_T27 x1 (x : Int)).f0).toList = ((rd_T27 x1 (y : Int)).f0).toList
    · refine .inl fun k => ?_
      simp only [scarflaw14_differ.l1]
      rw [if_pos (by omega), if_pos (by omega), if_pos (by omega), if_pos (by omega), if_pos (by omega), if_pos hq]
    · refine .inr fun k => ?_
      simp only [scarflaw14_differ.l1]
      rw [if_pos (by omega), if_pos (by omega), if_pos (by omega), if_pos (by omega), if_pos (by omega), if_neg hq, wr h1 (by omega)]
  · intro k x y h1 h2
    simp only [scarflaw14_differ.l1]
    rw [if_neg (by omega), wr h2 (by omega)]

theorem differ_calls {a : Con} {A1 A2 A3 : Option Addr} {c1 c2 c3 : Nat} {w : World} (h : ConAt w a A1 c1 A2 c2 A3 c3) :
    Calls Try.prog 24 #[.agg #[.slice A1 a.res.length c1, .slice A2 a.ins.length c2, .slice A3 a.outs.length c3]] w fun e w' => ∃ r, e = .returned (.bool r) ∧ Below w.heap.size w w' := by
  obtain ⟨k, r, hr⟩ := differ_ev a.res a.ins a.outs h.h1.2.1 h.h2.2.1 h.h3.2.1
  exact (SubDif.scarflaw14_differ.calls k A1 c1 a.res A2 c2 a.ins A3 c3 a.outs r w h.h1 h.l1 h.h2 h.l2 h.h3 h.l3 hr).mono fun e w' hh => ⟨r, hh⟩
end Go.Proofs.Ytmpmcffhlnlejaa.SubEq
