/- What a start's data say of memory: types, functions and contracts that came in, as lists. -/
import Derived.Test.YtmpmcffhlnlejaaSubEq
import Derived.ProofKit
import Derived.ChangeArms
namespace Go.Proofs.Ytmpmcffhlnlejaa.SubEq
open Go.RowKit Go.Proofs.YtmpmcffhlnlejaaW.PrintWords Go.Proofs.YtmpmcffhlnlejaaW.PrintLast Go.Proofs.YtmpmcffhlnlejaaW.PrintMore
open Go.Proofs.Ytmpmcffhlnlejaa.PSubFits
open Go.ChangeShapes Go.WideShapes
set_option linter.unusedVariables false
set_option linter.unusedSimpArgs false
set_option maxRecDepth 100000

theorem cells3 : Try.prog.cellsOf 3 = 1 := by kernel_rfl
theorem cells9 : Try.prog.cellsOf 9 = 1 := by kernel_rfl
theorem cells25 : Try.prog.cellsOf 25 = 4 := by kernel_rfl
theorem cells27 : Try.prog.cellsOf 27 = 7 := by kernel_rfl

section
variable {H : Type} {enc : TypeId × Value → H} {w : World} {base : Nat} {spare : Nat → Bool} {held : Bool}

theorem choose_list {α : Type} {p : Nat → α → Prop} : ∀ (n : Nat), (∀ i, i < n → ∃ x, p i x) → ∃ xs : List α, xs.length = n ∧ ∀ j x, xs[j]? = some x → p j x
  | 0, _ => ⟨[], rfl, fun j x h => by simp at h⟩
  | n + 1, h => by
    obtain ⟨xs, hl, hx⟩ := choose_list n (fun i hi => h i (by omega))
    obtain ⟨y, hy⟩ := h n (by omega)
    refine ⟨xs ++ [y], by simp [hl], fun j x hj => ?_⟩
    rcases Nat.lt_or_ge j xs.length with hlt | hge
    · rw [List.getElem?_append_left hlt] at hj
      exact hx j x hj
    · have hj' : j = xs.length := by
        have := (List.getElem?_eq_some_iff.1 hj).1
        simp at this
        omega
      subst hj'
      have e : y = x := by simpa using hj
      rw [← e, hl]
      exact hy

/-- A slice, opened by what its elements open to. -/
theorem open_C {α : Type} {d : Kd α} {t e : TypeId} {fuel : Nat} {cs : List Value} {x : DataW H × List MemPlace} (ht : Try.prog.underlying t = some (.slice e)) (hsz : Try.prog.cellsOf e = d.sz)
    (hel : ∀ n, n < fuel → ∀ (cs : List Value) (y : DataW H × List MemPlace), DataW.trod enc Try.prog w base spare held n e cs = some y → ∃ v : α, d.K w v cs)
    (h : DataW.trod enc Try.prog w base spare held fuel t cs = some x) : ∃ (A : Option Addr) (xs : List α) (c : Nat), cs = [.slice A xs.length c] ∧ xs.length ≤ c ∧ d.C w A xs.length xs := by
  rcases DataW.trod_slice ht h with ⟨rfl, _⟩ | ⟨a, len, cap, elems, rest, n, rfl, rfl, _, _, hlc, hcm, hle, hall, _, _⟩
  · exact ⟨none, [], 0, rfl, Nat.le_refl _, ⟨rfl, by simp, fun h => absurd h (by simp)⟩⟩
  · have hone : ∀ i, i < len → ∃ v : α, ∃ c : List Value, c.length = d.sz ∧ d.K w v c ∧ ∀ j u, c[j]? = some u → w.cell? (a.add (i * d.sz + j)) = some u := by
      intro i hi
      have h1 := hall i hi
      rw [List.getElem?_eq_getElem (by omega)] at h1
      obtain ⟨c, hc, hc2⟩ := Option.bind_eq_some_iff.1 h1
      obtain ⟨v, hv⟩ := hel n (by omega) c _ hc2
      obtain ⟨_, hl, hcell⟩ := World.cells?_some hc
      rw [hsz] at hl hcell
      refine ⟨v, c, hl, hv, fun j u hu => ?_⟩
      have hj : j < d.sz := by
        have := (List.getElem?_eq_some_iff.1 hu).1
        omega
      have := hcell j hj
      rw [add_add] at this
      exact this.trans hu
    obtain ⟨xs, hl, hx⟩ := choose_list len hone
    subst hl
    refine ⟨some a, xs, cap, rfl, hlc, rfl, by simp only [maxLen] at hcm; omega, fun _ => ⟨a, rfl, fun j p hj => ?_⟩⟩
    exact hx j p hj
where
  add_add (a : Addr) (i j : Nat) : (a.add i).add j = a.add (i + j) := by
    unfold Addr.add
    by_cases hi : i = 0 <;> by_cases hj : j = 0 <;> simp [hi, hj, Nat.add_assoc]


theorem open_str {n : Nat} {cs : List Value} {y : DataW H × List MemPlace} (h : DataW.trod enc Try.prog w base spare held n 9 cs = some y) : ∃ v : ByteArray, Kd.string.K w v cs := by
  obtain ⟨s, rfl, _, _⟩ := DataW.trod_string Try.underlying9 h
  exact ⟨s, rfl⟩
theorem open_i64 {n : Nat} {cs : List Value} {y : DataW H × List MemPlace} (h : DataW.trod enc Try.prog w base spare held n 3 cs = some y) : ∃ v : Int, (Kd.int .i64).K w v cs := by
  obtain ⟨s, rfl, _, _⟩ := DataW.trod_int Try.underlying3 h
  exact ⟨s, rfl⟩

theorem open25 : ∀ (fuel : Nat) (cs : List Value) (x : DataW H × List MemPlace), DataW.trod enc Try.prog w base spare held fuel 25 cs = some x → ∃ v : S25, k25.K w v cs := by
  intro fuel
  induction fuel using Nat.strongRecOn with
  | _ fuel ih =>
    intro cs x h
    obtain ⟨xs, n, rfl, _, hl, hxl, hf⟩ := DataW.trod_struct Try.underlying25 h
    have hl4 : cs.length = 4 := hl.trans cells25
    match cs, hl4 with
    | [v0, v1, v2, v3], _ =>
      have hx4 : xs.length = 4 := hxl
      match xs, hx4 with
      | [y0, y1, y2, y3], _ =>
        have f0 := hf 0 _ rfl
        have f1 := hf 1 _ rfl
        have f2 := hf 2 _ rfl
        have f3 := hf 3 _ rfl
        have g0 : DataW.trod enc Try.prog w base spare held n 3 [v0] = some y0 := f0
        have g1 : DataW.trod enc Try.prog w base spare held n 22 [v1] = some y1 := f1
        have g2 : DataW.trod enc Try.prog w base spare held n 23 [v2] = some y2 := f2
        have g3 : DataW.trod enc Try.prog w base spare held n 3 [v3] = some y3 := f3
        obtain ⟨a, e0, _, _⟩ := DataW.trod_int Try.underlying3 g0
        obtain ⟨b, e3, _, _⟩ := DataW.trod_int Try.underlying3 g3
        obtain ⟨A1, ns, c1, e1, l1, k1⟩ := open_C (d := Kd.string) Try.underlying22 cells9 (fun m _ cs' y' h' => open_str h') g1
        obtain ⟨A2, ls, c2, e2, l2, k2⟩ := open_C (d := k25) Try.underlying23 cells25 (fun m hm cs' y' h' => ih m (by omega) cs' y' h') g2
        injection e0 with e0
        injection e1 with e1
        injection e2 with e2
        injection e3 with e3
        subst e0 e1 e2 e3
        exact ⟨⟨a, ns, ls, b⟩, k25_mk w ⟨a, ns, ls, b⟩ l1 k1 l2 k2⟩

theorem open27 (fuel : Nat) (cs : List Value) (x : DataW H × List MemPlace) (h : DataW.trod enc Try.prog w base spare held fuel 27 cs = some x) : ∃ v : S27, k27.K w v cs := by
  obtain ⟨xs, n, rfl, _, hl, hxl, hf⟩ := DataW.trod_struct Try.underlying27 h
  have hl7 : cs.length = 7 := hl.trans cells27
  match cs, hl7 with
  | [v0, v1, v2, v3, v4, v5, v6], _ =>
    have hx4 : xs.length = 4 := hxl
    match xs, hx4 with
    | [y0, y1, y2, y3], _ =>
      have g0 : DataW.trod enc Try.prog w base spare held n 9 [v0] = some y0 := hf 0 _ rfl
      have g1 : DataW.trod enc Try.prog w base spare held n 22 [v1] = some y1 := hf 1 _ rfl
      have g2 : DataW.trod enc Try.prog w base spare held n 23 [v2] = some y2 := hf 2 _ rfl
      have g3 : DataW.trod enc Try.prog w base spare held n 25 [v3, v4, v5, v6] = some y3 := hf 3 _ rfl
      obtain ⟨s, e0, _, _⟩ := DataW.trod_string Try.underlying9 g0
      obtain ⟨A1, ns, c1, e1, l1, k1⟩ := open_C (d := Kd.string) Try.underlying22 cells9 (fun m _ cs' y' h' => open_str h') g1
      obtain ⟨A2, ls, c2, e2, l2, k2⟩ := open_C (d := k25) Try.underlying23 cells25 (fun m hm cs' y' h' => open25 m cs' y' h') g2
      obtain ⟨t, ht⟩ := open25 n _ _ g3
      obtain ⟨B1, b1, B2, b2, e3, m1, j1, m2, j2⟩ := k25_open ht
      injection e0 with e0
      injection e1 with e1
      injection e2 with e2
      subst e0 e1 e2
      injection e3 with e3 e4
      injection e4 with e4 e5
      injection e5 with e5 e6
      injection e6 with e6
      subst e3 e4 e5 e6
      exact ⟨⟨s, ns, ls, t⟩, k27_mk w ⟨s, ns, ls, t⟩ l1 k1 l2 k2 m1 j1 m2 j2⟩

theorem open_ty {v : Value} {r : Reach} {b : Nat} {d : DataW H} {p : List MemPlace} (hv : Value.okWide Try.prog w r b 25 v) (h : DataW.Trod enc Try.prog w base spare held 25 v d p) :
    ∃ (x : S25) (A1 : Option Addr) (c1 : Nat) (A2 : Option Addr) (c2 : Nat), v = .agg #[.int .i64 x.f0, .slice A1 x.f1.length c1, .slice A2 x.f2.length c2, .int .i64 x.f3] ∧ TyAt w x A1 c1 A2 c2 := by
  obtain ⟨cs, rfl, _⟩ := okWide_struct Try.underlying25 hv
  obtain ⟨fuel, hf⟩ := h
  obtain ⟨x, hx⟩ := open25 fuel _ _ hf
  obtain ⟨A1, c1, A2, c2, e, l1, g1, l2, g2⟩ := k25_open hx
  refine ⟨x, A1, c1, A2, c2, ?_, g1, l1, g2, l2⟩
  have e' : cs.toList = _ := e
  congr 1
  exact Array.toList_inj.1 e'

theorem open_sig {v : Value} {r : Reach} {b : Nat} {d : DataW H} {p : List MemPlace} (hv : Value.okWide Try.prog w r b 27 v) (h : DataW.Trod enc Try.prog w base spare held 27 v d p) :
    ∃ (x : S27) (A1 : Option Addr) (c1 : Nat) (A2 : Option Addr) (c2 : Nat) (A4 : Option Addr) (c4 : Nat) (A5 : Option Addr) (c5 : Nat),
      v = .agg #[.string x.f0, .slice A1 x.f1.length c1, .slice A2 x.f2.length c2, .int .i64 x.f3.f0, .slice A4 x.f3.f1.length c4, .slice A5 x.f3.f2.length c5, .int .i64 x.f3.f3] ∧
      Kd.string.C w A1 x.f1.length x.f1 ∧ x.f1.length ≤ c1 ∧ k25.C w A2 x.f2.length x.f2 ∧ x.f2.length ≤ c2 ∧ TyAt w x.f3 A4 c4 A5 c5 := by
  obtain ⟨cs, rfl, _⟩ := okWide_struct Try.underlying27 hv
  obtain ⟨fuel, hf⟩ := h
  obtain ⟨x, hx⟩ := open27 fuel _ _ hf
  obtain ⟨A1, c1, A2, c2, A4, c4, A5, c5, e, l1, g1, l2, g2, l4, g4, l5, g5⟩ := k27_open hx
  refine ⟨x, A1, c1, A2, c2, A4, c4, A5, c5, ?_, g1, l1, g2, l2, g4, l4, g5, l5⟩
  have e' : cs.toList = _ := e
  congr 1
  exact Array.toList_inj.1 e'

theorem open_nums {v : Value} {r : Reach} {b : Nat} {d : DataW H} {p : List MemPlace} (hv : Value.okWide Try.prog w r b 28 v) (h : DataW.Trod enc Try.prog w base spare held 28 v d p) :
    ∃ (A : Option Addr) (m : List Int) (c : Nat), v = .slice A m.length c ∧ m.length ≤ c ∧ (Kd.int .i64).C w A m.length m := by
  obtain ⟨a0, len, cap, rfl⟩ := okWide_slice Try.underlying28 hv
  obtain ⟨fuel, hf⟩ := h
  obtain ⟨A, m, c, e, l, k⟩ := open_C (d := Kd.int .i64) Try.underlying28 cells3 (fun m _ cs' y' h' => open_i64 h') hf
  have e' : [Value.slice a0 len cap] = [.slice A m.length c] := e
  injection e' with e'
  exact ⟨A, m, c, e', l, k⟩
end
end Go.Proofs.Ytmpmcffhlnlejaa.SubEq
