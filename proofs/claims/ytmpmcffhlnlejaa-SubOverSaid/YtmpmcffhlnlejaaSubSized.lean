/- What a start's data say of memory, with the form's own reach: strings and slices within what came in are no longer than the reach allows. -/
import Derived.Test.YtmpmcffhlnlejaaSubOpen
import Derived.SizedLaws
namespace Go.Proofs.Ytmpmcffhlnlejaa.SubEq
open Go.RowKit Go.Proofs.YtmpmcffhlnlejaaW.PrintWords Go.Proofs.YtmpmcffhlnlejaaW.PrintLast Go.Proofs.YtmpmcffhlnlejaaW.PrintMore
open Go.Proofs.Ytmpmcffhlnlejaa.PSubFits
open Go.ChangeShapes Go.WideShapes
set_option linter.unusedVariables false
set_option linter.unusedSimpArgs false
set_option maxRecDepth 100000

section
variable {H : Type} {enc : TypeId × Value → H} {w : World} {base : Nat} {spare : Nat → Bool} {held : Bool}

/-- All that is within is within the reach. -/
def Within (t : TypeId) (d : DataW H) : Prop := ∀ n ∈ d.weights Try.prog t, n ≤ 140737488351232

theorem weights_all_mem {e : TypeId} : ∀ {l : List (DataW H)} {d : DataW H}, d ∈ l → ∀ n ∈ d.weights Try.prog e, n ∈ DataW.weightsAll Try.prog e l
  | a :: l, d, h, n, hn => by
    simp only [DataW.weightsAll, List.mem_append]
    rcases List.mem_cons.1 h with rfl | h
    · exact .inl hn
    · exact .inr (weights_all_mem h n hn)

theorem within_elem {t e : TypeId} (ht : Try.prog.underlying t = some (.slice e)) {elems spare' : List (DataW H)} (h : Within t (.slice elems spare')) : (∀ d ∈ elems, Within e d) ∧ elems.length * Try.prog.bytesOf e ≤ 140737488351232 := by
  unfold Within at h
  simp only [DataW.weights, ht] at h
  refine ⟨fun d hd n hn => h n ?_, ?_⟩
  · simp only [List.mem_cons, List.mem_append]
    exact .inr (.inl (weights_all_mem hd n hn))
  · have h1 := h ((elems.length + spare'.length) * Try.prog.bytesOf e) List.mem_cons_self
    exact Nat.le_trans (Nat.mul_le_mul_right _ (Nat.le_add_right _ _)) h1

theorem within_field {t : TypeId} {fs : Array Field} (ht : Try.prog.underlying t = some (.struct fs)) {parts : List (DataW H)} (h : Within t (.agg parts)) {i : Nat} {f : Field} {d : DataW H} (hf : fs[i]? = some f) (hd : parts[i]? = some d) : Within f.type d := by
  intro n hn
  refine h n ?_
  simp only [DataW.weights, ht]
  refine DataW.weights_mem_each (j := i) (t := f.type) (d := d) ?_ hd n hn
  simp [hf]

theorem open_CW {α : Type} {d : Kd α} {p : α → Prop} {t e : TypeId} {fuel : Nat} {cs : List Value} {x : DataW H × List MemPlace} (ht : Try.prog.underlying t = some (.slice e)) (hsz : Try.prog.cellsOf e = d.sz)
    (hel : ∀ n, n < fuel → ∀ (cs : List Value) (y : DataW H × List MemPlace), DataW.trod enc Try.prog w base spare held n e cs = some y → Within e y.1 → ∃ v : α, d.K w v cs ∧ p v)
    (h : DataW.trod enc Try.prog w base spare held fuel t cs = some x) (hw : Within t x.1) :
    ∃ (A : Option Addr) (xs : List α) (c : Nat), cs = [.slice A xs.length c] ∧ xs.length ≤ c ∧ d.C w A xs.length xs ∧ (∀ v ∈ xs, p v) ∧ xs.length * Try.prog.bytesOf e ≤ 140737488351232 := by
  rcases DataW.trod_slice ht h with ⟨rfl, _⟩ | ⟨a, len, cap, elems, rest, n, rfl, rfl, rfl, _, hlc, hcm, hle, hall, _, _⟩
  · exact ⟨none, [], 0, rfl, Nat.le_refl _, ⟨rfl, by simp, fun h => absurd h (by simp)⟩, fun v hv => by simp at hv, by simp⟩
  · obtain ⟨hwe, hwl⟩ := within_elem ht hw
    have hone : ∀ i, i < len → ∃ v : α, p v ∧ ∃ c : List Value, c.length = d.sz ∧ d.K w v c ∧ ∀ j u, c[j]? = some u → w.cell? (a.add (i * d.sz + j)) = some u := by
      intro i hi
      have h1 := hall i hi
      rw [List.getElem?_eq_getElem (by omega)] at h1
      obtain ⟨c, hc, hc2⟩ := Option.bind_eq_some_iff.1 h1
      obtain ⟨v, hv, hp⟩ := hel n (by omega) c _ hc2 (hwe _ (List.mem_map_of_mem (List.getElem_mem _)))
      obtain ⟨_, hl, hcell⟩ := World.cells?_some hc
      rw [hsz] at hl hcell
      refine ⟨v, hp, c, hl, hv, fun j u hu => ?_⟩
      have hj : j < d.sz := by
        have := (List.getElem?_eq_some_iff.1 hu).1
        omega
      have := hcell j hj
      rw [open_C.add_add] at this
      exact this.trans hu
    obtain ⟨xs, hl, hx⟩ := choose_list len hone
    subst hl
    refine ⟨some a, xs, cap, rfl, hlc, ⟨rfl, by simp only [maxLen] at hcm; omega, fun _ => ⟨a, rfl, fun j q hj => (hx j q hj).2⟩⟩, fun v hv => ?_, ?_⟩
    · obtain ⟨i, hi, rfl⟩ := List.mem_iff_getElem.1 hv
      exact (hx i _ (List.getElem?_eq_getElem hi)).1
    · have e : (elems.map (·.1)).length = xs.length := by simp [hle]
      rw [e] at hwl
      exact hwl

theorem open_strW {n : Nat} {cs : List Value} {y : DataW H × List MemPlace} (h : DataW.trod enc Try.prog w base spare held n 9 cs = some y) (hw : Within 9 y.1) : ∃ v : ByteArray, Kd.string.K w v cs ∧ v.size ≤ 140737488351232 := by
  obtain ⟨s, rfl, hy, _⟩ := DataW.trod_string Try.underlying9 h
  refine ⟨s, rfl, ?_⟩
  rw [hy] at hw
  have h2 : s.data.toList.length ≤ 140737488351232 := hw s.data.toList.length (by simp only [DataW.weights]; exact List.mem_singleton_self _)
  rw [Array.length_toList] at h2
  exact h2

theorem bytes9 : Try.prog.bytesOf 9 = 16 := by kernel_rfl

/-- A function that came in, its names within the reach. -/
theorem open27W (fuel : Nat) (cs : List Value) (x : DataW H × List MemPlace) (h : DataW.trod enc Try.prog w base spare held fuel 27 cs = some x) (hw : Within 27 x.1) :
    ∃ v : S27, k27.K w v cs ∧ v.f0.size ≤ 140737488351232 ∧ ∀ s ∈ v.f1, s.size ≤ 140737488351232 := by
  obtain ⟨xs, n, rfl, rfl, hl, hxl, hf⟩ := DataW.trod_struct Try.underlying27 h
  have hl7 : cs.length = 7 := hl.trans cells27
  match cs, hl7 with
  | [v0, v1, v2, v3, v4, v5, v6], _ =>
    have hx4 : xs.length = 4 := hxl
    match xs, hx4 with
    | [y0, y1, y2, y3], _ =>
      have g0 : DataW.trod enc Try.prog w base spare held n 9 [v0] = some y0 := hf 0 _ rfl
      have g1 : DataW.trod enc Try.prog w base spare held n 22 [v1] = some y1 := hf 1 _ rfl
      have g2 : DataW.trod enc Try.prog w base spare held n 23 [v2] = some y2 := hf 2 _ rfl
      have g3 : DataW.trod enc Try.prog w base spare held n 25 [v3, v4, v5, v6] = some y3 := hf 3 _ rfl
      have w0 : Within 9 y0.1 := within_field (i := 0) Try.underlying27 hw rfl rfl
      have w1 : Within 22 y1.1 := within_field (i := 1) Try.underlying27 hw rfl rfl
      obtain ⟨s, e0, z0⟩ := open_strW g0 w0
      obtain ⟨A1, ns, c1, e1, l1, k1, q1, _⟩ := open_CW (d := Kd.string) (p := fun s : ByteArray => s.size ≤ 140737488351232) Try.underlying22 cells9 (fun m _ cs' y' h' w' => open_strW h' w') g1 w1
      obtain ⟨A2, ls, c2, e2, l2, k2⟩ := open_C (d := k25) Try.underlying23 cells25 (fun m hm cs' y' h' => open25 m cs' y' h') g2
      obtain ⟨t, ht⟩ := open25 n _ _ g3
      obtain ⟨B1, b1, B2, b2, e3, m1, j1, m2, j2⟩ := k25_open ht
      have e0' : [v0] = [Value.string s] := e0
      injection e0' with e0
      injection e1 with e1
      injection e2 with e2
      subst e0 e1 e2
      injection e3 with e3 e4
      injection e4 with e4 e5
      injection e5 with e5 e6
      injection e6 with e6
      subst e3 e4 e5 e6
      exact ⟨⟨s, ns, ls, t⟩, k27_mk w ⟨s, ns, ls, t⟩ l1 k1 l2 k2 m1 j1 m2 j2, z0, q1⟩

theorem open_sigW {v : Value} {r : Reach} {b : Nat} {d : DataW H} {p : List MemPlace} (hv : Value.okWide Try.prog w r b 27 v) (h : DataW.Trod enc Try.prog w base spare held 27 v d p) (hw : Within 27 d) :
    ∃ (x : S27) (A1 : Option Addr) (c1 : Nat) (A2 : Option Addr) (c2 : Nat) (A4 : Option Addr) (c4 : Nat) (A5 : Option Addr) (c5 : Nat),
      v = .agg #[.string x.f0, .slice A1 x.f1.length c1, .slice A2 x.f2.length c2, .int .i64 x.f3.f0, .slice A4 x.f3.f1.length c4, .slice A5 x.f3.f2.length c5, .int .i64 x.f3.f3] ∧
      Kd.string.C w A1 x.f1.length x.f1 ∧ x.f1.length ≤ c1 ∧ k25.C w A2 x.f2.length x.f2 ∧ x.f2.length ≤ c2 ∧ TyAt w x.f3 A4 c4 A5 c5 ∧ x.f0.size ≤ 140737488351232 ∧ ∀ s ∈ x.f1, s.size ≤ 140737488351232 := by
  obtain ⟨cs, rfl, _⟩ := okWide_struct Try.underlying27 hv
  obtain ⟨fuel, hf⟩ := h
  obtain ⟨x, hx, z0, z1⟩ := open27W fuel _ _ hf hw
  obtain ⟨A1, c1, A2, c2, A4, c4, A5, c5, e, l1, g1, l2, g2, l4, g4, l5, g5⟩ := k27_open hx
  refine ⟨x, A1, c1, A2, c2, A4, c4, A5, c5, ?_, g1, l1, g2, l2, ⟨g4, l4, g5, l5⟩, z0, z1⟩
  have e' : cs.toList = _ := e
  congr 1
  exact Array.toList_inj.1 e'

theorem within_of {ts : List TypeId} {ds : List (DataW H)} (h : (DataW.weightsEach Try.prog ts ds).all (· ≤ reachBytes) = true) {j : Nat} {t : TypeId} {d : DataW H} (ht : ts[j]? = some t) (hd : ds[j]? = some d) : Within t d := by
  intro n hn
  exact of_decide_eq_true (List.all_eq_true.1 h n (DataW.weights_mem_each ht hd n hn))
end
end Go.Proofs.Ytmpmcffhlnlejaa.SubEq
