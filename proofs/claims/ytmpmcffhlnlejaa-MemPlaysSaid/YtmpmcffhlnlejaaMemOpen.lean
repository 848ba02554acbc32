/- What a start's data say of memory where deeds came in. -/
import Derived.Test.YtmpmcffhlnlejaaSubOpen
import Derived.Test.YtmpmcffhlnlejaaMemSome
namespace Go.Proofs.Ytmpmcffhlnlejaa.MemEq
open Go.RowKit Go.Proofs.YtmpmcffhlnlejaaW.PrintWords Go.Proofs.YtmpmcffhlnlejaaW.PrintLast Go.Proofs.YtmpmcffhlnlejaaW.PrintMore
open Go.Proofs.Ytmpmcffhlnlejaa.PMemBack
open Go.ChangeShapes Go.WideShapes
set_option linter.unusedVariables false
set_option linter.unusedSimpArgs false
set_option maxRecDepth 100000

theorem cells79 : Try.prog.cellsOf 79 = k79.sz := by kernel_rfl
theorem cells79' : Try.prog.cellsOf 79 = 8 := by kernel_rfl

section
variable {H : Type} {enc : TypeId × Value → H} {w : World} {base : Nat} {spare : Nat → Bool} {held : Bool}

theorem open79 (fuel : Nat) (cs : List Value) (x : DataW H × List MemPlace) (h : DataW.trod enc Try.prog w base spare held fuel 79 cs = some x) : ∃ v : S79, k79.K w v cs := by
  obtain ⟨xs, n, rfl, _, hl, hxl, hf⟩ := DataW.trod_struct Try.underlying79 h
  have hl8 : cs.length = 8 := hl.trans cells79'
  match cs, hl8 with
  | [v0, v1, v2, v3, v4, v5, v6, v7], _ =>
    have hx8 : xs.length = 8 := hxl
    match xs, hx8 with
    | [y0, y1, y2, y3, y4, y5, y6, y7], _ =>
      have g0 : DataW.trod enc Try.prog w base spare held n 3 [v0] = some y0 := hf 0 _ rfl
      have g1 : DataW.trod enc Try.prog w base spare held n 3 [v1] = some y1 := hf 1 _ rfl
      have g2 : DataW.trod enc Try.prog w base spare held n 3 [v2] = some y2 := hf 2 _ rfl
      have g3 : DataW.trod enc Try.prog w base spare held n 3 [v3] = some y3 := hf 3 _ rfl
      have g4 : DataW.trod enc Try.prog w base spare held n 3 [v4] = some y4 := hf 4 _ rfl
      have g5 : DataW.trod enc Try.prog w base spare held n 3 [v5] = some y5 := hf 5 _ rfl
      have g6 : DataW.trod enc Try.prog w base spare held n 9 [v6] = some y6 := hf 6 _ rfl
      have g7 : DataW.trod enc Try.prog w base spare held n 4 [v7] = some y7 := hf 7 _ rfl
      obtain ⟨n0, e0, _, _⟩ := DataW.trod_int Try.underlying3 g0
      obtain ⟨n1, e1, _, _⟩ := DataW.trod_int Try.underlying3 g1
      obtain ⟨n2, e2, _, _⟩ := DataW.trod_int Try.underlying3 g2
      obtain ⟨n3, e3, _, _⟩ := DataW.trod_int Try.underlying3 g3
      obtain ⟨n4, e4, _, _⟩ := DataW.trod_int Try.underlying3 g4
      obtain ⟨n5, e5, _, _⟩ := DataW.trod_int Try.underlying3 g5
      obtain ⟨s, e6, _, _⟩ := DataW.trod_string Try.underlying9 g6
      obtain ⟨b, e7, _⟩ := DataW.trod_bool Try.underlying4 g7
      injection e0 with e0
      injection e1 with e1
      injection e2 with e2
      injection e3 with e3
      injection e4 with e4
      injection e5 with e5
      injection e6 with e6
      injection e7 with e7
      subst e0 e1 e2 e3 e4 e5 e6 e7
      exact ⟨⟨n0, n1, n2, n3, n4, n5, s, b⟩, k79_mk w ⟨n0, n1, n2, n3, n4, n5, s, b⟩⟩

theorem open_deeds {v : Value} {r : Reach} {b : Nat} {d : DataW H} {p : List MemPlace} (hv : Value.okWide Try.prog w r b 55 v) (h : DataW.Trod enc Try.prog w base spare held 55 v d p) :
    ∃ (A : Option Addr) (l : List S79) (c : Nat), v = .slice A l.length c ∧ l.length ≤ c ∧ k79.C w A l.length l := by
  obtain ⟨a, len, cap, rfl⟩ := okWide_slice Try.underlying55 hv
  obtain ⟨fuel, hf⟩ := h
  obtain ⟨A, l, c, e, h1, h2⟩ := SubEq.open_C (d := k79) Try.underlying55 cells79 (fun m _ cs' y' h' => open79 m cs' y' h') hf
  injection e with e
  exact ⟨A, l, c, e, h1, h2⟩
end
end Go.Proofs.Ytmpmcffhlnlejaa.MemEq
