/- What a start's data say of memory where a contract came in: its resources and functions, as lists, within the reach. -/
import Derived.Test.YtmpmcffhlnlejaaSubSized
import Derived.Test.YtmpmcffhlnlejaaSubFit
namespace Go.Proofs.Ytmpmcffhlnlejaa.SubEq
open Go.RowKit Go.Proofs.YtmpmcffhlnlejaaW.PrintWords Go.Proofs.YtmpmcffhlnlejaaW.PrintLast Go.Proofs.YtmpmcffhlnlejaaW.PrintMore
open Go.Proofs.Ytmpmcffhlnlejaa.PSubFits
open Go.ChangeShapes Go.WideShapes
set_option linter.unusedVariables false
set_option linter.unusedSimpArgs false
set_option maxRecDepth 100000

theorem cells40 : Try.prog.cellsOf 40 = 3 := by kernel_rfl
theorem bytes27 : Try.prog.bytesOf 27 = 128 := by kernel_rfl

section
variable {H : Type} {enc : TypeId × Value → H} {w : World} {base : Nat} {spare : Nat → Bool} {held : Bool}

theorem open_con {v : Value} {r : Reach} {b : Nat} {d : DataW H} {p : List MemPlace} (hv : Value.okWide Try.prog w r b 40 v) (h : DataW.Trod enc Try.prog w base spare held 40 v d p) (hw : Within 40 d) :
    ∃ (a : Con) (A1 : Option Addr) (c1 : Nat) (A2 : Option Addr) (c2 : Nat) (A3 : Option Addr) (c3 : Nat),
      v = .agg #[.slice A1 a.res.length c1, .slice A2 a.ins.length c2, .slice A3 a.outs.length c3] ∧ ConAt w a A1 c1 A2 c2 A3 c3 ∧
      a.res.length * 16 ≤ 140737488351232 ∧ (∀ s ∈ a.res, s.size ≤ 140737488351232) ∧ a.ins.length * 128 ≤ 140737488351232 ∧ a.outs.length * 128 ≤ 140737488351232 := by
  obtain ⟨cs, rfl, _⟩ := okWide_struct Try.underlying40 hv
  obtain ⟨fuel, hf⟩ := h
  obtain ⟨xs, n, rfl, hx, hl, hxl, hfs⟩ := DataW.trod_struct Try.underlying40 hf
  have hd : d = .agg (xs.map (·.1)) := congrArg Prod.fst hx
  subst hd
  have hl3 : (Value.agg cs).cells.toList.length = 3 := hl.trans cells40
  have hc : cs.toList.length = 3 := hl3
  obtain ⟨l⟩ := cs
  match l, hc with
  | [v0, v1, v2], _ =>
    have hx3 : xs.length = 3 := hxl
    match xs, hx3 with
    | [y0, y1, y2], _ =>
      have g0 : DataW.trod enc Try.prog w base spare held n 22 [v0] = some y0 := hfs 0 _ rfl
      have g1 : DataW.trod enc Try.prog w base spare held n 38 [v1] = some y1 := hfs 1 _ rfl
      have g2 : DataW.trod enc Try.prog w base spare held n 38 [v2] = some y2 := hfs 2 _ rfl
      have w0 : Within 22 y0.1 := within_field (i := 0) Try.underlying40 hw rfl rfl
      have w1 : Within 38 y1.1 := within_field (i := 1) Try.underlying40 hw rfl rfl
      have w2 : Within 38 y2.1 := within_field (i := 2) Try.underlying40 hw rfl rfl
      obtain ⟨A1, rs, c1, e1, l1, k1, q1, z1⟩ := open_CW (d := Kd.string) (p := fun s : ByteArray => s.size ≤ 140737488351232) Try.underlying22 cells9 (fun m _ cs' y' h' w' => open_strW h' w') g0 w0
      obtain ⟨A2, is, c2, e2, l2, k2, _, z2⟩ := open_CW (d := k27) (p := fun _ => True) Try.underlying38 cells27 (fun m _ cs' y' h' w' => by
        obtain ⟨x, hx⟩ := open27 m cs' y' h'
        exact ⟨x, hx, trivial⟩) g1 w1
      obtain ⟨A3, os, c3, e3, l3, k3, _, z3⟩ := open_CW (d := k27) (p := fun _ => True) Try.underlying38 cells27 (fun m _ cs' y' h' w' => by
        obtain ⟨x, hx⟩ := open27 m cs' y' h'
        exact ⟨x, hx, trivial⟩) g2 w2
      injection e1 with e1
      injection e2 with e2
      injection e3 with e3
      subst e1 e2 e3
      rw [bytes9] at z1
      rw [bytes27] at z2 z3
      exact ⟨⟨rs, is, os⟩, A1, c1, A2, c2, A3, c3, rfl, ⟨k1, l1, k2, l2, k3, l3⟩, z1, q1, z2, z3⟩
end
end Go.Proofs.Ytmpmcffhlnlejaa.SubEq
