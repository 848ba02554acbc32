/- A part of the proof of the law that its last file names: texts of this seat's author and of the kit's printer, cut to what the theorem uses. Part 22: Slf4. -/
import Derived.Test.YtmpmcffhlnlejaaCs21
section
namespace Go.Proofs.Ytmpmcffhlnlejaa.Slf
open Go.RowKit Go.Proofs.YtmpmcffhlnlejaaW.PrintWords Go.Proofs.YtmpmcffhlnlejaaW.PrintLast Go.Proofs.YtmpmcffhlnlejaaW.PrintMore
open Go.Proofs.Ytmpmcffhlnlejaa.PSubSelf Go.Proofs.Ytmpmcffhlnlejaa.Wld
open Go.Proofs.Ytmpmcffhlnlejaa.SubEq (Within open_CW open_strW open_str open_C within_field cells3 cells9 cells25 bytes9)
open Go.ChangeShapes Go.WideShapes
set_option linter.unusedVariables false
set_option linter.unusedSimpArgs false
set_option maxRecDepth 100000
theorem cells146 : Try.prog.cellsOf 146 = 8 := by kernel_rfl
theorem cells149 : Try.prog.cellsOf 149 = 3 := by kernel_rfl
theorem cells151 : Try.prog.cellsOf 151 = 5 := by kernel_rfl
theorem cells154 : Try.prog.cellsOf 154 = 7 := by kernel_rfl
theorem cells157 : Try.prog.cellsOf 157 = 11 := by kernel_rfl
theorem cells142 : Try.prog.cellsOf 142 = 4 := by kernel_rfl
theorem cells125 : Try.prog.cellsOf 125 = 5 := by kernel_rfl
theorem cells120 : Try.prog.cellsOf 120 = 5 := by kernel_rfl
theorem byt9 : 0 < Try.prog.bytesOf 9 := of_decide_eq_true (by kernel_rfl)
theorem byt25 : 0 < Try.prog.bytesOf 25 := of_decide_eq_true (by kernel_rfl)
theorem byt146 : 0 < Try.prog.bytesOf 146 := of_decide_eq_true (by kernel_rfl)
theorem byt151 : 0 < Try.prog.bytesOf 151 := of_decide_eq_true (by kernel_rfl)
theorem byt154 : 0 < Try.prog.bytesOf 154 := of_decide_eq_true (by kernel_rfl)
theorem byt157 : 0 < Try.prog.bytesOf 157 := of_decide_eq_true (by kernel_rfl)
theorem byt142 : 0 < Try.prog.bytesOf 142 := of_decide_eq_true (by kernel_rfl)
theorem byt125 : 0 < Try.prog.bytesOf 125 := of_decide_eq_true (by kernel_rfl)
section
variable {H : Type} {enc : TypeId × Value → H} {w : World} {base : Nat} {spare : Nat → Bool} {held : Bool}
theorem open25 : ∀ (fuel : Nat) (cs : List Value) (x : DataW H × List MemPlace), DataW.trod enc Try.prog w base spare held fuel 25 cs = some x → ∃ v : S25, k25.K w v cs := by
  intro fuel
  induction fuel using Nat.strongRecOn with
  | _ fuel ih =>
    intro cs x h
    obtain ⟨xs, n, rfl, _, hl, hxl, hf⟩ := DataW.trod_struct Try.underlying25 h
    have hl4 : cs.length = 4 := hl.trans cells25
    match cs, hl4 with
    | [v0, v1, v2, v3], _ =>
      have hx4 : xs.length = 4 := hxl
      match xs, hx4 with
      | [y0, y1, y2, y3], _ =>
        have g0 : DataW.trod enc Try.prog w base spare held n 3 [v0] = some y0 := hf 0 _ rfl
        have g1 : DataW.trod enc Try.prog w base spare held n 22 [v1] = some y1 := hf 1 _ rfl
        have g2 : DataW.trod enc Try.prog w base spare held n 23 [v2] = some y2 := hf 2 _ rfl
        have g3 : DataW.trod enc Try.prog w base spare held n 3 [v3] = some y3 := hf 3 _ rfl
        obtain ⟨a, e0, _, _⟩ := DataW.trod_int Try.underlying3 g0
        obtain ⟨b, e3, _, _⟩ := DataW.trod_int Try.underlying3 g3
        obtain ⟨A1, ns, c1, e1, l1, k1⟩ := open_C (d := Kd.string) Try.underlying22 cells9 (fun m _ cs' y' h' => open_str h') g1
        obtain ⟨A2, ls, c2, e2, l2, k2⟩ := open_C (d := k25) Try.underlying23 cells25 (fun m hm cs' y' h' => ih m (by omega) cs' y' h') g2
        injection e0 with e0
        injection e1 with e1
        injection e2 with e2
        injection e3 with e3
        subst e0 e1 e2 e3
        exact ⟨⟨a, ns, ls, b⟩, k25_mk w ⟨a, ns, ls, b⟩ l1 k1 l2 k2⟩
theorem open25P {fuel : Nat} {cs : List Value} {x : DataW H × List MemPlace} (h : DataW.trod enc Try.prog w base spare held fuel 25 cs = some x) (hw : Within 25 x.1) : ∃ v : S25, k25.K w v cs ∧ True := by
  obtain ⟨v, hv⟩ := open25 fuel cs x h
  exact ⟨v, hv, trivial⟩
theorem open25W (fuel : Nat) (cs : List Value) (x : DataW H × List MemPlace) (h : DataW.trod enc Try.prog w base spare held fuel 25 cs = some x) (hw : Within 25 x.1) : ∃ v : S25, k25.K w v cs ∧ (v.f1.length ≤ 140737488351232 ∧ v.f2.length ≤ 140737488351232) := by
  obtain ⟨xs, n, rfl, rfl, hl, hxl, hf⟩ := DataW.trod_struct Try.underlying25 h
  have hl4 : cs.length = 4 := hl.trans cells25
  match cs, hl4 with
  | [v0, v1, v2, v3], _ =>
    have hx4 : xs.length = 4 := hxl
    match xs, hx4 with
    | [y0, y1, y2, y3], _ =>
      have g0 : DataW.trod enc Try.prog w base spare held n 3 [v0] = some y0 := hf 0 _ rfl
      have g1 : DataW.trod enc Try.prog w base spare held n 22 [v1] = some y1 := hf 1 _ rfl
      have g2 : DataW.trod enc Try.prog w base spare held n 23 [v2] = some y2 := hf 2 _ rfl
      have g3 : DataW.trod enc Try.prog w base spare held n 3 [v3] = some y3 := hf 3 _ rfl
      have w1 : Within 22 y1.1 := within_field (i := 1) Try.underlying25 hw rfl rfl
      have w2 : Within 23 y2.1 := within_field (i := 2) Try.underlying25 hw rfl rfl
      obtain ⟨a, e0, _, _⟩ := DataW.trod_int Try.underlying3 g0
      obtain ⟨b, e3, _, _⟩ := DataW.trod_int Try.underlying3 g3
      obtain ⟨A1, ns, c1, e1, l1, k1, _, b1⟩ := open_CW (d := Kd.string) (p := fun s : ByteArray => s.size ≤ 140737488351232) Try.underlying22 cells9 (fun m _ cs' y' h' w' => open_strW h' w') g1 w1
      obtain ⟨A2, ls, c2, e2, l2, k2, _, b2⟩ := open_CW (d := k25) (p := fun _ : S25 => True) Try.underlying23 cells25 (fun m _ cs' y' h' w' => open25P h' w') g2 w2
      injection e0 with e0
      injection e1 with e1
      injection e2 with e2
      injection e3 with e3
      subst e0 e1 e2 e3
      exact ⟨⟨a, ns, ls, b⟩, k25_mk w ⟨a, ns, ls, b⟩ l1 k1 l2 k2, Nat.le_trans (Nat.le_mul_of_pos_right _ byt9) b1, Nat.le_trans (Nat.le_mul_of_pos_right _ byt25) b2⟩
theorem open149W (fuel : Nat) (cs : List Value) (x : DataW H × List MemPlace) (h : DataW.trod enc Try.prog w base spare held fuel 149 cs = some x) (hw : Within 149 x.1) : ∃ v : S149, k149.K w v cs ∧ (fun q : S149 => q.f0.size ≤ 140737488351232 ∧ q.f1.size ≤ 140737488351232) v := by
  obtain ⟨xs, n, rfl, rfl, hl, hxl, hf⟩ := DataW.trod_struct Try.underlying149 h
  have hln : cs.length = 3 := hl.trans cells149
  match cs, hln with
  | [v0, v1, v2], _ =>
    have hx : xs.length = 3 := hxl
    match xs, hx with
    | [y0, y1, y2], _ =>
      have h0 : DataW.trod enc Try.prog w base spare held n 9 [v0] = some y0 := hf 0 _ rfl
      have w0 : Within 9 y0.1 := within_field (i := 0) Try.underlying149 hw rfl rfl
      obtain ⟨s0, e0, z0⟩ := open_strW h0 w0
      replace e0 : [v0] = [Value.string s0] := e0
      injection e0 with e0
      subst e0
      have h1 : DataW.trod enc Try.prog w base spare held n 9 [v1] = some y1 := hf 1 _ rfl
      have w1 : Within 9 y1.1 := within_field (i := 1) Try.underlying149 hw rfl rfl
      obtain ⟨s1, e1, z1⟩ := open_strW h1 w1
      replace e1 : [v1] = [Value.string s1] := e1
      injection e1 with e1
      subst e1
      have h2 : DataW.trod enc Try.prog w base spare held n 9 [v2] = some y2 := hf 2 _ rfl
      have w2 : Within 9 y2.1 := within_field (i := 2) Try.underlying149 hw rfl rfl
      obtain ⟨s2, e2, z2⟩ := open_strW h2 w2
      replace e2 : [v2] = [Value.string s2] := e2
      injection e2 with e2
      subst e2
      exact ⟨⟨s0, s1, s2⟩, k149_mk w ⟨s0, s1, s2⟩ , ⟨z0, z1⟩⟩
theorem open146W (fuel : Nat) (cs : List Value) (x : DataW H × List MemPlace) (h : DataW.trod enc Try.prog w base spare held fuel 146 cs = some x) (hw : Within 146 x.1) : ∃ v : S146, k146.K w v cs ∧ SmF v := by
  obtain ⟨xs, n, rfl, rfl, hl, hxl, hf⟩ := DataW.trod_struct Try.underlying146 h
  have hln : cs.length = 8 := hl.trans cells146
  match cs, hln with
  | [v0, v1, v2, v3, v4, v5, v6, v7], _ =>
    have hx : xs.length = 5 := hxl
    match xs, hx with
    | [y0, y1, y2, y3, y4], _ =>
      have h0 : DataW.trod enc Try.prog w base spare held n 9 [v0] = some y0 := hf 0 _ rfl
      have w0 : Within 9 y0.1 := within_field (i := 0) Try.underlying146 hw rfl rfl
      obtain ⟨s0, e0, z0⟩ := open_strW h0 w0
      replace e0 : [v0] = [Value.string s0] := e0
      injection e0 with e0
      subst e0
      have h1 : DataW.trod enc Try.prog w base spare held n 3 [v1] = some y1 := hf 1 _ rfl
      have w1 : Within 3 y1.1 := within_field (i := 1) Try.underlying146 hw rfl rfl
      obtain ⟨i1, e1, _, _⟩ := DataW.trod_int Try.underlying3 h1
      injection e1 with e1
      subst e1
      have h2 : DataW.trod enc Try.prog w base spare held n 22 [v2] = some y2 := hf 2 _ rfl
      have w2 : Within 22 y2.1 := within_field (i := 2) Try.underlying146 hw rfl rfl
      obtain ⟨AA2, l2, cc2, e2, ll2, gg2, a2, b2⟩ := open_CW (d := Kd.string) (p := (fun s : ByteArray => s.size ≤ 140737488351232)) Try.underlying22 cells9 (fun m _ cs' y' h' w' => open_strW h' w') h2 w2
      injection e2 with e2
      subst e2
      have n2 : l2.length ≤ 140737488351232 := Nat.le_trans (Nat.le_mul_of_pos_right _ byt9) b2
      have h3 : DataW.trod enc Try.prog w base spare held n 23 [v3] = some y3 := hf 3 _ rfl
      have w3 : Within 23 y3.1 := within_field (i := 3) Try.underlying146 hw rfl rfl
      obtain ⟨AA3, l3, cc3, e3, ll3, gg3, a3, b3⟩ := open_CW (d := k25) (p := (fun _ : S25 => True)) Try.underlying23 cells25 (fun m _ cs' y' h' w' => open25P h' w') h3 w3
      injection e3 with e3
      subst e3
      have n3 : l3.length ≤ 140737488351232 := Nat.le_trans (Nat.le_mul_of_pos_right _ byt25) b3
      have h4 : DataW.trod enc Try.prog w base spare held n 25 [v4, v5, v6, v7] = some y4 := hf 4 _ rfl
      have w4 : Within 25 y4.1 := within_field (i := 4) Try.underlying146 hw rfl rfl
      obtain ⟨q4, k4, p4⟩ := open25W _ _ _ h4 w4
      obtain ⟨A1_4, c1_4, A2_4, c2_4, e4, l1_4, g1_4, l2_4, g2_4⟩ := k25_open k4
      simp only [List.cons.injEq, and_true] at e4
      obtain ⟨rfl, rfl, rfl, rfl⟩ := e4
      exact ⟨⟨s0, i1, l2, l3, q4⟩, k146_mk w ⟨s0, i1, l2, l3, q4⟩ ll2 gg2 ll3 gg3 l1_4 g1_4 l2_4 g2_4, ⟨n2⟩⟩
theorem open151W (fuel : Nat) (cs : List Value) (x : DataW H × List MemPlace) (h : DataW.trod enc Try.prog w base spare held fuel 151 cs = some x) (hw : Within 151 x.1) : ∃ v : S151, k151.K w v cs ∧ SmU v := by
  obtain ⟨xs, n, rfl, rfl, hl, hxl, hf⟩ := DataW.trod_struct Try.underlying151 h
  have hln : cs.length = 5 := hl.trans cells151
  match cs, hln with
  | [v0, v1, v2, v3, v4], _ =>
    have hx : xs.length = 3 := hxl
    match xs, hx with
    | [y0, y1, y2], _ =>
      have h0 : DataW.trod enc Try.prog w base spare held n 149 [v0, v1, v2] = some y0 := hf 0 _ rfl
      have w0 : Within 149 y0.1 := within_field (i := 0) Try.underlying151 hw rfl rfl
      obtain ⟨q0, k0, p0⟩ := open149W _ _ _ h0 w0
      obtain e0 := k149_open k0
      simp only [List.cons.injEq, and_true] at e0
      obtain ⟨rfl, rfl, rfl⟩ := e0
      have h1 : DataW.trod enc Try.prog w base spare held n 22 [v3] = some y1 := hf 1 _ rfl
      have w1 : Within 22 y1.1 := within_field (i := 1) Try.underlying151 hw rfl rfl
      obtain ⟨AA1, l1, cc1, e1, ll1, gg1, a1, b1⟩ := open_CW (d := Kd.string) (p := (fun s : ByteArray => s.size ≤ 140737488351232)) Try.underlying22 cells9 (fun m _ cs' y' h' w' => open_strW h' w') h1 w1
      injection e1 with e1
      subst e1
      have n1 : l1.length ≤ 140737488351232 := Nat.le_trans (Nat.le_mul_of_pos_right _ byt9) b1
      have h2 : DataW.trod enc Try.prog w base spare held n 22 [v4] = some y2 := hf 2 _ rfl
      have w2 : Within 22 y2.1 := within_field (i := 2) Try.underlying151 hw rfl rfl
      obtain ⟨AA2, l2, cc2, e2, ll2, gg2, a2, b2⟩ := open_CW (d := Kd.string) (p := (fun s : ByteArray => s.size ≤ 140737488351232)) Try.underlying22 cells9 (fun m _ cs' y' h' w' => open_strW h' w') h2 w2
      injection e2 with e2
      subst e2
      have n2 : l2.length ≤ 140737488351232 := Nat.le_trans (Nat.le_mul_of_pos_right _ byt9) b2
      exact ⟨⟨q0, l1, l2⟩, k151_mk w ⟨q0, l1, l2⟩ ll1 gg1 ll2 gg2, ⟨n1, p0.1, p0.2⟩⟩
theorem open154W (fuel : Nat) (cs : List Value) (x : DataW H × List MemPlace) (h : DataW.trod enc Try.prog w base spare held fuel 154 cs = some x) (hw : Within 154 x.1) : ∃ v : S154, k154.K w v cs ∧ SmD v := by
  obtain ⟨xs, n, rfl, rfl, hl, hxl, hf⟩ := DataW.trod_struct Try.underlying154 h
  have hln : cs.length = 7 := hl.trans cells154
  match cs, hln with
  | [v0, v1, v2, v3, v4, v5, v6], _ =>
    have hx : xs.length = 4 := hxl
    match xs, hx with
    | [y0, y1, y2, y3], _ =>
      have h0 : DataW.trod enc Try.prog w base spare held n 3 [v0] = some y0 := hf 0 _ rfl
      have w0 : Within 3 y0.1 := within_field (i := 0) Try.underlying154 hw rfl rfl
      obtain ⟨i0, e0, _, _⟩ := DataW.trod_int Try.underlying3 h0
      injection e0 with e0
      subst e0
      have h1 : DataW.trod enc Try.prog w base spare held n 9 [v1] = some y1 := hf 1 _ rfl
      have w1 : Within 9 y1.1 := within_field (i := 1) Try.underlying154 hw rfl rfl
      obtain ⟨s1, e1, z1⟩ := open_strW h1 w1
      replace e1 : [v1] = [Value.string s1] := e1
      injection e1 with e1
      subst e1
      have h2 : DataW.trod enc Try.prog w base spare held n 25 [v2, v3, v4, v5] = some y2 := hf 2 _ rfl
      have w2 : Within 25 y2.1 := within_field (i := 2) Try.underlying154 hw rfl rfl
      obtain ⟨q2, k2, p2⟩ := open25W _ _ _ h2 w2
      obtain ⟨A1_2, c1_2, A2_2, c2_2, e2, l1_2, g1_2, l2_2, g2_2⟩ := k25_open k2
      simp only [List.cons.injEq, and_true] at e2
      obtain ⟨rfl, rfl, rfl, rfl⟩ := e2
      have h3 : DataW.trod enc Try.prog w base spare held n 140 [v6] = some y3 := hf 3 _ rfl
      have w3 : Within 140 y3.1 := within_field (i := 3) Try.underlying154 hw rfl rfl
      obtain ⟨AA3, l3, cc3, e3, ll3, gg3, a3, b3⟩ := open_CW (d := k146) (p := SmF) Try.underlying140 cells146 (fun m _ cs' y' h' w' => open146W _ _ _ h' w') h3 w3
      injection e3 with e3
      subst e3
      have n3 : l3.length ≤ 140737488351232 := Nat.le_trans (Nat.le_mul_of_pos_right _ byt146) b3
      exact ⟨⟨i0, s1, q2, l3⟩, k154_mk w ⟨i0, s1, q2, l3⟩ l1_2 g1_2 l2_2 g2_2 ll3 gg3, ⟨p2.1, p2.2, a3⟩⟩
theorem open157W (fuel : Nat) (cs : List Value) (x : DataW H × List MemPlace) (h : DataW.trod enc Try.prog w base spare held fuel 157 cs = some x) (hw : Within 157 x.1) : ∃ v : S157, k157.K w v cs ∧ SmQ v := by
  obtain ⟨xs, n, rfl, rfl, hl, hxl, hf⟩ := DataW.trod_struct Try.underlying157 h
  have hln : cs.length = 11 := hl.trans cells157
  match cs, hln with
  | [v0, v1, v2, v3, v4, v5, v6, v7, v8, v9, v10], _ =>
    have hx : xs.length = 2 := hxl
    match xs, hx with
    | [y0, y1], _ =>
      have h0 : DataW.trod enc Try.prog w base spare held n 146 [v0, v1, v2, v3, v4, v5, v6, v7] = some y0 := hf 0 _ rfl
      have w0 : Within 146 y0.1 := within_field (i := 0) Try.underlying157 hw rfl rfl
      obtain ⟨q0, k0, p0⟩ := open146W _ _ _ h0 w0
      obtain ⟨A2_0, c2_0, A3_0, c3_0, A5_0, c5_0, A6_0, c6_0, e0, l2_0, g2_0, l3_0, g3_0, l5_0, g5_0, l6_0, g6_0⟩ := k146_open k0
      simp only [List.cons.injEq, and_true] at e0
      obtain ⟨rfl, rfl, rfl, rfl, rfl, rfl, rfl, rfl⟩ := e0
      have h1 : DataW.trod enc Try.prog w base spare held n 149 [v8, v9, v10] = some y1 := hf 1 _ rfl
      have w1 : Within 149 y1.1 := within_field (i := 1) Try.underlying157 hw rfl rfl
      obtain ⟨q1, k1, p1⟩ := open149W _ _ _ h1 w1
      obtain e1 := k149_open k1
      simp only [List.cons.injEq, and_true] at e1
      obtain ⟨rfl, rfl, rfl⟩ := e1
      exact ⟨⟨q0, q1⟩, k157_mk w ⟨q0, q1⟩ l2_0 g2_0 l3_0 g3_0 l5_0 g5_0 l6_0 g6_0, ⟨p0, p1.1, p1.2⟩⟩
theorem open142W (fuel : Nat) (cs : List Value) (x : DataW H × List MemPlace) (h : DataW.trod enc Try.prog w base spare held fuel 142 cs = some x) (hw : Within 142 x.1) : ∃ v : S142, k142.K w v cs ∧ SmI v := by
  obtain ⟨xs, n, rfl, rfl, hl, hxl, hf⟩ := DataW.trod_struct Try.underlying142 h
  have hln : cs.length = 4 := hl.trans cells142
  match cs, hln with
  | [v0, v1, v2, v3], _ =>
    have hx : xs.length = 4 := hxl
    match xs, hx with
    | [y0, y1, y2, y3], _ =>
      have h0 : DataW.trod enc Try.prog w base spare held n 9 [v0] = some y0 := hf 0 _ rfl
      have w0 : Within 9 y0.1 := within_field (i := 0) Try.underlying142 hw rfl rfl
      obtain ⟨s0, e0, z0⟩ := open_strW h0 w0
      replace e0 : [v0] = [Value.string s0] := e0
      injection e0 with e0
      subst e0
      have h1 : DataW.trod enc Try.prog w base spare held n 121 [v1] = some y1 := hf 1 _ rfl
      have w1 : Within 121 y1.1 := within_field (i := 1) Try.underlying142 hw rfl rfl
      obtain ⟨AA1, l1, cc1, e1, ll1, gg1, a1, b1⟩ := open_CW (d := k151) (p := SmU) Try.underlying121 cells151 (fun m _ cs' y' h' w' => open151W _ _ _ h' w') h1 w1
      injection e1 with e1
      subst e1
      have n1 : l1.length ≤ 140737488351232 := Nat.le_trans (Nat.le_mul_of_pos_right _ byt151) b1
      have h2 : DataW.trod enc Try.prog w base spare held n 122 [v2] = some y2 := hf 2 _ rfl
      have w2 : Within 122 y2.1 := within_field (i := 2) Try.underlying142 hw rfl rfl
      obtain ⟨AA2, l2, cc2, e2, ll2, gg2, a2, b2⟩ := open_CW (d := k154) (p := SmD) Try.underlying122 cells154 (fun m _ cs' y' h' w' => open154W _ _ _ h' w') h2 w2
      injection e2 with e2
      subst e2
      have n2 : l2.length ≤ 140737488351232 := Nat.le_trans (Nat.le_mul_of_pos_right _ byt154) b2
      have h3 : DataW.trod enc Try.prog w base spare held n 140 [v3] = some y3 := hf 3 _ rfl
      have w3 : Within 140 y3.1 := within_field (i := 3) Try.underlying142 hw rfl rfl
      obtain ⟨AA3, l3, cc3, e3, ll3, gg3, a3, b3⟩ := open_CW (d := k146) (p := SmF) Try.underlying140 cells146 (fun m _ cs' y' h' w' => open146W _ _ _ h' w') h3 w3
      injection e3 with e3
      subst e3
      have n3 : l3.length ≤ 140737488351232 := Nat.le_trans (Nat.le_mul_of_pos_right _ byt146) b3
      exact ⟨⟨s0, l1, l2, l3⟩, k142_mk w ⟨s0, l1, l2, l3⟩ ll1 gg1 ll2 gg2 ll3 gg3, ⟨⟨n1, a1, n2, a2⟩, a3⟩⟩
theorem open125W (fuel : Nat) (cs : List Value) (x : DataW H × List MemPlace) (h : DataW.trod enc Try.prog w base spare held fuel 125 cs = some x) (hw : Within 125 x.1) : ∃ v : S125, k125.K w v cs ∧ SmW v := by
  obtain ⟨xs, n, rfl, rfl, hl, hxl, hf⟩ := DataW.trod_struct Try.underlying125 h
  have hln : cs.length = 5 := hl.trans cells125
  match cs, hln with
  | [v0, v1, v2, v3, v4], _ =>
    have hx : xs.length = 5 := hxl
    match xs, hx with
    | [y0, y1, y2, y3, y4], _ =>
      have h0 : DataW.trod enc Try.prog w base spare held n 9 [v0] = some y0 := hf 0 _ rfl
      have w0 : Within 9 y0.1 := within_field (i := 0) Try.underlying125 hw rfl rfl
      obtain ⟨s0, e0, z0⟩ := open_strW h0 w0
      replace e0 : [v0] = [Value.string s0] := e0
      injection e0 with e0
      subst e0
      have h1 : DataW.trod enc Try.prog w base spare held n 121 [v1] = some y1 := hf 1 _ rfl
      have w1 : Within 121 y1.1 := within_field (i := 1) Try.underlying125 hw rfl rfl
      obtain ⟨AA1, l1, cc1, e1, ll1, gg1, a1, b1⟩ := open_CW (d := k151) (p := SmU) Try.underlying121 cells151 (fun m _ cs' y' h' w' => open151W _ _ _ h' w') h1 w1
      injection e1 with e1
      subst e1
      have n1 : l1.length ≤ 140737488351232 := Nat.le_trans (Nat.le_mul_of_pos_right _ byt151) b1
      have h2 : DataW.trod enc Try.prog w base spare held n 122 [v2] = some y2 := hf 2 _ rfl
      have w2 : Within 122 y2.1 := within_field (i := 2) Try.underlying125 hw rfl rfl
      obtain ⟨AA2, l2, cc2, e2, ll2, gg2, a2, b2⟩ := open_CW (d := k154) (p := SmD) Try.underlying122 cells154 (fun m _ cs' y' h' w' => open154W _ _ _ h' w') h2 w2
      injection e2 with e2
      subst e2
      have n2 : l2.length ≤ 140737488351232 := Nat.le_trans (Nat.le_mul_of_pos_right _ byt154) b2
      have h3 : DataW.trod enc Try.prog w base spare held n 123 [v3] = some y3 := hf 3 _ rfl
      have w3 : Within 123 y3.1 := within_field (i := 3) Try.underlying125 hw rfl rfl
      obtain ⟨AA3, l3, cc3, e3, ll3, gg3, a3, b3⟩ := open_CW (d := k157) (p := SmQ) Try.underlying123 cells157 (fun m _ cs' y' h' w' => open157W _ _ _ h' w') h3 w3
      injection e3 with e3
      subst e3
      have n3 : l3.length ≤ 140737488351232 := Nat.le_trans (Nat.le_mul_of_pos_right _ byt157) b3
      have h4 : DataW.trod enc Try.prog w base spare held n 123 [v4] = some y4 := hf 4 _ rfl
      have w4 : Within 123 y4.1 := within_field (i := 4) Try.underlying125 hw rfl rfl
      obtain ⟨AA4, l4, cc4, e4, ll4, gg4, a4, b4⟩ := open_CW (d := k157) (p := SmQ) Try.underlying123 cells157 (fun m _ cs' y' h' w' => open157W _ _ _ h' w') h4 w4
      injection e4 with e4
      subst e4
      have n4 : l4.length ≤ 140737488351232 := Nat.le_trans (Nat.le_mul_of_pos_right _ byt157) b4
      exact ⟨⟨s0, l1, l2, l3, l4⟩, k125_mk w ⟨s0, l1, l2, l3, l4⟩ ll1 gg1 ll2 gg2 ll3 gg3 ll4 gg4, ⟨⟨n1, a1, n2, a2⟩, n3, a3, n4, a4⟩⟩
theorem open120W (fuel : Nat) (cs : List Value) (x : DataW H × List MemPlace) (h : DataW.trod enc Try.prog w base spare held fuel 120 cs = some x) (hw : Within 120 x.1) : ∃ v : S120, k120.K w v cs ∧ SmP v := by
  obtain ⟨xs, n, rfl, rfl, hl, hxl, hf⟩ := DataW.trod_struct Try.underlying120 h
  have hln : cs.length = 5 := hl.trans cells120
  match cs, hln with
  | [v0, v1, v2, v3, v4], _ =>
    have hx : xs.length = 5 := hxl
    match xs, hx with
    | [y0, y1, y2, y3, y4], _ =>
      have h0 : DataW.trod enc Try.prog w base spare held n 9 [v0] = some y0 := hf 0 _ rfl
      have w0 : Within 9 y0.1 := within_field (i := 0) Try.underlying120 hw rfl rfl
      obtain ⟨s0, e0, z0⟩ := open_strW h0 w0
      replace e0 : [v0] = [Value.string s0] := e0
      injection e0 with e0
      subst e0
      have h1 : DataW.trod enc Try.prog w base spare held n 9 [v1] = some y1 := hf 1 _ rfl
      have w1 : Within 9 y1.1 := within_field (i := 1) Try.underlying120 hw rfl rfl
      obtain ⟨s1, e1, z1⟩ := open_strW h1 w1
      replace e1 : [v1] = [Value.string s1] := e1
      injection e1 with e1
      subst e1
      have h2 : DataW.trod enc Try.prog w base spare held n 9 [v2] = some y2 := hf 2 _ rfl
      have w2 : Within 9 y2.1 := within_field (i := 2) Try.underlying120 hw rfl rfl
      obtain ⟨s2, e2, z2⟩ := open_strW h2 w2
      replace e2 : [v2] = [Value.string s2] := e2
      injection e2 with e2
      subst e2
      have h3 : DataW.trod enc Try.prog w base spare held n 117 [v3] = some y3 := hf 3 _ rfl
      have w3 : Within 117 y3.1 := within_field (i := 3) Try.underlying120 hw rfl rfl
      obtain ⟨AA3, l3, cc3, e3, ll3, gg3, a3, b3⟩ := open_CW (d := k142) (p := SmI) Try.underlying117 cells142 (fun m _ cs' y' h' w' => open142W _ _ _ h' w') h3 w3
      injection e3 with e3
      subst e3
      have n3 : l3.length ≤ 140737488351232 := Nat.le_trans (Nat.le_mul_of_pos_right _ byt142) b3
      have h4 : DataW.trod enc Try.prog w base spare held n 118 [v4] = some y4 := hf 4 _ rfl
      have w4 : Within 118 y4.1 := within_field (i := 4) Try.underlying120 hw rfl rfl
      obtain ⟨AA4, l4, cc4, e4, ll4, gg4, a4, b4⟩ := open_CW (d := k125) (p := SmW) Try.underlying118 cells125 (fun m _ cs' y' h' w' => open125W _ _ _ h' w') h4 w4
      injection e4 with e4
      subst e4
      have n4 : l4.length ≤ 140737488351232 := Nat.le_trans (Nat.le_mul_of_pos_right _ byt125) b4
      exact ⟨⟨s0, s1, s2, l3, l4⟩, k120_mk w ⟨s0, s1, s2, l3, l4⟩ ll3 gg3 ll4 gg4, ⟨z2, a3, a4⟩⟩
theorem open_packs {v : Value} {r : Reach} {b : Nat} {d : DataW H} {p : List MemPlace} (hv : Value.okWide Try.prog w r b 37 v) (h : DataW.Trod enc Try.prog w base spare held 37 v d p) (hw : Within 37 d) :
    ∃ (A : Option Addr) (P : List S120) (c : Nat), v = .slice A P.length c ∧ P.length ≤ c ∧ k120.C w A P.length P ∧ ∀ q ∈ P, SmP q := by
  obtain ⟨a0, len, cap, rfl⟩ := okWide_slice Try.underlying37 hv
  obtain ⟨fuel, hf⟩ := h
  obtain ⟨A, m, c, e, l, k, a, _⟩ := open_CW (d := k120) (p := SmP) Try.underlying37 cells120 (fun m _ cs' y' h' w' => open120W _ _ _ h' w') hf hw
  have e' : [Value.slice a0 len cap] = [.slice A m.length c] := e
  injection e' with e'
  exact ⟨A, m, c, e', l, k, a⟩
end
end Go.Proofs.Ytmpmcffhlnlejaa.Slf
end
