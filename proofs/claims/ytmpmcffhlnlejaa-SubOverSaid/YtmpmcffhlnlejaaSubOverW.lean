/- The walk of the law SubOver: it returns true at whatever contracts. -/
import Derived.Test.YtmpmcffhlnlejaaSubOverT
namespace Go.Proofs.Ytmpmcffhlnlejaa.SubEq
open Go.RowKit Go.Proofs.YtmpmcffhlnlejaaW.PrintWords Go.Proofs.YtmpmcffhlnlejaaW.PrintLast Go.Proofs.YtmpmcffhlnlejaaW.PrintMore
open Go.Proofs.Ytmpmcffhlnlejaa.PSubFits
set_option linter.unusedVariables false
set_option linter.unusedSimpArgs false

set_option maxHeartbeats 8000000 in
theorem law_over (a b c : Con) (W : World) (A1 : Option Addr) (ac1 : Nat) (A2 : Option Addr) (ac2 : Nat) (A3 : Option Addr) (ac3 : Nat) (B1 : Option Addr) (bc1 : Nat) (B2 : Option Addr) (bc2 : Nat) (B3 : Option Addr) (bc3 : Nat) (C1 : Option Addr) (cc1 : Nat) (C2 : Option Addr) (cc2 : Nat) (C3 : Option Addr) (cc3 : Nat)
    (ha : ConAt W a A1 ac1 A2 ac2 A3 ac3) (hb : ConAt W b B1 bc1 B2 bc2 B3 bc3) (hc : ConAt W c C1 cc1 C2 cc2 C3 cc3) (hza : a.res.length * 16 ≤ 140737488351232) (hzb : b.res.length * 16 ≤ 140737488351232) (hzc : c.res.length * 16 ≤ 140737488351232) :
    Calls Try.prog 6 #[.agg #[.slice A1 a.res.length ac1, .slice A2 a.ins.length ac2, .slice A3 a.outs.length ac3], .agg #[.slice B1 b.res.length bc1, .slice B2 b.ins.length bc2, .slice B3 b.outs.length bc3], .agg #[.slice C1 c.res.length cc1, .slice C2 c.ins.length cc2, .slice C3 c.outs.length cc3]] W fun e w' => e = .returned (.bool true) ∧ Below W.heap.size W w' := by
  have HA := Aside0.mk ha
  have HB := Aside0.mk hb
  have HC := Aside0.mk hc
  clear ha hb hc
  go_enter Try.func6, Try.ntmps6
  go_wp2_with fail
  have K10 := blk_alloc (blk_alloc (blk_new W (.cells #[.slice A1 a.res.length ac1, .slice A2 a.ins.length ac2, .slice A3 a.outs.length ac3] 40)) (.cells #[.slice B1 b.res.length bc1, .slice B2 b.ins.length bc2, .slice B3 b.outs.length bc3] 40)) (.cells #[.slice C1 c.res.length cc1, .slice C2 c.ins.length cc2, .slice C3 c.outs.length cc3] 40)
  have K20 := blk_alloc (blk_new (W.alloc (.cells #[.slice A1 a.res.length ac1, .slice A2 a.ins.length ac2, .slice A3 a.outs.length ac3] 40)) (.cells #[.slice B1 b.res.length bc1, .slice B2 b.ins.length bc2, .slice B3 b.outs.length bc3] 40)) (.cells #[.slice C1 c.res.length cc1, .slice C2 c.ins.length cc2, .slice C3 c.outs.length cc3] 40)
  have K30 := blk_new ((W.alloc (.cells #[.slice A1 a.res.length ac1, .slice A2 a.ins.length ac2, .slice A3 a.outs.length ac3] 40)).alloc (.cells #[.slice B1 b.res.length bc1, .slice B2 b.ins.length bc2, .slice B3 b.outs.length bc3] 40)) (.cells #[.slice C1 c.res.length cc1, .slice C2 c.ins.length cc2, .slice C3 c.outs.length cc3] 40)
  simp only [World.size_alloc] at K20 K30
  have HW := Aside0.mk (below_alloc (below_alloc (below_alloc (Below.refl W.heap.size W) (.cells #[.slice A1 a.res.length ac1, .slice A2 a.ins.length ac2, .slice A3 a.outs.length ac3] 40)) (.cells #[.slice B1 b.res.length bc1, .slice B2 b.ins.length bc2, .slice B3 b.outs.length bc3] 40)) (.cells #[.slice C1 c.res.length cc1, .slice C2 c.ins.length cc2, .slice C3 c.outs.length cc3] 40))
  generalize ((W.alloc (.cells #[.slice A1 a.res.length ac1, .slice A2 a.ins.length ac2, .slice A3 a.outs.length ac3] 40)).alloc (.cells #[.slice B1 b.res.length bc1, .slice B2 b.ins.length bc2, .slice B3 b.outs.length bc3] 40)).alloc (.cells #[.slice C1 c.res.length cc1, .slice C2 c.ins.length cc2, .slice C3 c.outs.length cc3] 40) = wb at *
  have K1 := Aside0.mk K10
  have K2 := Aside0.mk K20
  have K3 := Aside0.mk (show wb.heap[W.heap.size + 2]? = _ from K30)
  clear K10 K20 K30
  have B0' := Aside0.mk (Below.refl wb.heap.size wb)
  have z00 : wb.cell? ⟨W.heap.size, 0, none⟩ = some (.slice A1 a.res.length ac1) := (blk_cell (blk_below K1.out B0'.out) 0).trans rfl
  have z01 : wb.cell? ⟨W.heap.size, 1, none⟩ = some (.slice A2 a.ins.length ac2) := (blk_cell (blk_below K1.out B0'.out) 1).trans rfl
  have z02 : wb.cell? ⟨W.heap.size, 2, none⟩ = some (.slice A3 a.outs.length ac3) := (blk_cell (blk_below K1.out B0'.out) 2).trans rfl
  have z10 : wb.cell? ⟨W.heap.size + 1, 0, none⟩ = some (.slice B1 b.res.length bc1) := (blk_cell (blk_below K2.out B0'.out) 0).trans rfl
  have z11 : wb.cell? ⟨W.heap.size + 1, 1, none⟩ = some (.slice B2 b.ins.length bc2) := (blk_cell (blk_below K2.out B0'.out) 1).trans rfl
  have z12 : wb.cell? ⟨W.heap.size + 1, 2, none⟩ = some (.slice B3 b.outs.length bc3) := (blk_cell (blk_below K2.out B0'.out) 2).trans rfl
  have z20 : wb.cell? ⟨W.heap.size + 2, 0, none⟩ = some (.slice C1 c.res.length cc1) := (blk_cell (blk_below K3.out B0'.out) 0).trans rfl
  have z21 : wb.cell? ⟨W.heap.size + 2, 1, none⟩ = some (.slice C2 c.ins.length cc2) := (blk_cell (blk_below K3.out B0'.out) 1).trans rfl
  have z22 : wb.cell? ⟨W.heap.size + 2, 2, none⟩ = some (.slice C3 c.outs.length cc3) := (blk_cell (blk_below K3.out B0'.out) 2).trans rfl
  go_wp2_with fail
  refine (light_calls (HA.out.below (below_step HW.out B0'.out))).mono ?_
  rintro e w1 ⟨rfl, hb⟩
  generalize lightF a = r0
  have B1' := Aside0.mk (below_step B0'.out hb)
  clear hb
  clear z00 z01 z02 z10 z11 z12 z20 z21 z22
  cases r0 with
  | false =>
    go_wp2_with fail
    refine (awake_calls _).mono ?_
    rintro e w2 ⟨rfl, hb⟩
    have HE := Aside0.mk (below_step (below_step HW.out B1'.out) hb)
    clear hb
    go_wp2_with fail
    go_ret
    exact ⟨rfl, HE.out⟩
  | true =>
    have z00 : w1.cell? ⟨W.heap.size, 0, none⟩ = some (.slice A1 a.res.length ac1) := (blk_cell (blk_below K1.out B1'.out) 0).trans rfl
    have z01 : w1.cell? ⟨W.heap.size, 1, none⟩ = some (.slice A2 a.ins.length ac2) := (blk_cell (blk_below K1.out B1'.out) 1).trans rfl
    have z02 : w1.cell? ⟨W.heap.size, 2, none⟩ = some (.slice A3 a.outs.length ac3) := (blk_cell (blk_below K1.out B1'.out) 2).trans rfl
    have z10 : w1.cell? ⟨W.heap.size + 1, 0, none⟩ = some (.slice B1 b.res.length bc1) := (blk_cell (blk_below K2.out B1'.out) 0).trans rfl
    have z11 : w1.cell? ⟨W.heap.size + 1, 1, none⟩ = some (.slice B2 b.ins.length bc2) := (blk_cell (blk_below K2.out B1'.out) 1).trans rfl
    have z12 : w1.cell? ⟨W.heap.size + 1, 2, none⟩ = some (.slice B3 b.outs.length bc3) := (blk_cell (blk_below K2.out B1'.out) 2).trans rfl
    have z20 : w1.cell? ⟨W.heap.size + 2, 0, none⟩ = some (.slice C1 c.res.length cc1) := (blk_cell (blk_below K3.out B1'.out) 0).trans rfl
    have z21 : w1.cell? ⟨W.heap.size + 2, 1, none⟩ = some (.slice C2 c.ins.length cc2) := (blk_cell (blk_below K3.out B1'.out) 1).trans rfl
    have z22 : w1.cell? ⟨W.heap.size + 2, 2, none⟩ = some (.slice C3 c.outs.length cc3) := (blk_cell (blk_below K3.out B1'.out) 2).trans rfl
    go_wp2_with fail
    refine (light_calls (HB.out.below (below_step HW.out B1'.out))).mono ?_
    rintro e w2 ⟨rfl, hb⟩
    generalize lightF b = r1
    have B2' := Aside0.mk (below_step B1'.out hb)
    clear hb
    clear z00 z01 z02 z10 z11 z12 z20 z21 z22
    cases r1 with
    | false =>
      go_wp2_with fail
      refine (awake_calls _).mono ?_
      rintro e w3 ⟨rfl, hb⟩
      have HE := Aside0.mk (below_step (below_step HW.out B2'.out) hb)
      clear hb
      go_wp2_with fail
      go_ret
      exact ⟨rfl, HE.out⟩
    | true =>
      have z00 : w2.cell? ⟨W.heap.size, 0, none⟩ = some (.slice A1 a.res.length ac1) := (blk_cell (blk_below K1.out B2'.out) 0).trans rfl
      have z01 : w2.cell? ⟨W.heap.size, 1, none⟩ = some (.slice A2 a.ins.length ac2) := (blk_cell (blk_below K1.out B2'.out) 1).trans rfl
      have z02 : w2.cell? ⟨W.heap.size, 2, none⟩ = some (.slice A3 a.outs.length ac3) := (blk_cell (blk_below K1.out B2'.out) 2).trans rfl
      have z10 : w2.cell? ⟨W.heap.size + 1, 0, none⟩ = some (.slice B1 b.res.length bc1) := (blk_cell (blk_below K2.out B2'.out) 0).trans rfl
      have z11 : w2.cell? ⟨W.heap.size + 1, 1, none⟩ = some (.slice B2 b.ins.length bc2) := (blk_cell (blk_below K2.out B2'.out) 1).trans rfl
      have z12 : w2.cell? ⟨W.heap.size + 1, 2, none⟩ = some (.slice B3 b.outs.length bc3) := (blk_cell (blk_below K2.out B2'.out) 2).trans rfl
      have z20 : w2.cell? ⟨W.heap.size + 2, 0, none⟩ = some (.slice C1 c.res.length cc1) := (blk_cell (blk_below K3.out B2'.out) 0).trans rfl
      have z21 : w2.cell? ⟨W.heap.size + 2, 1, none⟩ = some (.slice C2 c.ins.length cc2) := (blk_cell (blk_below K3.out B2'.out) 1).trans rfl
      have z22 : w2.cell? ⟨W.heap.size + 2, 2, none⟩ = some (.slice C3 c.outs.length cc3) := (blk_cell (blk_below K3.out B2'.out) 2).trans rfl
      go_wp2_with fail
      refine (light_calls (HC.out.below (below_step HW.out B2'.out))).mono ?_
      rintro e w3 ⟨rfl, hb⟩
      generalize lightF c = r2
      have B3' := Aside0.mk (below_step B2'.out hb)
      clear hb
      clear z00 z01 z02 z10 z11 z12 z20 z21 z22
      cases r2 with
      | false =>
        go_wp2_with fail
        refine (awake_calls _).mono ?_
        rintro e w4 ⟨rfl, hb⟩
        have HE := Aside0.mk (below_step (below_step HW.out B3'.out) hb)
        clear hb
        go_wp2_with fail
        go_ret
        exact ⟨rfl, HE.out⟩
      | true =>
        have z00 : w3.cell? ⟨W.heap.size, 0, none⟩ = some (.slice A1 a.res.length ac1) := (blk_cell (blk_below K1.out B3'.out) 0).trans rfl
        have z01 : w3.cell? ⟨W.heap.size, 1, none⟩ = some (.slice A2 a.ins.length ac2) := (blk_cell (blk_below K1.out B3'.out) 1).trans rfl
        have z02 : w3.cell? ⟨W.heap.size, 2, none⟩ = some (.slice A3 a.outs.length ac3) := (blk_cell (blk_below K1.out B3'.out) 2).trans rfl
        have z10 : w3.cell? ⟨W.heap.size + 1, 0, none⟩ = some (.slice B1 b.res.length bc1) := (blk_cell (blk_below K2.out B3'.out) 0).trans rfl
        have z11 : w3.cell? ⟨W.heap.size + 1, 1, none⟩ = some (.slice B2 b.ins.length bc2) := (blk_cell (blk_below K2.out B3'.out) 1).trans rfl
        have z12 : w3.cell? ⟨W.heap.size + 1, 2, none⟩ = some (.slice B3 b.outs.length bc3) := (blk_cell (blk_below K2.out B3'.out) 2).trans rfl
        have z20 : w3.cell? ⟨W.heap.size + 2, 0, none⟩ = some (.slice C1 c.res.length cc1) := (blk_cell (blk_below K3.out B3'.out) 0).trans rfl
        have z21 : w3.cell? ⟨W.heap.size + 2, 1, none⟩ = some (.slice C2 c.ins.length cc2) := (blk_cell (blk_below K3.out B3'.out) 1).trans rfl
        have z22 : w3.cell? ⟨W.heap.size + 2, 2, none⟩ = some (.slice C3 c.outs.length cc3) := (blk_cell (blk_below K3.out B3'.out) 2).trans rfl
        go_wp2_with fail
        refine (differ_calls (HA.out.below (below_step HW.out B3'.out))).mono ?_
        rintro e w4 ⟨r3, rfl, hb⟩
        have B4' := Aside0.mk (below_step B3'.out hb)
        clear hb
        clear z00 z01 z02 z10 z11 z12 z20 z21 z22
        cases r3 with
        | false =>
          go_wp2_with fail
          refine (awake_calls _).mono ?_
          rintro e w5 ⟨rfl, hb⟩
          have HE := Aside0.mk (below_step (below_step HW.out B4'.out) hb)
          clear hb
          go_wp2_with fail
          go_ret
          exact ⟨rfl, HE.out⟩
        | true =>
          have z00 : w4.cell? ⟨W.heap.size, 0, none⟩ = some (.slice A1 a.res.length ac1) := (blk_cell (blk_below K1.out B4'.out) 0).trans rfl
          have z01 : w4.cell? ⟨W.heap.size, 1, none⟩ = some (.slice A2 a.ins.length ac2) := (blk_cell (blk_below K1.out B4'.out) 1).trans rfl
          have z02 : w4.cell? ⟨W.heap.size, 2, none⟩ = some (.slice A3 a.outs.length ac3) := (blk_cell (blk_below K1.out B4'.out) 2).trans rfl
          have z10 : w4.cell? ⟨W.heap.size + 1, 0, none⟩ = some (.slice B1 b.res.length bc1) := (blk_cell (blk_below K2.out B4'.out) 0).trans rfl
          have z11 : w4.cell? ⟨W.heap.size + 1, 1, none⟩ = some (.slice B2 b.ins.length bc2) := (blk_cell (blk_below K2.out B4'.out) 1).trans rfl
          have z12 : w4.cell? ⟨W.heap.size + 1, 2, none⟩ = some (.slice B3 b.outs.length bc3) := (blk_cell (blk_below K2.out B4'.out) 2).trans rfl
          have z20 : w4.cell? ⟨W.heap.size + 2, 0, none⟩ = some (.slice C1 c.res.length cc1) := (blk_cell (blk_below K3.out B4'.out) 0).trans rfl
          have z21 : w4.cell? ⟨W.heap.size + 2, 1, none⟩ = some (.slice C2 c.ins.length cc2) := (blk_cell (blk_below K3.out B4'.out) 1).trans rfl
          have z22 : w4.cell? ⟨W.heap.size + 2, 2, none⟩ = some (.slice C3 c.outs.length cc3) := (blk_cell (blk_below K3.out B4'.out) 2).trans rfl
          go_wp2_with fail
          refine (differ_calls (HB.out.below (below_step HW.out B4'.out))).mono ?_
          rintro e w5 ⟨r4, rfl, hb⟩
          have B5' := Aside0.mk (below_step B4'.out hb)
          clear hb
          clear z00 z01 z02 z10 z11 z12 z20 z21 z22
          cases r4 with
          | false =>
            go_wp2_with fail
            refine (awake_calls _).mono ?_
            rintro e w6 ⟨rfl, hb⟩
            have HE := Aside0.mk (below_step (below_step HW.out B5'.out) hb)
            clear hb
            go_wp2_with fail
            go_ret
            exact ⟨rfl, HE.out⟩
          | true =>
            have z00 : w5.cell? ⟨W.heap.size, 0, none⟩ = some (.slice A1 a.res.length ac1) := (blk_cell (blk_below K1.out B5'.out) 0).trans rfl
            have z01 : w5.cell? ⟨W.heap.size, 1, none⟩ = some (.slice A2 a.ins.length ac2) := (blk_cell (blk_below K1.out B5'.out) 1).trans rfl
            have z02 : w5.cell? ⟨W.heap.size, 2, none⟩ = some (.slice A3 a.outs.length ac3) := (blk_cell (blk_below K1.out B5'.out) 2).trans rfl
            have z10 : w5.cell? ⟨W.heap.size + 1, 0, none⟩ = some (.slice B1 b.res.length bc1) := (blk_cell (blk_below K2.out B5'.out) 0).trans rfl
            have z11 : w5.cell? ⟨W.heap.size + 1, 1, none⟩ = some (.slice B2 b.ins.length bc2) := (blk_cell (blk_below K2.out B5'.out) 1).trans rfl
            have z12 : w5.cell? ⟨W.heap.size + 1, 2, none⟩ = some (.slice B3 b.outs.length bc3) := (blk_cell (blk_below K2.out B5'.out) 2).trans rfl
            have z20 : w5.cell? ⟨W.heap.size + 2, 0, none⟩ = some (.slice C1 c.res.length cc1) := (blk_cell (blk_below K3.out B5'.out) 0).trans rfl
            have z21 : w5.cell? ⟨W.heap.size + 2, 1, none⟩ = some (.slice C2 c.ins.length cc2) := (blk_cell (blk_below K3.out B5'.out) 1).trans rfl
            have z22 : w5.cell? ⟨W.heap.size + 2, 2, none⟩ = some (.slice C3 c.outs.length cc3) := (blk_cell (blk_below K3.out B5'.out) 2).trans rfl
            go_wp2_with fail
            refine (differ_calls (HC.out.below (below_step HW.out B5'.out))).mono ?_
            rintro e w6 ⟨r5, rfl, hb⟩
            have B6' := Aside0.mk (below_step B5'.out hb)
            clear hb
            clear z00 z01 z02 z10 z11 z12 z20 z21 z22
            cases r5 with
            | false =>
              go_wp2_with fail
              refine (awake_calls _).mono ?_
              rintro e w7 ⟨rfl, hb⟩
              have HE := Aside0.mk (below_step (below_step HW.out B6'.out) hb)
              clear hb
              go_wp2_with fail
              go_ret
              exact ⟨rfl, HE.out⟩
            | true =>
              have z00 : w6.cell? ⟨W.heap.size, 0, none⟩ = some (.slice A1 a.res.length ac1) := (blk_cell (blk_below K1.out B6'.out) 0).trans rfl
              have z01 : w6.cell? ⟨W.heap.size, 1, none⟩ = some (.slice A2 a.ins.length ac2) := (blk_cell (blk_below K1.out B6'.out) 1).trans rfl
              have z02 : w6.cell? ⟨W.heap.size, 2, none⟩ = some (.slice A3 a.outs.length ac3) := (blk_cell (blk_below K1.out B6'.out) 2).trans rfl
              have z10 : w6.cell? ⟨W.heap.size + 1, 0, none⟩ = some (.slice B1 b.res.length bc1) := (blk_cell (blk_below K2.out B6'.out) 0).trans rfl
              have z11 : w6.cell? ⟨W.heap.size + 1, 1, none⟩ = some (.slice B2 b.ins.length bc2) := (blk_cell (blk_below K2.out B6'.out) 1).trans rfl
              have z12 : w6.cell? ⟨W.heap.size + 1, 2, none⟩ = some (.slice B3 b.outs.length bc3) := (blk_cell (blk_below K2.out B6'.out) 2).trans rfl
              have z20 : w6.cell? ⟨W.heap.size + 2, 0, none⟩ = some (.slice C1 c.res.length cc1) := (blk_cell (blk_below K3.out B6'.out) 0).trans rfl
              have z21 : w6.cell? ⟨W.heap.size + 2, 1, none⟩ = some (.slice C2 c.ins.length cc2) := (blk_cell (blk_below K3.out B6'.out) 1).trans rfl
              have z22 : w6.cell? ⟨W.heap.size + 2, 2, none⟩ = some (.slice C3 c.outs.length cc3) := (blk_cell (blk_below K3.out B6'.out) 2).trans rfl
              go_wp2_with fail
              refine (fits_calls a b _ A1 ac1 A2 ac2 A3 ac3 B1 bc1 B2 bc2 B3 bc3 (HA.out.below (below_step HW.out B6'.out)) (HB.out.below (below_step HW.out B6'.out)) hza hzb).mono ?_
              rintro e w7 ⟨rfl, hb⟩
              have B7' := Aside0.mk (below_step B6'.out hb)
              clear hb
              clear z00 z01 z02 z10 z11 z12 z20 z21 z22
              by_cases hz : fitsF a b = 0
              · have F1 := Aside0.mk hz
                have e1 : (fitsF a b != 0) = false := bne_eq_false_iff_eq.mpr hz
                clear hz
                have z00 : w7.cell? ⟨W.heap.size, 0, none⟩ = some (.slice A1 a.res.length ac1) := (blk_cell (blk_below K1.out B7'.out) 0).trans rfl
                have z01 : w7.cell? ⟨W.heap.size, 1, none⟩ = some (.slice A2 a.ins.length ac2) := (blk_cell (blk_below K1.out B7'.out) 1).trans rfl
                have z02 : w7.cell? ⟨W.heap.size, 2, none⟩ = some (.slice A3 a.outs.length ac3) := (blk_cell (blk_below K1.out B7'.out) 2).trans rfl
                have z10 : w7.cell? ⟨W.heap.size + 1, 0, none⟩ = some (.slice B1 b.res.length bc1) := (blk_cell (blk_below K2.out B7'.out) 0).trans rfl
                have z11 : w7.cell? ⟨W.heap.size + 1, 1, none⟩ = some (.slice B2 b.ins.length bc2) := (blk_cell (blk_below K2.out B7'.out) 1).trans rfl
                have z12 : w7.cell? ⟨W.heap.size + 1, 2, none⟩ = some (.slice B3 b.outs.length bc3) := (blk_cell (blk_below K2.out B7'.out) 2).trans rfl
                have z20 : w7.cell? ⟨W.heap.size + 2, 0, none⟩ = some (.slice C1 c.res.length cc1) := (blk_cell (blk_below K3.out B7'.out) 0).trans rfl
                have z21 : w7.cell? ⟨W.heap.size + 2, 1, none⟩ = some (.slice C2 c.ins.length cc2) := (blk_cell (blk_below K3.out B7'.out) 1).trans rfl
                have z22 : w7.cell? ⟨W.heap.size + 2, 2, none⟩ = some (.slice C3 c.outs.length cc3) := (blk_cell (blk_below K3.out B7'.out) 2).trans rfl
                go_wp2_with fail
                refine (fits_calls b c _ B1 bc1 B2 bc2 B3 bc3 C1 cc1 C2 cc2 C3 cc3 (HB.out.below (below_step HW.out B7'.out)) (HC.out.below (below_step HW.out B7'.out)) hzb hzc).mono ?_
                rintro e w8 ⟨rfl, hb⟩
                have B8' := Aside0.mk (below_step B7'.out hb)
                clear hb
                clear z00 z01 z02 z10 z11 z12 z20 z21 z22
                by_cases hz : fitsF b c = 0
                · have F2 := Aside0.mk hz
                  have e1 : (fitsF b c != 0) = false := bne_eq_false_iff_eq.mpr hz
                  clear hz
                  have z00 : w8.cell? ⟨W.heap.size, 0, none⟩ = some (.slice A1 a.res.length ac1) := (blk_cell (blk_below K1.out B8'.out) 0).trans rfl
                  have z01 : w8.cell? ⟨W.heap.size, 1, none⟩ = some (.slice A2 a.ins.length ac2) := (blk_cell (blk_below K1.out B8'.out) 1).trans rfl
                  have z02 : w8.cell? ⟨W.heap.size, 2, none⟩ = some (.slice A3 a.outs.length ac3) := (blk_cell (blk_below K1.out B8'.out) 2).trans rfl
                  have z10 : w8.cell? ⟨W.heap.size + 1, 0, none⟩ = some (.slice B1 b.res.length bc1) := (blk_cell (blk_below K2.out B8'.out) 0).trans rfl
                  have z11 : w8.cell? ⟨W.heap.size + 1, 1, none⟩ = some (.slice B2 b.ins.length bc2) := (blk_cell (blk_below K2.out B8'.out) 1).trans rfl
                  have z12 : w8.cell? ⟨W.heap.size + 1, 2, none⟩ = some (.slice B3 b.outs.length bc3) := (blk_cell (blk_below K2.out B8'.out) 2).trans rfl
                  have z20 : w8.cell? ⟨W.heap.size + 2, 0, none⟩ = some (.slice C1 c.res.length cc1) := (blk_cell (blk_below K3.out B8'.out) 0).trans rfl
                  have z21 : w8.cell? ⟨W.heap.size + 2, 1, none⟩ = some (.slice C2 c.ins.length cc2) := (blk_cell (blk_below K3.out B8'.out) 1).trans rfl
                  have z22 : w8.cell? ⟨W.heap.size + 2, 2, none⟩ = some (.slice C3 c.outs.length cc3) := (blk_cell (blk_below K3.out B8'.out) 2).trans rfl
                  go_wp2_with fail
                  refine (fits_calls a c _ A1 ac1 A2 ac2 A3 ac3 C1 cc1 C2 cc2 C3 cc3 (HA.out.below (below_step HW.out B8'.out)) (HC.out.below (below_step HW.out B8'.out)) hza hzc).mono ?_
                  rintro e w9 ⟨rfl, hb⟩
                  have B9' := Aside0.mk (below_step B8'.out hb)
                  clear hb
                  clear z00 z01 z02 z10 z11 z12 z20 z21 z22
                  have e1 : (fitsF a c == 0) = true := beq_iff_eq.mpr (fits_trans F1.out F2.out)
                  go_wp2_with fail
                  refine (awake_calls _).mono ?_
                  rintro e w10 ⟨rfl, hb⟩
                  have HE := Aside0.mk (below_step (below_step HW.out B9'.out) hb)
                  clear hb
                  go_wp2_with fail
                  go_ret
                  exact ⟨rfl, HE.out⟩
                · have e1 : (fitsF b c != 0) = true := bne_iff_ne.mpr hz
                  clear hz
                  go_wp2_with fail
                  refine (awake_calls _).mono ?_
                  rintro e w9 ⟨rfl, hb⟩
                  have HE := Aside0.mk (below_step (below_step HW.out B8'.out) hb)
                  clear hb
                  go_wp2_with fail
                  go_ret
                  exact ⟨rfl, HE.out⟩
              · have e1 : (fitsF a b != 0) = true := bne_iff_ne.mpr hz
                clear hz
                go_wp2_with fail
                refine (awake_calls _).mono ?_
                rintro e w8 ⟨rfl, hb⟩
                have HE := Aside0.mk (below_step (below_step HW.out B7'.out) hb)
                clear hb
                go_wp2_with fail
                go_ret
                exact ⟨rfl, HE.out⟩
end Go.Proofs.Ytmpmcffhlnlejaa.SubEq
