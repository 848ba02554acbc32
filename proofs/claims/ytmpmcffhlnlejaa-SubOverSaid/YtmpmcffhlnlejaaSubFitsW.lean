/- The walk of the law SubFits: it returns true at whatever contracts. -/
import Derived.Test.YtmpmcffhlnlejaaSubRefE
namespace Go.Proofs.Ytmpmcffhlnlejaa.SubEq
open Go.RowKit Go.Proofs.YtmpmcffhlnlejaaW.PrintWords Go.Proofs.YtmpmcffhlnlejaaW.PrintLast Go.Proofs.YtmpmcffhlnlejaaW.PrintMore
open Go.Proofs.Ytmpmcffhlnlejaa.PSubFits
set_option linter.unusedVariables false
set_option linter.unusedSimpArgs false

/-- Not too many functions, nor resources. -/
def lightF (a : Con) : Bool := decide ((wrap64 ((wrap64 ((a.ins.length : Int) + (a.outs.length : Int))) + (a.res.length : Int))) ≤ 300)

theorem light_calls {a : Con} {A1 A2 A3 : Option Addr} {c1 c2 c3 : Nat} {w : World} (h : ConAt w a A1 c1 A2 c2 A3 c3) :
    Calls Try.prog 23 #[.agg #[.slice A1 a.res.length c1, .slice A2 a.ins.length c2, .slice A3 a.outs.length c3]] w fun e w' => e = .returned (.bool (lightF a)) ∧ Below w.heap.size w w' :=
  scarflaw14_light.calls A1 c1 a.res A2 c2 a.ins A3 c3 a.outs _ w h.h1 h.l1 h.h2 h.l2 h.h3 h.l3 rfl

set_option maxHeartbeats 8000000 in
theorem law_fits (a b : Con) (W : World) (A1 : Option Addr) (ac1 : Nat) (A2 : Option Addr) (ac2 : Nat) (A3 : Option Addr) (ac3 : Nat) (B1 : Option Addr) (bc1 : Nat) (B2 : Option Addr) (bc2 : Nat) (B3 : Option Addr) (bc3 : Nat)
    (ha : ConAt W a A1 ac1 A2 ac2 A3 ac3) (hb : ConAt W b B1 bc1 B2 bc2 B3 bc3) (hza : a.res.length * 16 ≤ 140737488351232) (hzb : b.res.length * 16 ≤ 140737488351232) (hsa : ∀ s ∈ a.res, s.size ≤ 140737488351232) (hsb : ∀ s ∈ b.res, s.size ≤ 140737488351232) :
    Calls Try.prog 9 #[.agg #[.slice A1 a.res.length ac1, .slice A2 a.ins.length ac2, .slice A3 a.outs.length ac3], .agg #[.slice B1 b.res.length bc1, .slice B2 b.ins.length bc2, .slice B3 b.outs.length bc3]] W fun e w' => e = .returned (.bool true) ∧ Below W.heap.size W w' := by
  have HSA := Aside0.mk hsa
  have HSB := Aside0.mk hsb
  clear hsa hsb
  have HA := Aside0.mk ha
  have HB := Aside0.mk hb
  clear ha hb
  go_enter Try.func9, Try.ntmps9
  go_wp2_with fail
  have K10 := blk_alloc (blk_new W (.cells #[.slice A1 a.res.length ac1, .slice A2 a.ins.length ac2, .slice A3 a.outs.length ac3] 40)) (.cells #[.slice B1 b.res.length bc1, .slice B2 b.ins.length bc2, .slice B3 b.outs.length bc3] 40)
  have K20 := blk_new (W.alloc (.cells #[.slice A1 a.res.length ac1, .slice A2 a.ins.length ac2, .slice A3 a.outs.length ac3] 40)) (.cells #[.slice B1 b.res.length bc1, .slice B2 b.ins.length bc2, .slice B3 b.outs.length bc3] 40)
  simp only [World.size_alloc] at K20
  have HW := Aside0.mk (below_alloc (below_alloc (Below.refl W.heap.size W) (.cells #[.slice A1 a.res.length ac1, .slice A2 a.ins.length ac2, .slice A3 a.outs.length ac3] 40)) (.cells #[.slice B1 b.res.length bc1, .slice B2 b.ins.length bc2, .slice B3 b.outs.length bc3] 40))
  generalize (W.alloc (.cells #[.slice A1 a.res.length ac1, .slice A2 a.ins.length ac2, .slice A3 a.outs.length ac3] 40)).alloc (.cells #[.slice B1 b.res.length bc1, .slice B2 b.ins.length bc2, .slice B3 b.outs.length bc3] 40) = wb at *
  have K1 := Aside0.mk K10
  have K2 := Aside0.mk K20
  clear K10 K20
  have z00 : wb.cell? ⟨W.heap.size, 0, none⟩ = some (.slice A1 a.res.length ac1) := (blk_cell (blk_below K1.out (Below.refl _ _)) 0).trans rfl
  have z01 : wb.cell? ⟨W.heap.size, 1, none⟩ = some (.slice A2 a.ins.length ac2) := (blk_cell (blk_below K1.out (Below.refl _ _)) 1).trans rfl
  have z02 : wb.cell? ⟨W.heap.size, 2, none⟩ = some (.slice A3 a.outs.length ac3) := (blk_cell (blk_below K1.out (Below.refl _ _)) 2).trans rfl
  have z10 : wb.cell? ⟨W.heap.size + 1, 0, none⟩ = some (.slice B1 b.res.length bc1) := (blk_cell (blk_below K2.out (Below.refl _ _)) 0).trans rfl
  have z11 : wb.cell? ⟨W.heap.size + 1, 1, none⟩ = some (.slice B2 b.ins.length bc2) := (blk_cell (blk_below K2.out (Below.refl _ _)) 1).trans rfl
  have z12 : wb.cell? ⟨W.heap.size + 1, 2, none⟩ = some (.slice B3 b.outs.length bc3) := (blk_cell (blk_below K2.out (Below.refl _ _)) 2).trans rfl
  refine (light_calls (HA.out.below HW.out)).mono ?_
  rintro e w1 ⟨rfl, hb1⟩
  have B1' := Aside0.mk hb1
  clear hb1
  clear z00 z01 z02 z10 z11 z12
  cases la : lightF a with
  | false =>
    clear la
    go_wp2_with fail
    refine (awake_calls _).mono ?_
    rintro e w2 ⟨rfl, hb2⟩
    have HE := Aside0.mk (below_step (below_step HW.out B1'.out) hb2)
    clear hb2
    go_wp2_with fail
    go_ret
    exact ⟨rfl, HE.out⟩
  | true =>
    clear la
    have z00 : w1.cell? ⟨W.heap.size, 0, none⟩ = some (.slice A1 a.res.length ac1) := (blk_cell (blk_below K1.out B1'.out) 0).trans rfl
    have z01 : w1.cell? ⟨W.heap.size, 1, none⟩ = some (.slice A2 a.ins.length ac2) := (blk_cell (blk_below K1.out B1'.out) 1).trans rfl
    have z02 : w1.cell? ⟨W.heap.size, 2, none⟩ = some (.slice A3 a.outs.length ac3) := (blk_cell (blk_below K1.out B1'.out) 2).trans rfl
    have z10 : w1.cell? ⟨W.heap.size + 1, 0, none⟩ = some (.slice B1 b.res.length bc1) := (blk_cell (blk_below K2.out B1'.out) 0).trans rfl
    have z11 : w1.cell? ⟨W.heap.size + 1, 1, none⟩ = some (.slice B2 b.ins.length bc2) := (blk_cell (blk_below K2.out B1'.out) 1).trans rfl
    have z12 : w1.cell? ⟨W.heap.size + 1, 2, none⟩ = some (.slice B3 b.outs.length bc3) := (blk_cell (blk_below K2.out B1'.out) 2).trans rfl
    go_wp2_with fail
    refine (light_calls (HB.out.below (below_step HW.out B1'.out))).mono ?_
    rintro e w2 ⟨rfl, hb2⟩
    have B2' := Aside0.mk (below_step B1'.out hb2)
    clear hb2
    clear z00 z01 z02 z10 z11 z12
    cases lb : lightF b with
    | false =>
      clear lb
      go_wp2_with fail
      refine (awake_calls _).mono ?_
      rintro e w3 ⟨rfl, hb3⟩
      have HE := Aside0.mk (below_step (below_step HW.out B2'.out) hb3)
      clear hb3
      go_wp2_with fail
      go_ret
      exact ⟨rfl, HE.out⟩
    | true =>
      clear lb
      have hS : ∀ w', Below wb.heap.size wb w' → Aside0 (Below wb.heap.size wb w') ∧ w'.cell? ⟨W.heap.size, 0, none⟩ = some (.slice A1 a.res.length ac1) ∧ w'.cell? ⟨W.heap.size, 1, none⟩ = some (.slice A2 a.ins.length ac2) ∧ w'.cell? ⟨W.heap.size, 2, none⟩ = some (.slice A3 a.outs.length ac3) ∧ w'.cell? ⟨W.heap.size + 1, 0, none⟩ = some (.slice B1 b.res.length bc1) ∧ w'.cell? ⟨W.heap.size + 1, 1, none⟩ = some (.slice B2 b.ins.length bc2) ∧ w'.cell? ⟨W.heap.size + 1, 2, none⟩ = some (.slice B3 b.outs.length bc3) := fun w' hq => ⟨⟨hq⟩, (blk_cell (blk_below K1.out hq) 0).trans rfl, (blk_cell (blk_below K1.out hq) 1).trans rfl, (blk_cell (blk_below K1.out hq) 2).trans rfl, (blk_cell (blk_below K2.out hq) 0).trans rfl, (blk_cell (blk_below K2.out hq) 1).trans rfl, (blk_cell (blk_below K2.out hq) 2).trans rfl⟩
      have HS := Aside0.mk hS
      clear hS
      go_wp2_with fail
      go_region_held3 (fun w' => Aside0 (Below wb.heap.size wb w') ∧ w'.cell? ⟨W.heap.size, 0, none⟩ = some (.slice A1 a.res.length ac1) ∧ w'.cell? ⟨W.heap.size, 1, none⟩ = some (.slice A2 a.ins.length ac2) ∧ w'.cell? ⟨W.heap.size, 2, none⟩ = some (.slice A3 a.outs.length ac3) ∧ w'.cell? ⟨W.heap.size + 1, 0, none⟩ = some (.slice B1 b.res.length bc1) ∧ w'.cell? ⟨W.heap.size + 1, 1, none⟩ = some (.slice B2 b.ins.length bc2) ∧ w'.cell? ⟨W.heap.size + 1, 2, none⟩ = some (.slice B3 b.outs.length bc3))
        (first
          | exact HS.out _ B2'.out
          | exact HS.out _ (below_drew1 B2'.out)
          | exact HS.out _ (below_step hq0.out hq)
          | assumption)
        (first
          | (go_at_call 22; obtain ⟨hq0, _⟩ := ‹Aside0 (Below wb.heap.size wb _) ∧ _›; have hq1 := below_step HW.out hq0.out; refine (fits_calls a b _ A1 ac1 A2 ac2 A3 ac3 B1 bc1 B2 bc2 B3 bc3 (HA.out.below hq1) (HB.out.below hq1) hza hzb).mono ?_; rintro e w' ⟨rfl, hq⟩)
          | (go_at_call 30; obtain ⟨hq0, _⟩ := ‹Aside0 (Below wb.heap.size wb _) ∧ _›; have hq1 := below_step HW.out hq0.out; refine (rfits_calls a b _ A1 ac1 A2 ac2 A3 ac3 B1 bc1 B2 bc2 B3 bc3 (HA.out.below hq1) (HB.out.below hq1) hza hzb HSA.out HSB.out).mono ?_; rintro e w' ⟨rfl, hq⟩)
          | (go_at_call 26; obtain ⟨hq0, _⟩ := ‹Aside0 (Below wb.heap.size wb _) ∧ _›; have hq1 := below_step HW.out hq0.out; refine (links_calls a b _ A1 ac1 A2 ac2 A3 ac3 B1 bc1 B2 bc2 B3 bc3 (HA.out.below hq1) (HB.out.below hq1) hza HSA.out).mono ?_; rintro e w' ⟨rfl, hq⟩)
          | (go_at_call 31; obtain ⟨hq0, _⟩ := ‹Aside0 (Below wb.heap.size wb _) ∧ _›; have hq1 := below_step HW.out hq0.out; refine (rlinks_calls a b _ A1 ac1 A2 ac2 A3 ac3 B1 bc1 B2 bc2 B3 bc3 (HA.out.below hq1) (HB.out.below hq1) hza HSA.out).mono ?_; rintro e w' ⟨rfl, hq⟩)
          | (go_at_call 19; obtain ⟨hq0, _⟩ := ‹Aside0 (Below wb.heap.size wb _) ∧ _›; refine (awake_calls _).mono ?_; rintro e w' ⟨rfl, hq⟩))
      obtain ⟨hq9, _⟩ := ‹Aside0 (Below wb.heap.size wb _) ∧ _›
      have HE := Aside0.mk (below_step HW.out hq9.out)
      go_wp2_with fail
      go_ret
      exact ⟨rfl, HE.out⟩
end Go.Proofs.Ytmpmcffhlnlejaa.SubEq
