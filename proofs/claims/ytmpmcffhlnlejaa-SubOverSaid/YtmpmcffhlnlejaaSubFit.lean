/- Contracts of subtype.Fits and subtype.Links. -/
import Derived.Test.YtmpmcffhlnlejaaSubPairs
namespace Go.Proofs.Ytmpmcffhlnlejaa.SubEq
open Go.RowKit Go.Proofs.YtmpmcffhlnlejaaW.PrintWords Go.Proofs.YtmpmcffhlnlejaaW.PrintLast Go.Proofs.YtmpmcffhlnlejaaW.PrintMore
open Go.Proofs.Ytmpmcffhlnlejaa.PSubFits
set_option linter.unusedVariables false
set_option linter.unusedSimpArgs false

/-- A contract. -/
structure Con where
  res : List ByteArray
  ins : List S27
  outs : List S27

/-- Where a contract's value leads. -/
structure ConAt (w : World) (a : Con) (A1 : Option Addr) (c1 : Nat) (A2 : Option Addr) (c2 : Nat) (A3 : Option Addr) (c3 : Nat) : Prop where
  h1 : Kd.string.C w A1 a.res.length a.res
  l1 : a.res.length ≤ c1
  h2 : k27.C w A2 a.ins.length a.ins
  l2 : a.ins.length ≤ c2
  h3 : k27.C w A3 a.outs.length a.outs
  l3 : a.outs.length ≤ c3

theorem ConAt.below {w w' : World} {a : Con} {A1 : Option Addr} {c1 : Nat} {A2 : Option Addr} {c2 : Nat} {A3 : Option Addr} {c3 : Nat} (h : ConAt w a A1 c1 A2 c2 A3 c3) (hb : Below w.heap.size w w') : ConAt w' a A1 c1 A2 c2 A3 c3 :=
  ⟨Kd.C_below h.h1 hb, h.l1, Kd.C_below h.h2 hb, h.l2, Kd.C_below h.h3 hb, h.l3⟩

def insF (a b : Con) : Int := allF b.ins (pairsF selfT a.res b.res) a.ins
def outsF (a b : Con) : Int := allF a.outs (pairsF selfT b.res a.res) b.outs
def fitsF (a b : Con) : Int := if insF a b = 0 then outsF a b else insF a b
def linksF (a b : Con) : Int := allF b.outs (pairsF impT a.res b.res) a.ins

set_option maxHeartbeats 8000000 in
theorem fits_calls (a b : Con) (W : World) (A1 : Option Addr) (ac1 : Nat) (A2 : Option Addr) (ac2 : Nat) (A3 : Option Addr) (ac3 : Nat) (B1 : Option Addr) (bc1 : Nat) (B2 : Option Addr) (bc2 : Nat) (B3 : Option Addr) (bc3 : Nat)
    (ha : ConAt W a A1 ac1 A2 ac2 A3 ac3) (hb : ConAt W b B1 bc1 B2 bc2 B3 bc3) (hza : a.res.length * 16 ≤ 140737488351232) (hzb : b.res.length * 16 ≤ 140737488351232) :
    Calls Try.prog 22 #[.agg #[.slice A1 a.res.length ac1, .slice A2 a.ins.length ac2, .slice A3 a.outs.length ac3], .agg #[.slice B1 b.res.length bc1, .slice B2 b.ins.length bc2, .slice B3 b.outs.length bc3]] W fun e w' => e = .returned (.int .i64 (fitsF a b)) ∧ Below W.heap.size W w' := by
  have HA := Aside0.mk ha
  have HB := Aside0.mk hb
  clear ha hb
  go_enter Try.func22, Try.ntmps22
  go_wp2_with fail
  have K1 := blk_alloc (blk_new W (.cells #[.slice A1 a.res.length ac1, .slice A2 a.ins.length ac2, .slice A3 a.outs.length ac3] 40)) (.cells #[.slice B1 b.res.length bc1, .slice B2 b.ins.length bc2, .slice B3 b.outs.length bc3] 40)
  have K2 := blk_new (W.alloc (.cells #[.slice A1 a.res.length ac1, .slice A2 a.ins.length ac2, .slice A3 a.outs.length ac3] 40)) (.cells #[.slice B1 b.res.length bc1, .slice B2 b.ins.length bc2, .slice B3 b.outs.length bc3] 40)
  simp only [World.size_alloc] at K2
  have HW := Aside0.mk (below_alloc (below_alloc (Below.refl W.heap.size W) (.cells #[.slice A1 a.res.length ac1, .slice A2 a.ins.length ac2, .slice A3 a.outs.length ac3] 40)) (.cells #[.slice B1 b.res.length bc1, .slice B2 b.ins.length bc2, .slice B3 b.outs.length bc3] 40))
  generalize (W.alloc (.cells #[.slice A1 a.res.length ac1, .slice A2 a.ins.length ac2, .slice A3 a.outs.length ac3] 40)).alloc (.cells #[.slice B1 b.res.length bc1, .slice B2 b.ins.length bc2, .slice B3 b.outs.length bc3] 40) = wb at *
  have hS : ∀ w', Below wb.heap.size wb w' → Aside0 (Below wb.heap.size wb w') ∧ w'.cell? ⟨W.heap.size, 0, none⟩ = some (.slice A1 a.res.length ac1) ∧ w'.cell? ⟨W.heap.size, 1, none⟩ = some (.slice A2 a.ins.length ac2) ∧ w'.cell? ⟨W.heap.size, 2, none⟩ = some (.slice A3 a.outs.length ac3) ∧ w'.cell? ⟨W.heap.size + 1, 0, none⟩ = some (.slice B1 b.res.length bc1) ∧ w'.cell? ⟨W.heap.size + 1, 1, none⟩ = some (.slice B2 b.ins.length bc2) ∧ w'.cell? ⟨W.heap.size + 1, 2, none⟩ = some (.slice B3 b.outs.length bc3) := fun w' hq => ⟨⟨hq⟩, (blk_cell (blk_below K1 hq) 0).trans rfl, (blk_cell (blk_below K1 hq) 1).trans rfl, (blk_cell (blk_below K1 hq) 2).trans rfl, (blk_cell (blk_below K2 hq) 0).trans rfl, (blk_cell (blk_below K2 hq) 1).trans rfl, (blk_cell (blk_below K2 hq) 2).trans rfl⟩
  have HS := Aside0.mk hS
  clear hS K1 K2
  go_region_held3 (fun w' => Aside0 (Below wb.heap.size wb w') ∧ w'.cell? ⟨W.heap.size, 0, none⟩ = some (.slice A1 a.res.length ac1) ∧ w'.cell? ⟨W.heap.size, 1, none⟩ = some (.slice A2 a.ins.length ac2) ∧ w'.cell? ⟨W.heap.size, 2, none⟩ = some (.slice A3 a.outs.length ac3) ∧ w'.cell? ⟨W.heap.size + 1, 0, none⟩ = some (.slice B1 b.res.length bc1) ∧ w'.cell? ⟨W.heap.size + 1, 1, none⟩ = some (.slice B2 b.ins.length bc2) ∧ w'.cell? ⟨W.heap.size + 1, 2, none⟩ = some (.slice B3 b.outs.length bc3))
    (first
      | exact HS.out _ (Below.refl _ _)
      | exact HS.out _ (below_drew1 (Below.refl _ _))
      | exact HS.out _ (below_step hq0.out hq)
      | assumption)
    (first
      | (go_at_call 56; obtain ⟨hq0, _⟩ := ‹Aside0 (Below wb.heap.size wb _) ∧ _›; have hq1 := below_step HW.out hq0.out; refine (pairs_calls 57 (.inl rfl) (HA.out.below hq1).h1 (HB.out.below hq1).h1 HB.out.l1 (self_turns _) hza rfl rfl rfl rfl).mono ?_; rintro e w' ⟨MA, mc, rfl, hmc, hmm, hq⟩; have HMC := Aside0.mk hmm; clear hmm)
      | (go_at_call 55; obtain ⟨hq0, _⟩ := ‹Aside0 (Below wb.heap.size wb _) ∧ _›; have hq1 := below_step HW.out hq0.out; refine (all_calls (HA.out.below hq1).h2 (HB.out.below hq1).h2 HMC.out hmc).mono ?_; rintro e w' ⟨rfl, hq⟩))
  obtain ⟨hq9, _⟩ := ‹Aside0 (Below wb.heap.size wb _) ∧ _›
  have HR : Aside0 (fitsF a b = if insF a b = 0 then outsF a b else insF a b) := ⟨rfl⟩
  have e0 : allF b.ins (pairsF selfT a.res b.res) a.ins = insF a b := rfl
  rw [e0]
  clear e0
  by_cases hz : insF a b = 0
  · have HR2 := Aside0.mk (HR.out.trans (if_pos hz))
    have e1 : (insF a b == 0) = true := beq_iff_eq.mpr hz
    have e2 : (insF a b != 0) = false := bne_eq_false_iff_eq.mpr hz
    clear hz HR
    go_wp2_with fail
    clear HMC hq0 hq1 hq hmc
    go_region_held3 (fun w' => Aside0 (Below wb.heap.size wb w') ∧ w'.cell? ⟨W.heap.size, 0, none⟩ = some (.slice A1 a.res.length ac1) ∧ w'.cell? ⟨W.heap.size, 1, none⟩ = some (.slice A2 a.ins.length ac2) ∧ w'.cell? ⟨W.heap.size, 2, none⟩ = some (.slice A3 a.outs.length ac3) ∧ w'.cell? ⟨W.heap.size + 1, 0, none⟩ = some (.slice B1 b.res.length bc1) ∧ w'.cell? ⟨W.heap.size + 1, 1, none⟩ = some (.slice B2 b.ins.length bc2) ∧ w'.cell? ⟨W.heap.size + 1, 2, none⟩ = some (.slice B3 b.outs.length bc3))
      (first
        | exact HS.out _ hq9.out
        | exact HS.out _ (below_drew1 hq9.out)
        | exact HS.out _ (below_step hq0.out hq)
        | assumption)
      (first
        | (go_at_call 56; obtain ⟨hq0, _⟩ := ‹Aside0 (Below wb.heap.size wb _) ∧ _›; have hq1 := below_step HW.out hq0.out; refine (pairs_calls 57 (.inl rfl) (HB.out.below hq1).h1 (HA.out.below hq1).h1 HA.out.l1 (self_turns _) hzb rfl rfl rfl rfl).mono ?_; rintro e w' ⟨MA, mc, rfl, hmc, hmm, hq⟩; have HMC := Aside0.mk hmm; clear hmm)
        | (go_at_call 55; obtain ⟨hq0, _⟩ := ‹Aside0 (Below wb.heap.size wb _) ∧ _›; have hq1 := below_step HW.out hq0.out; refine (all_calls (HB.out.below hq1).h3 (HA.out.below hq1).h3 HMC.out hmc).mono ?_; rintro e w' ⟨rfl, hq⟩))
    obtain ⟨hq8, _⟩ := ‹Aside0 (Below wb.heap.size wb _) ∧ _›
    have HE := Aside0.mk (below_step HW.out hq8.out)
    go_wp2_with fail
    go_ret
    exact ⟨by rw [HR2.out]; rfl, HE.out⟩
  · have HR2 := Aside0.mk (HR.out.trans (if_neg hz))
    have e1 : (insF a b == 0) = false := beq_eq_false_iff_ne.mpr hz
    have e2 : (insF a b != 0) = true := bne_iff_ne.mpr hz
    have HE := Aside0.mk (below_step HW.out hq9.out)
    clear hz HR
    go_wp2_with fail
    go_ret
    exact ⟨by rw [HR2.out]; rfl, HE.out⟩

set_option maxHeartbeats 8000000 in
theorem links_calls (a b : Con) (W : World) (A1 : Option Addr) (ac1 : Nat) (A2 : Option Addr) (ac2 : Nat) (A3 : Option Addr) (ac3 : Nat) (B1 : Option Addr) (bc1 : Nat) (B2 : Option Addr) (bc2 : Nat) (B3 : Option Addr) (bc3 : Nat)
    (ha : ConAt W a A1 ac1 A2 ac2 A3 ac3) (hb : ConAt W b B1 bc1 B2 bc2 B3 bc3) (hza : a.res.length * 16 ≤ 140737488351232) (hss : ∀ s ∈ a.res, s.size ≤ 140737488351232) :
    Calls Try.prog 26 #[.agg #[.slice A1 a.res.length ac1, .slice A2 a.ins.length ac2, .slice A3 a.outs.length ac3], .agg #[.slice B1 b.res.length bc1, .slice B2 b.ins.length bc2, .slice B3 b.outs.length bc3]] W fun e w' => e = .returned (.int .i64 (linksF a b)) ∧ Below W.heap.size W w' := by
  have HSS := Aside0.mk hss
  clear hss
  have HA := Aside0.mk ha
  have HB := Aside0.mk hb
  clear ha hb
  go_enter Try.func26, Try.ntmps26
  go_wp2_with fail
  have K1 := blk_alloc (blk_new W (.cells #[.slice A1 a.res.length ac1, .slice A2 a.ins.length ac2, .slice A3 a.outs.length ac3] 40)) (.cells #[.slice B1 b.res.length bc1, .slice B2 b.ins.length bc2, .slice B3 b.outs.length bc3] 40)
  have K2 := blk_new (W.alloc (.cells #[.slice A1 a.res.length ac1, .slice A2 a.ins.length ac2, .slice A3 a.outs.length ac3] 40)) (.cells #[.slice B1 b.res.length bc1, .slice B2 b.ins.length bc2, .slice B3 b.outs.length bc3] 40)
  simp only [World.size_alloc] at K2
  have HW := Aside0.mk (below_alloc (below_alloc (Below.refl W.heap.size W) (.cells #[.slice A1 a.res.length ac1, .slice A2 a.ins.length ac2, .slice A3 a.outs.length ac3] 40)) (.cells #[.slice B1 b.res.length bc1, .slice B2 b.ins.length bc2, .slice B3 b.outs.length bc3] 40))
  generalize (W.alloc (.cells #[.slice A1 a.res.length ac1, .slice A2 a.ins.length ac2, .slice A3 a.outs.length ac3] 40)).alloc (.cells #[.slice B1 b.res.length bc1, .slice B2 b.ins.length bc2, .slice B3 b.outs.length bc3] 40) = wb at *
  have hS : ∀ w', Below wb.heap.size wb w' → Aside0 (Below wb.heap.size wb w') ∧ w'.cell? ⟨W.heap.size, 0, none⟩ = some (.slice A1 a.res.length ac1) ∧ w'.cell? ⟨W.heap.size, 1, none⟩ = some (.slice A2 a.ins.length ac2) ∧ w'.cell? ⟨W.heap.size, 2, none⟩ = some (.slice A3 a.outs.length ac3) ∧ w'.cell? ⟨W.heap.size + 1, 0, none⟩ = some (.slice B1 b.res.length bc1) ∧ w'.cell? ⟨W.heap.size + 1, 1, none⟩ = some (.slice B2 b.ins.length bc2) ∧ w'.cell? ⟨W.heap.size + 1, 2, none⟩ = some (.slice B3 b.outs.length bc3) := fun w' hq => ⟨⟨hq⟩, (blk_cell (blk_below K1 hq) 0).trans rfl, (blk_cell (blk_below K1 hq) 1).trans rfl, (blk_cell (blk_below K1 hq) 2).trans rfl, (blk_cell (blk_below K2 hq) 0).trans rfl, (blk_cell (blk_below K2 hq) 1).trans rfl, (blk_cell (blk_below K2 hq) 2).trans rfl⟩
  have HS := Aside0.mk hS
  clear hS K1 K2
  go_region_held3 (fun w' => Aside0 (Below wb.heap.size wb w') ∧ w'.cell? ⟨W.heap.size, 0, none⟩ = some (.slice A1 a.res.length ac1) ∧ w'.cell? ⟨W.heap.size, 1, none⟩ = some (.slice A2 a.ins.length ac2) ∧ w'.cell? ⟨W.heap.size, 2, none⟩ = some (.slice A3 a.outs.length ac3) ∧ w'.cell? ⟨W.heap.size + 1, 0, none⟩ = some (.slice B1 b.res.length bc1) ∧ w'.cell? ⟨W.heap.size + 1, 1, none⟩ = some (.slice B2 b.ins.length bc2) ∧ w'.cell? ⟨W.heap.size + 1, 2, none⟩ = some (.slice B3 b.outs.length bc3))
    (first
      | exact HS.out _ (Below.refl _ _)
      | exact HS.out _ (below_drew1 (Below.refl _ _))
      | exact HS.out _ (below_step hq0.out hq)
      | assumption)
    (first
      | (go_at_call 56; obtain ⟨hq0, _⟩ := ‹Aside0 (Below wb.heap.size wb _) ∧ _›; have hq1 := below_step HW.out hq0.out; refine (pairs_calls 59 (.inr rfl) (HA.out.below hq1).h1 (HB.out.below hq1).h1 HB.out.l1 (exported_turns _ HSS.out) hza rfl rfl rfl rfl).mono ?_; rintro e w' ⟨MA, mc, rfl, hmc, hmm, hq⟩; have HMC := Aside0.mk hmm; clear hmm)
      | (go_at_call 55; obtain ⟨hq0, _⟩ := ‹Aside0 (Below wb.heap.size wb _) ∧ _›; have hq1 := below_step HW.out hq0.out; refine (all_calls (HA.out.below hq1).h2 (HB.out.below hq1).h3 HMC.out hmc).mono ?_; rintro e w' ⟨rfl, hq⟩))
  obtain ⟨hq9, _⟩ := ‹Aside0 (Below wb.heap.size wb _) ∧ _›
  have HE := Aside0.mk (below_step HW.out hq9.out)
  go_wp2_with fail
  go_ret
  exact ⟨rfl, HE.out⟩
end Go.Proofs.Ytmpmcffhlnlejaa.SubEq
