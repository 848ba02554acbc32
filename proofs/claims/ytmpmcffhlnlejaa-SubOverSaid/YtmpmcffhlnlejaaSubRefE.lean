/- Contracts of scarfref14's each, Fits and Links: the same plain functions as the program's. -/
import Derived.Test.YtmpmcffhlnlejaaSubRefP
import Derived.Test.YtmpmcffhlnlejaaSubFit
namespace Go.Proofs.Ytmpmcffhlnlejaa.SubEq
open Go.RowKit Go.Proofs.YtmpmcffhlnlejaaW.PrintWords Go.Proofs.YtmpmcffhlnlejaaW.PrintLast Go.Proofs.YtmpmcffhlnlejaaW.PrintMore
open Go.Proofs.Ytmpmcffhlnlejaa.PSubFits
set_option linter.unusedVariables false
set_option linter.unusedSimpArgs false

def FitS (x : S27) : Prop := x.f1.length ≤ 9223372036854775807 ∧ x.f2.length ≤ 9223372036854775807 ∧ (∀ x' ∈ x.f2, Fit x') ∧ Fit x.f3

theorem fitS_C {w : World} {A : Option Addr} {xs : List S27} (h : k27.C w A xs.length xs) : ∀ y ∈ xs, FitS y := by
  intro y hy
  obtain ⟨i, hi, rfl⟩ := List.mem_iff_getElem.1 hy
  obtain ⟨ad, hA, hc⟩ := h.2.2 (by omega)
  obtain ⟨c, _, hK, _⟩ := hc i _ (List.getElem?_eq_getElem hi)
  obtain ⟨A1, c1, A2, c2, A4, c4, A5, c5, e, l1, g1, l2, g2, l4, g4, l5, g5⟩ := k27_open hK
  exact ⟨g1.2.1, g2.2.1, fit_C g2, fit_At (A1 := A4) (c1 := c4) (A2 := A5) (c2 := c5) ⟨g4, l4, g5, l5⟩⟩

theorem each_done {l among : List S27} {m : List Int} {i j e r : Int} (he : e ≠ 11) (h : Ev (fun k => if e = 0 then scarfref14_each.l0 k l among m (wrap64 (i + 1)) else some e) r) :
    Ev (fun k => scarfref14_each.l1 k l among m i e j) r := by
  have hj : Ev (fun k => scarfref14_each.j2 k l among m i e j false) r := by
    refine Ev.step (f := fun k => _) (fun k => by rw [scarfref14_each.j2]) ?_
    simp only [Bool.false_eq_true, if_false]
    exact h
  refine Ev.step (f := fun k => _) (fun k => by rw [scarfref14_each.l1]) ?_
  have e11 : (e == 11) = false := beq_eq_false_iff_ne.mpr he
  rw [e11]
  by_cases hl : j < (among.length : Int)
  · simp only [if_pos hl]
    exact hj
  · simp only [if_neg hl]
    exact hj

theorem each_l1 {l among : List S27} {m : List Int} {i : Nat} (hi : i < l.length) (hn : l.length ≤ 9223372036854775807) (ha : among.length ≤ 9223372036854775807) (hf : FitS (rd_T27 l (i : Int)))
    (hnext : Ev (fun k => scarfref14_each.l0 k l among m ((i + 1 : Nat) : Int)) (allF among m (l.drop (i + 1)))) :
    ∀ (d j : Nat), j + d = among.length → Ev (fun k => scarfref14_each.l1 k l among m (i : Int) 11 (j : Int)) (match (among.drop j).find? (fun y => decide (y.f0 = (rd_T27 l (i : Int)).f0)) with
      | none => 11
      | some y => if sigsT m (rd_T27 l (i : Int)) y = true then allF among m (l.drop (i + 1)) else 6) := by
  intro d
  induction d with
  | zero =>
    intro j hj
    rw [List.drop_eq_nil_of_le (by omega)]
    refine Ev.step (f := fun k => _) (fun k => by rw [scarfref14_each.l1]) ?_
    simp only [if_neg (show ¬ (j : Int) < (among.length : Int) by omega)]
    refine Ev.step (f := fun k => _) (fun k => by rw [scarfref14_each.j2]) ?_
    simp only [Bool.false_eq_true, if_false, if_neg (show ¬ (11 : Int) = 0 by omega)]
    exact Ev.now 11
  | succ d ih =>
    intro j hj
    have h2 : j < among.length := by omega
    have ih' := ih (j + 1) (by omega)
    refine Ev.step (f := fun k => _) (fun k => by rw [scarfref14_each.l1]) ?_
    simp only [if_pos (show (j : Int) < (among.length : Int) by omega)]
    refine Ev.step (f := fun k => _) (fun k => by rw [scarfref14_each.j2]) ?_
    simp only [beq_self_eq_true, if_true, if_pos (show (0 : Int) ≤ (j : Int) by omega), if_pos (show (j : Int) < (among.length : Int) by omega), if_pos (show (0 : Int) ≤ (i : Int) by omega), if_pos (show (i : Int) < (l.length : Int) by omega)]
    rw [List.drop_eq_getElem_cons h2, rdT27_eq h2]
    by_cases he : among[j].f0 = (rd_T27 l (i : Int)).f0
    · simp only [if_pos (congrArg ByteArray.toList he)]
      rw [List.find?_cons_of_pos (by simpa using he)]
      refine Ev.bind (refsig m hf.1 hf.2.1 hf.2.2.1 hf.2.2.2) ?_
      cases hs : sigsT m (rd_T27 l (i : Int)) among[j] with
      | true =>
        simp only [if_true]
        refine each_done (by omega) ?_
        simp only [if_true]
        rw [wrap_succ hi hn]
        show Ev _ (if sigsT m (rd_T27 l (i : Int)) among[j] = true then allF among m (l.drop (i + 1)) else 6)
        rw [if_pos hs]
        exact hnext
      | false =>
        simp only [Bool.false_eq_true, if_false]
        refine each_done (by omega) ?_
        simp only [if_neg (show ¬ (6 : Int) = 0 by omega)]
        show Ev _ (if sigsT m (rd_T27 l (i : Int)) among[j] = true then allF among m (l.drop (i + 1)) else 6)
        rw [if_neg (by rw [hs]; simp)]
        exact Ev.now 6
    · simp only [if_neg (fun h => he (bytes_ext h))]
      rw [List.find?_cons_of_neg (by simpa using he), wrap_succ h2 ha]
      exact ih'

theorem each_l0 {l among : List S27} {m : List Int} (hn : l.length ≤ 9223372036854775807) (ha : among.length ≤ 9223372036854775807) (hf : ∀ x ∈ l, FitS x) :
    ∀ (d i : Nat), i + d = l.length → Ev (fun k => scarfref14_each.l0 k l among m (i : Int)) (allF among m (l.drop i)) := by
  intro d
  induction d with
  | zero =>
    intro i hi
    rw [List.drop_eq_nil_of_le (by omega)]
    refine Ev.step (f := fun _ => some 0) (fun k => ?_) (Ev.now _)
    rw [scarfref14_each.l0, if_neg (by omega)]
  | succ d ih =>
    intro i hi
    have h1 : i < l.length := by omega
    rw [allF_drop h1]
    refine Ev.step (f := fun k => _) (fun k => by rw [scarfref14_each.l0]) ?_
    simp only [if_pos (show (i : Int) < (l.length : Int) by omega)]
    have hm : rd_T27 l (i : Int) ∈ l := by rw [rdT27_eq h1]; exact List.getElem_mem h1
    have h := each_l1 (m := m) h1 hn ha (hf _ hm) (ih (i + 1) (by omega)) among.length 0 (by omega)
    rw [List.drop_zero] at h
    exact h

theorem reach_calls {A B M : Option Addr} {c d cm : Nat} {l among : List S27} {m : List Int} {w : World} (hl : k27.C w A l.length l) (hc : l.length ≤ c) (ha : k27.C w B among.length among) (hd : among.length ≤ d) (hm : (Kd.int .i64).C w M m.length m) (hcm : m.length ≤ cm) :
    Calls Try.prog 60 #[.slice A l.length c, .slice B among.length d, .slice M m.length cm] w fun e w' => e = .returned (.int .i64 (allF among m l)) ∧ Below w.heap.size w w' := by
  have h := each_l0 (m := m) (among := among) hl.2.1 ha.2.1 (fitS_C hl) l.length 0 (by omega)
  rw [List.drop_zero] at h
  obtain ⟨k, hk⟩ := h.rounds
  exact scarfref14_each.calls k A c l B d among M cm m _ w hl hc ha hd hm hcm hk

theorem turnT_false : turnT false = selfT := rfl
theorem turnT_true : turnT true = impT := rfl

set_option maxHeartbeats 8000000 in
theorem rfits_calls (a b : Con) (W : World) (A1 : Option Addr) (ac1 : Nat) (A2 : Option Addr) (ac2 : Nat) (A3 : Option Addr) (ac3 : Nat) (B1 : Option Addr) (bc1 : Nat) (B2 : Option Addr) (bc2 : Nat) (B3 : Option Addr) (bc3 : Nat)
    (ha : ConAt W a A1 ac1 A2 ac2 A3 ac3) (hb : ConAt W b B1 bc1 B2 bc2 B3 bc3) (hza : a.res.length * 16 ≤ 140737488351232) (hzb : b.res.length * 16 ≤ 140737488351232) (hsa : ∀ s ∈ a.res, s.size ≤ 140737488351232) (hsb : ∀ s ∈ b.res, s.size ≤ 140737488351232) :
    Calls Try.prog 30 #[.agg #[.slice A1 a.res.length ac1, .slice A2 a.ins.length ac2, .slice A3 a.outs.length ac3], .agg #[.slice B1 b.res.length bc1, .slice B2 b.ins.length bc2, .slice B3 b.outs.length bc3]] W fun e w' => e = .returned (.int .i64 (fitsF a b)) ∧ Below W.heap.size W w' := by
  have HSA := Aside0.mk hsa
  have HSB := Aside0.mk hsb
  clear hsa hsb
  have HA := Aside0.mk ha
  have HB := Aside0.mk hb
  clear ha hb
  go_enter Try.func30, Try.ntmps30
  go_wp2_with fail
  have K1 := blk_alloc (blk_new W (.cells #[.slice A1 a.res.length ac1, .slice A2 a.ins.length ac2, .slice A3 a.outs.length ac3] 40)) (.cells #[.slice B1 b.res.length bc1, .slice B2 b.ins.length bc2, .slice B3 b.outs.length bc3] 40)
  have K2 := blk_new (W.alloc (.cells #[.slice A1 a.res.length ac1, .slice A2 a.ins.length ac2, .slice A3 a.outs.length ac3] 40)) (.cells #[.slice B1 b.res.length bc1, .slice B2 b.ins.length bc2, .slice B3 b.outs.length bc3] 40)
  simp only [World.size_alloc] at K2
  have HW := Aside0.mk (below_alloc (below_alloc (Below.refl W.heap.size W) (.cells #[.slice A1 a.res.length ac1, .slice A2 a.ins.length ac2, .slice A3 a.outs.length ac3] 40)) (.cells #[.slice B1 b.res.length bc1, .slice B2 b.ins.length bc2, .slice B3 b.outs.length bc3] 40))
  generalize (W.alloc (.cells #[.slice A1 a.res.length ac1, .slice A2 a.ins.length ac2, .slice A3 a.outs.length ac3] 40)).alloc (.cells #[.slice B1 b.res.length bc1, .slice B2 b.ins.length bc2, .slice B3 b.outs.length bc3] 40) = wb at *
  have hS : ∀ w', Below wb.heap.size wb w' → Aside0 (Below wb.heap.size wb w') ∧ w'.cell? ⟨W.heap.size, 0, none⟩ = some (.slice A1 a.res.length ac1) ∧ w'.cell? ⟨W.heap.size, 1, none⟩ = some (.slice A2 a.ins.length ac2) ∧ w'.cell? ⟨W.heap.size, 2, none⟩ = some (.slice A3 a.outs.length ac3) ∧ w'.cell? ⟨W.heap.size + 1, 0, none⟩ = some (.slice B1 b.res.length bc1) ∧ w'.cell? ⟨W.heap.size + 1, 1, none⟩ = some (.slice B2 b.ins.length bc2) ∧ w'.cell? ⟨W.heap.size + 1, 2, none⟩ = some (.slice B3 b.outs.length bc3) := fun w' hq => ⟨⟨hq⟩, (blk_cell (blk_below K1 hq) 0).trans rfl, (blk_cell (blk_below K1 hq) 1).trans rfl, (blk_cell (blk_below K1 hq) 2).trans rfl, (blk_cell (blk_below K2 hq) 0).trans rfl, (blk_cell (blk_below K2 hq) 1).trans rfl, (blk_cell (blk_below K2 hq) 2).trans rfl⟩
  have HS := Aside0.mk hS
  clear hS K1 K2
  go_region_held3 (fun w' => Aside0 (Below wb.heap.size wb w') ∧ w'.cell? ⟨W.heap.size, 0, none⟩ = some (.slice A1 a.res.length ac1) ∧ w'.cell? ⟨W.heap.size, 1, none⟩ = some (.slice A2 a.ins.length ac2) ∧ w'.cell? ⟨W.heap.size, 2, none⟩ = some (.slice A3 a.outs.length ac3) ∧ w'.cell? ⟨W.heap.size + 1, 0, none⟩ = some (.slice B1 b.res.length bc1) ∧ w'.cell? ⟨W.heap.size + 1, 1, none⟩ = some (.slice B2 b.ins.length bc2) ∧ w'.cell? ⟨W.heap.size + 1, 2, none⟩ = some (.slice B3 b.outs.length bc3))
    (first
      | exact HS.out _ (Below.refl _ _)
      | exact HS.out _ (below_drew1 (Below.refl _ _))
      | exact HS.out _ (below_step hq0.out hq)
      | assumption)
    (first
      | (go_at_call 61; obtain ⟨hq0, _⟩ := ‹Aside0 (Below wb.heap.size wb _) ∧ _›; have hq1 := below_step HW.out hq0.out; refine (rpairs_calls false (HA.out.below hq1).h1 (HB.out.below hq1).h1 hza HSA.out).mono ?_; rintro e w' ⟨MA, mc, rfl, hmc, hmm, hq⟩; have HMC := Aside0.mk hmm; clear hmm)
      | (go_at_call 60; obtain ⟨hq0, _⟩ := ‹Aside0 (Below wb.heap.size wb _) ∧ _›; have hq1 := below_step HW.out hq0.out; refine (reach_calls (HA.out.below hq1).h2 HA.out.l2 (HB.out.below hq1).h2 HB.out.l2 HMC.out hmc).mono ?_; rintro e w' ⟨rfl, hq⟩))
  obtain ⟨hq9, _⟩ := ‹Aside0 (Below wb.heap.size wb _) ∧ _›
  have HR : Aside0 (fitsF a b = if insF a b = 0 then outsF a b else insF a b) := ⟨rfl⟩
  have e0 : allF b.ins (pairsF (turnT false) a.res b.res) a.ins = insF a b := rfl
  rw [e0]
  clear e0
  by_cases hz : insF a b = 0
  · have HR2 := Aside0.mk (HR.out.trans (if_pos hz))
    have e1 : (insF a b == 0) = true := beq_iff_eq.mpr hz
    have e2 : (insF a b != 0) = false := bne_eq_false_iff_eq.mpr hz
    clear hz HR
    go_wp2_with fail
    clear HMC hq0 hq1 hq hmc
    go_region_held3 (fun w' => Aside0 (Below wb.heap.size wb w') ∧ w'.cell? ⟨W.heap.size, 0, none⟩ = some (.slice A1 a.res.length ac1) ∧ w'.cell? ⟨W.heap.size, 1, none⟩ = some (.slice A2 a.ins.length ac2) ∧ w'.cell? ⟨W.heap.size, 2, none⟩ = some (.slice A3 a.outs.length ac3) ∧ w'.cell? ⟨W.heap.size + 1, 0, none⟩ = some (.slice B1 b.res.length bc1) ∧ w'.cell? ⟨W.heap.size + 1, 1, none⟩ = some (.slice B2 b.ins.length bc2) ∧ w'.cell? ⟨W.heap.size + 1, 2, none⟩ = some (.slice B3 b.outs.length bc3))
      (first
        | exact HS.out _ hq9.out
        | exact HS.out _ (below_drew1 hq9.out)
        | exact HS.out _ (below_step hq0.out hq)
        | assumption)
      (first
        | (go_at_call 61; obtain ⟨hq0, _⟩ := ‹Aside0 (Below wb.heap.size wb _) ∧ _›; have hq1 := below_step HW.out hq0.out; refine (rpairs_calls false (HB.out.below hq1).h1 (HA.out.below hq1).h1 hzb HSB.out).mono ?_; rintro e w' ⟨MA, mc, rfl, hmc, hmm, hq⟩; have HMC := Aside0.mk hmm; clear hmm)
        | (go_at_call 60; obtain ⟨hq0, _⟩ := ‹Aside0 (Below wb.heap.size wb _) ∧ _›; have hq1 := below_step HW.out hq0.out; refine (reach_calls (HB.out.below hq1).h3 HB.out.l3 (HA.out.below hq1).h3 HA.out.l3 HMC.out hmc).mono ?_; rintro e w' ⟨rfl, hq⟩))
    obtain ⟨hq8, _⟩ := ‹Aside0 (Below wb.heap.size wb _) ∧ _›
    have HE := Aside0.mk (below_step HW.out hq8.out)
    go_wp2_with fail
    go_ret
    exact ⟨by rw [HR2.out]; rfl, HE.out⟩
  · have HR2 := Aside0.mk (HR.out.trans (if_neg hz))
    have e1 : (insF a b == 0) = false := beq_eq_false_iff_ne.mpr hz
    have e2 : (insF a b != 0) = true := bne_iff_ne.mpr hz
    have HE := Aside0.mk (below_step HW.out hq9.out)
    clear hz HR
    go_wp2_with fail
    go_ret
    exact ⟨by rw [HR2.out]; rfl, HE.out⟩

set_option maxHeartbeats 8000000 in
theorem rlinks_calls (a b : Con) (W : World) (A1 : Option Addr) (ac1 : Nat) (A2 : Option Addr) (ac2 : Nat) (A3 : Option Addr) (ac3 : Nat) (B1 : Option Addr) (bc1 : Nat) (B2 : Option Addr) (bc2 : Nat) (B3 : Option Addr) (bc3 : Nat)
    (ha : ConAt W a A1 ac1 A2 ac2 A3 ac3) (hb : ConAt W b B1 bc1 B2 bc2 B3 bc3) (hza : a.res.length * 16 ≤ 140737488351232) (hsa : ∀ s ∈ a.res, s.size ≤ 140737488351232) :
    Calls Try.prog 31 #[.agg #[.slice A1 a.res.length ac1, .slice A2 a.ins.length ac2, .slice A3 a.outs.length ac3], .agg #[.slice B1 b.res.length bc1, .slice B2 b.ins.length bc2, .slice B3 b.outs.length bc3]] W fun e w' => e = .returned (.int .i64 (linksF a b)) ∧ Below W.heap.size W w' := by
  have HSA := Aside0.mk hsa
  clear hsa
  have HA := Aside0.mk ha
  have HB := Aside0.mk hb
  clear ha hb
  go_enter Try.func31, Try.ntmps31
  go_wp2_with fail
  have K1 := blk_alloc (blk_new W (.cells #[.slice A1 a.res.length ac1, .slice A2 a.ins.length ac2, .slice A3 a.outs.length ac3] 40)) (.cells #[.slice B1 b.res.length bc1, .slice B2 b.ins.length bc2, .slice B3 b.outs.length bc3] 40)
  have K2 := blk_new (W.alloc (.cells #[.slice A1 a.res.length ac1, .slice A2 a.ins.length ac2, .slice A3 a.outs.length ac3] 40)) (.cells #[.slice B1 b.res.length bc1, .slice B2 b.ins.length bc2, .slice B3 b.outs.length bc3] 40)
  simp only [World.size_alloc] at K2
  have HW := Aside0.mk (below_alloc (below_alloc (Below.refl W.heap.size W) (.cells #[.slice A1 a.res.length ac1, .slice A2 a.ins.length ac2, .slice A3 a.outs.length ac3] 40)) (.cells #[.slice B1 b.res.length bc1, .slice B2 b.ins.length bc2, .slice B3 b.outs.length bc3] 40))
  generalize (W.alloc (.cells #[.slice A1 a.res.length ac1, .slice A2 a.ins.length ac2, .slice A3 a.outs.length ac3] 40)).alloc (.cells #[.slice B1 b.res.length bc1, .slice B2 b.ins.length bc2, .slice B3 b.outs.length bc3] 40) = wb at *
  have hS : ∀ w', Below wb.heap.size wb w' → Aside0 (Below wb.heap.size wb w') ∧ w'.cell? ⟨W.heap.size, 0, none⟩ = some (.slice A1 a.res.length ac1) ∧ w'.cell? ⟨W.heap.size, 1, none⟩ = some (.slice A2 a.ins.length ac2) ∧ w'.cell? ⟨W.heap.size, 2, none⟩ = some (.slice A3 a.outs.length ac3) ∧ w'.cell? ⟨W.heap.size + 1, 0, none⟩ = some (.slice B1 b.res.length bc1) ∧ w'.cell? ⟨W.heap.size + 1, 1, none⟩ = some (.slice B2 b.ins.length bc2) ∧ w'.cell? ⟨W.heap.size + 1, 2, none⟩ = some (.slice B3 b.outs.length bc3) := fun w' hq => ⟨⟨hq⟩, (blk_cell (blk_below K1 hq) 0).trans rfl, (blk_cell (blk_below K1 hq) 1).trans rfl, (blk_cell (blk_below K1 hq) 2).trans rfl, (blk_cell (blk_below K2 hq) 0).trans rfl, (blk_cell (blk_below K2 hq) 1).trans rfl, (blk_cell (blk_below K2 hq) 2).trans rfl⟩
  have HS := Aside0.mk hS
  clear hS K1 K2
  go_region_held3 (fun w' => Aside0 (Below wb.heap.size wb w') ∧ w'.cell? ⟨W.heap.size, 0, none⟩ = some (.slice A1 a.res.length ac1) ∧ w'.cell? ⟨W.heap.size, 1, none⟩ = some (.slice A2 a.ins.length ac2) ∧ w'.cell? ⟨W.heap.size, 2, none⟩ = some (.slice A3 a.outs.length ac3) ∧ w'.cell? ⟨W.heap.size + 1, 0, none⟩ = some (.slice B1 b.res.length bc1) ∧ w'.cell? ⟨W.heap.size + 1, 1, none⟩ = some (.slice B2 b.ins.length bc2) ∧ w'.cell? ⟨W.heap.size + 1, 2, none⟩ = some (.slice B3 b.outs.length bc3))
    (first
      | exact HS.out _ (Below.refl _ _)
      | exact HS.out _ (below_drew1 (Below.refl _ _))
      | exact HS.out _ (below_step hq0.out hq)
      | assumption)
    (first
      | (go_at_call 61; obtain ⟨hq0, _⟩ := ‹Aside0 (Below wb.heap.size wb _) ∧ _›; have hq1 := below_step HW.out hq0.out; refine (rpairs_calls true (HA.out.below hq1).h1 (HB.out.below hq1).h1 hza HSA.out).mono ?_; rintro e w' ⟨MA, mc, rfl, hmc, hmm, hq⟩; have HMC := Aside0.mk hmm; clear hmm)
      | (go_at_call 60; obtain ⟨hq0, _⟩ := ‹Aside0 (Below wb.heap.size wb _) ∧ _›; have hq1 := below_step HW.out hq0.out; refine (reach_calls (HA.out.below hq1).h2 HA.out.l2 (HB.out.below hq1).h3 HB.out.l3 HMC.out hmc).mono ?_; rintro e w' ⟨rfl, hq⟩))
  obtain ⟨hq9, _⟩ := ‹Aside0 (Below wb.heap.size wb _) ∧ _›
  have HE := Aside0.mk (below_step HW.out hq9.out)
  go_wp2_with fail
  go_ret
  exact ⟨rfl, HE.out⟩
end Go.Proofs.Ytmpmcffhlnlejaa.SubEq
