/- A part of the proof of the law that its last file names: texts of this seat's author and of the kit's printer, cut to what the theorem uses. Part 18: Mk11. -/
import Derived.Test.YtmpmcffhlnlejaaCs17
import Derived.Deep.RegionLaw
import Derived.Deep.DeepCutAuto
import Derived.Deep.RegionHeldLaw
import Derived.BigQuiet
import Derived.ProofKit
import Derived.ChangeArms
import Derived.SizedLaws
section
namespace Go.Proofs.Ytmpmcffhlnlejaa.Mkr
open Go.RowKit Go.Proofs.YtmpmcffhlnlejaaW.PrintWords Go.Proofs.YtmpmcffhlnlejaaW.PrintLast Go.Proofs.YtmpmcffhlnlejaaW.PrintMore
open Go.Proofs.Ytmpmcffhlnlejaa.PSubSelf Go.Proofs.Ytmpmcffhlnlejaa.Wld
set_option linter.unusedVariables false
set_option linter.unusedSimpArgs false
def SigOk (h : Hd) (p : Nat) (vi vo : Value) (w : World) (v : Value) (E : Int) (res : List ByteArray) (r : Ending) (w' : World) : Prop :=
  ∃ (v' : Value) (E' : Int) (res' : List ByteArray) (x : PSubFits.S27) (A1 : Option Addr) (c1 : Nat) (A2 : Option Addr) (c2 : Nat) (A4 : Option Addr) (c4 : Nat) (A5 : Option Addr) (c5 : Nat), r = .returned (.agg (s27C x A1 c1 A2 c2 A4 c4 A5 c5)) ∧
    Nx h p vi vo 0 w v E res w' v' E' res' ∧ SV p w' w.heap.size v' x (.slice A1 x.f1.length c1) (.slice A2 x.f2.length c2) (.slice A4 x.f3.f1.length c4) (.slice A5 x.f3.f2.length c5) ∧ (E' = 0 → GoodS res'.length x)
set_option maxHeartbeats 16000000 in
set_option maxRecDepth 100000 in
theorem sig_any {h : Hd} (ok : h.Ok) {p : Nat} {w : World} {v vi vo : Value} {E : Int} {res : List ByteArray} (m : ∃ sz, Mk h p w v vi vo 0 sz E res)
    (key : ByteArray) (at_ : Nat) (us : List S151) (U : Option Addr) (cU : Nat) (ds : List S154) (D : Option Addr) (cD : Nat) (out : Bool) (sc : Scp h key at_ us U ds D)
    (f : S146) (A2 : Option Addr) (c2 : Nat) (A3 : Option Addr) (c3 : Nat) (A5 : Option Addr) (c5 : Nat) (A6 : Option Addr) (c6 : Nat) (fa : FA h.W0 f A2 c2 A3 c3 A5 c5 A6 c6) (wf : WfF f)
    (of_ : ByteArray) (hos : of_.size ≤ 100) (hof : (f.f1 = 1 ∨ f.f1 = 3) → ((∃ d ∈ ds, d.f1 = of_) ∨ of_ = ⟨#[]⟩)) :
    Calls Try.prog 92 #[.pointer (some ⟨p, 0, none⟩), scV key at_ us U cU ds D cD out, .agg (fnC f A2 c2 A3 c3 A5 c5 A6 c6), .string of_] w (SigOk h p vi vo w v E res) := by
  have M := Aside0.mk m
  have OK := Aside0.mk ok
  have SC := Aside0.mk sc
  have FAA := Aside0.mk fa
  have WF := Aside0.mk wf
  have HOS := Aside0.mk hos
  have HOF := Aside0.mk hof
  have hks := sc.ks
  have hnm := wf.nm
  have hpl := wf.pl
  clear m ok sc fa wf hof
  unfold scV fnC
  obtain ⟨sz, m0⟩ := M.out
  have HN0 : Aside0 (Nx h p vi vo 0 w v E res (((w.alloc (.cells #[.string key, .int .i64 (at_ : Int), .slice U us.length cU, .slice D ds.length cD, .bool out] 160)).alloc (.cells #[.string f.f0, .int .i64 f.f1, .slice A2 f.f2.length c2, .slice A3 f.f3.length c3, .int .i64 f.f4.f0, .slice A5 f.f4.f1.length c5, .slice A6 f.f4.f2.length c6, .int .i64 f.f4.f3] 146)).alloc (.cells #[.string ⟨#[]⟩, .slice none 0 0, .slice none 0 0, .int .i64 0, .slice none 0 0, .slice none 0 0, .int .i64 0] 27)) v E res) := ⟨(Nx.refl m0).below (below_alloc (below_alloc (below_alloc (Below.refl _ _) _) _) _)⟩
  obtain ⟨sz1, m1⟩ := HN0.out.m1
  have z11 := m1.z11
  have f11 := m1.fz 11
  have HM1 := Aside0.mk m1
  clear m0 m1
  go_enter Try.func92, Try.ntmps92
  go_upto_region 3 with fail
  clear z11 f11
  have hlp : p < w.heap.size := by obtain ⟨sz, m⟩ := M.out; exact m.lt
  obtain ⟨wa, hwa⟩ : ∃ wa : World, wa = (((((w.alloc (.cells #[.string key, .int .i64 (at_ : Int), .slice U us.length cU, .slice D ds.length cD, .bool out] 160)).alloc (.cells #[.string f.f0, .int .i64 f.f1, .slice A2 f.f2.length c2, .slice A3 f.f3.length c3, .int .i64 f.f4.f0, .slice A5 f.f4.f1.length c5, .slice A6 f.f4.f2.length c6, .int .i64 f.f4.f3] 146)).alloc (.cells #[.string ⟨#[]⟩, .slice none 0 0, .slice none 0 0, .int .i64 0, .slice none 0 0, .slice none 0 0, .int .i64 0] 27)).setCell ⟨p, 11, none⟩ (.int .i64 0)).alloc (.cells #[.string f.f0, .slice none 0 0, .slice none 0 0, .int .i64 0, .slice none 0 0, .slice none 0 0, .int .i64 0] 27)) := ⟨_, rfl⟩
  have SA : Aside0 (SG h p vi vo w v E res w.heap.size (w.heap.size + 1) (w.heap.size + 1 + 1) (w.heap.size + 1 + 1 + 1) #[.string key, .int .i64 (at_ : Int), .slice U us.length cU, .slice D ds.length cD, .bool out] #[.string f.f0, .int .i64 f.f1, .slice A2 f.f2.length c2, .slice A3 f.f3.length c3, .int .i64 f.f4.f0, .slice A5 f.f4.f1.length c5, .slice A6 f.f4.f2.length c6, .int .i64 f.f4.f3] 0 0 wa v E res f.f0 [] none 0 [] none 0 0 0) := by
    have hs := HM1.out.set_size 0
    have hN : Nx h p vi vo 0 w v E res wa v E res := by
      rw [hwa]
      exact (Nx.trans HN0.out ⟨⟨_, HM1.out⟩, ⟨_, hs.1⟩, hs.2, Nat.le_refl _, id⟩).below (below_alloc (Below.refl _ _) _)
    refine ⟨⟨hN, ?_, ?_, ?_, ?_, ?_, Kd.R_nil _ _ _ _ _, Kd.R_nil _ _ _ _ _, fun _ => ⟨fun y hy => (by cases hy), fun hk => (by rcases hk with hk | hk <;> cases hk)⟩, Nat.le_refl _, Nat.le_refl _, by omega, by omega⟩⟩
    · rw [hwa]; exact blk_alloc (blk_far (blk_alloc (blk_alloc (blk_new w _) _) _) (by show _ ≠ p; omega) _) _
    · rw [hwa]; refine blk_alloc (blk_far (blk_alloc ?_ _) (by show _ ≠ p; omega) _) _; have := blk_new (w.alloc (.cells #[.string key, .int .i64 (at_ : Int), .slice U us.length cU, .slice D ds.length cD, .bool out] 160)) (.cells #[.string f.f0, .int .i64 f.f1, .slice A2 f.f2.length c2, .slice A3 f.f3.length c3, .int .i64 f.f4.f0, .slice A5 f.f4.f1.length c5, .slice A6 f.f4.f2.length c6, .int .i64 f.f4.f3] 146); simp only [World.size_alloc] at this; exact this
    · rw [hwa]; refine blk_alloc (blk_far ?_ (by show _ ≠ p; omega) _) _; have := blk_new ((w.alloc (.cells #[.string key, .int .i64 (at_ : Int), .slice U us.length cU, .slice D ds.length cD, .bool out] 160)).alloc (.cells #[.string f.f0, .int .i64 f.f1, .slice A2 f.f2.length c2, .slice A3 f.f3.length c3, .int .i64 f.f4.f0, .slice A5 f.f4.f1.length c5, .slice A6 f.f4.f2.length c6, .int .i64 f.f4.f3] 146)) (.cells #[.string ⟨#[]⟩, .slice none 0 0, .slice none 0 0, .int .i64 0, .slice none 0 0, .slice none 0 0, .int .i64 0] 27); simp only [World.size_alloc] at this; exact this
    · rw [hwa]; have := blk_new ((((w.alloc (.cells #[.string key, .int .i64 (at_ : Int), .slice U us.length cU, .slice D ds.length cD, .bool out] 160)).alloc (.cells #[.string f.f0, .int .i64 f.f1, .slice A2 f.f2.length c2, .slice A3 f.f3.length c3, .int .i64 f.f4.f0, .slice A5 f.f4.f1.length c5, .slice A6 f.f4.f2.length c6, .int .i64 f.f4.f3] 146)).alloc (.cells #[.string ⟨#[]⟩, .slice none 0 0, .slice none 0 0, .int .i64 0, .slice none 0 0, .slice none 0 0, .int .i64 0] 27)).setCell ⟨p, 11, none⟩ (.int .i64 0)) (.cells #[.string f.f0, .slice none 0 0, .slice none 0 0, .int .i64 0, .slice none 0 0, .slice none 0 0, .int .i64 0] 27); simp only [World.size_setCell, World.size_alloc] at this; exact this
    · omega
  rw [← hwa]
  clear hwa hlp HN0 HM1
  have HG8 : Aside0 (w.heap.size ≤ w.heap.size + 1 + 1) := ⟨by omega⟩
  generalize w.heap.size + 1 + 1 + 1 = g9 at *
  generalize w.heap.size + 1 + 1 = g8 at *
  generalize w.heap.size + 1 = g6 at *
  generalize w.heap.size = g5 at SA ⊢
  have HNM : Aside0 (f.f0.size ≤ 100) := ⟨hnm⟩
  have q1 : wa.cell? ⟨g6, 1, none⟩ = some (.int .i64 f.f1) := (blk_cell SA.out.k6 1).trans rfl
  go_upto_if 19 with fail
  clear q1
  go_cut [] (fun wx => ∃ (v1 : Value) (E1 : Int) (res1 : List ByteArray) (nm : ByteArray) (P : List ByteArray) (AP : Option Addr) (cP : Nat) (T : List PSubFits.S25) (AT : Option Addr) (cT : Nat) (rk rr : Int), nm.size ≤ 300 ∧ Aside0 (SG h p vi vo w v E res g5 g6 g8 g9 #[.string key, .int .i64 (at_ : Int), .slice U us.length cU, .slice D ds.length cD, .bool out] #[.string f.f0, .int .i64 f.f1, .slice A2 f.f2.length c2, .slice A3 f.f3.length c3, .int .i64 f.f4.f0, .slice A5 f.f4.f1.length c5, .slice A6 f.f4.f2.length c6, .int .i64 f.f4.f3] 1 1 wx v1 E1 res1 nm P AP cP T AT cT rk rr))
  case first =>
    by_cases h1 : f.f1 = 1
    · have s1 : (9223372036854775807 < 8 + of_.size) = False := eq_false (by omega)
      have s2 : (9223372036854775807 < 8 + of_.size + 1) = False := eq_false (by omega)
      have s3 : (9223372036854775807 < 8 + of_.size + 1 + f.f0.size) = False := eq_false (by omega)
      have e1 : decide (f.f1 = 1) = true := decide_eq_true h1
      have d1 : (f.f1 == 1) = true := beq_iff_eq.mpr h1
      have H1 := Aside0.mk h1
      clear h1
      have q0 : wa.cell? ⟨g6, 0, none⟩ = some (.string f.f0) := (blk_cell SA.out.k6 0).trans rfl
      have q1 : wa.cell? ⟨g6, 1, none⟩ = some (.int .i64 f.f1) := (blk_cell SA.out.k6 1).trans rfl
      have q2 : wa.cell? ⟨g6, 2, none⟩ = some (.slice A2 f.f2.length c2) := (blk_cell SA.out.k6 2).trans rfl
      have q3 : wa.cell? ⟨g6, 3, none⟩ = some (.slice A3 f.f3.length c3) := (blk_cell SA.out.k6 3).trans rfl
      have q4 : wa.cell? ⟨g6, 4, none⟩ = some (.int .i64 f.f4.f0) := (blk_cell SA.out.k6 4).trans rfl
      have q5 : wa.cell? ⟨g6, 5, none⟩ = some (.slice A5 f.f4.f1.length c5) := (blk_cell SA.out.k6 5).trans rfl
      have q6 : wa.cell? ⟨g6, 6, none⟩ = some (.slice A6 f.f4.f2.length c6) := (blk_cell SA.out.k6 6).trans rfl
      have q7 : wa.cell? ⟨g6, 7, none⟩ = some (.int .i64 f.f4.f3) := (blk_cell SA.out.k6 7).trans rfl
      have x0 : wa.cell? ⟨g9, 0, none⟩ = some (.string f.f0) := (blk_cell SA.out.k9 0).trans rfl
      have x1 : wa.cell? ⟨g9, 1, none⟩ = some (.slice none 0 0) := (blk_cell SA.out.k9 1).trans rfl
      have x2 : wa.cell? ⟨g9, 2, none⟩ = some (.slice none 0 0) := (blk_cell SA.out.k9 2).trans rfl
      have x3 : wa.cell? ⟨g9, 3, none⟩ = some (.int .i64 0) := (blk_cell SA.out.k9 3).trans rfl
      have x4 : wa.cell? ⟨g9, 4, none⟩ = some (.slice none 0 0) := (blk_cell SA.out.k9 4).trans rfl
      have x5 : wa.cell? ⟨g9, 5, none⟩ = some (.slice none 0 0) := (blk_cell SA.out.k9 5).trans rfl
      have x6 : wa.cell? ⟨g9, 6, none⟩ = some (.int .i64 0) := (blk_cell SA.out.k9 6).trans rfl
      have xf0 : wa.frozen? ⟨g9, 0, none⟩ = false := blk_frozen SA.out.k9 0
      have xf1 : wa.frozen? ⟨g9, 1, none⟩ = false := blk_frozen SA.out.k9 1
      have xf2 : wa.frozen? ⟨g9, 2, none⟩ = false := blk_frozen SA.out.k9 2
      have xf3 : wa.frozen? ⟨g9, 3, none⟩ = false := blk_frozen SA.out.k9 3
      have xf4 : wa.frozen? ⟨g9, 4, none⟩ = false := blk_frozen SA.out.k9 4
      have xf5 : wa.frozen? ⟨g9, 5, none⟩ = false := blk_frozen SA.out.k9 5
      have xf6 : wa.frozen? ⟨g9, 6, none⟩ = false := blk_frozen SA.out.k9 6
      go_upto_region 5 with fail
      clear s1 s2 s3 e1 d1 q0 q1 q2 q3 q4 q5 q6 q7 x0 x1 x2 x3 x4 x5 x6 xf0 xf1 xf2 xf3 xf4 xf5 xf6
      have HT1 : Aside0 (((⟨#[91, 109, 101, 116, 104, 111, 100, 93]⟩ : ByteArray) ++ of_ ++ (⟨#[46]⟩ : ByteArray) ++ f.f0).size ≤ 300) := ⟨by simp only [ByteArray.size_append]; show 8 + of_.size + 1 + f.f0.size ≤ 300; omega⟩
      have SB := Aside0.mk (SA.out.name ((⟨#[91, 109, 101, 116, 104, 111, 100, 93]⟩ : ByteArray) ++ of_ ++ (⟨#[46]⟩ : ByteArray) ++ f.f0) (by have := HT1.out; omega))
      generalize (⟨#[91, 109, 101, 116, 104, 111, 100, 93]⟩ : ByteArray) ++ of_ ++ (⟨#[46]⟩ : ByteArray) ++ f.f0 = nm at *
      obtain ⟨wb, hwb⟩ : ∃ wb : World, wb = wa.setCell ⟨g9, 0, none⟩ (.string nm) := ⟨_, rfl⟩
      rw [← hwb] at SB ⊢
      clear hwb
      have x0 : wb.cell? ⟨g9, 0, none⟩ = some (.string nm) := (blk_cell SB.out.k9 0).trans rfl
      have x1 : wb.cell? ⟨g9, 1, none⟩ = some (.slice none 0 0) := (blk_cell SB.out.k9 1).trans rfl
      have x2 : wb.cell? ⟨g9, 2, none⟩ = some (.slice none 0 0) := (blk_cell SB.out.k9 2).trans rfl
      have x3 : wb.cell? ⟨g9, 3, none⟩ = some (.int .i64 0) := (blk_cell SB.out.k9 3).trans rfl
      have x4 : wb.cell? ⟨g9, 4, none⟩ = some (.slice none 0 0) := (blk_cell SB.out.k9 4).trans rfl
      have x5 : wb.cell? ⟨g9, 5, none⟩ = some (.slice none 0 0) := (blk_cell SB.out.k9 5).trans rfl
      have x6 : wb.cell? ⟨g9, 6, none⟩ = some (.int .i64 0) := (blk_cell SB.out.k9 6).trans rfl
      have xf0 : wb.frozen? ⟨g9, 0, none⟩ = false := blk_frozen SB.out.k9 0
      have xf1 : wb.frozen? ⟨g9, 1, none⟩ = false := blk_frozen SB.out.k9 1
      have xf2 : wb.frozen? ⟨g9, 2, none⟩ = false := blk_frozen SB.out.k9 2
      have xf3 : wb.frozen? ⟨g9, 3, none⟩ = false := blk_frozen SB.out.k9 3
      have xf4 : wb.frozen? ⟨g9, 4, none⟩ = false := blk_frozen SB.out.k9 4
      have xf5 : wb.frozen? ⟨g9, 5, none⟩ = false := blk_frozen SB.out.k9 5
      have xf6 : wb.frozen? ⟨g9, 6, none⟩ = false := blk_frozen SB.out.k9 6
      have HF := Aside0.mk SB.out.fr
      have HLT := Aside0.mk SB.out.lt
      go_wp2_with (at_builtin; refine Kd.R_append Kd.string (w0 := wb) (g9 + 1) rfl (.tmp 28) (.tmp 29) 22 9 (.string ⟨#[]⟩) 16 rfl Try.underlying22 info9 rfl (by decide) (by decide) (.slice none 0 0) [] (⟨#[115, 101, 108, 102]⟩ : ByteArray) [.string (⟨#[115, 101, 108, 102]⟩ : ByteArray)] (fun k => k ≠ p ∧ some k ≠ v.ownBlock) (fun _ => False) rfl rfl rfl (fun _ hf => hf.elim) HF.out.1 SB.out.rp (Below.refl _ _) HLT.out.2.1 (by simp) ?_)
      intro v1 w1 r1 r2 r3 r4
      obtain ⟨AM, cM, hv1, _⟩ := Kd.R_reads r1
      replace hv1 : v1 = .slice AM 1 cM := hv1
      subst hv1
      have SC2 : Aside0 (SG h p vi vo w v E res g5 g6 g8 g9 #[.string key, .int .i64 (at_ : Int), .slice U us.length cU, .slice D ds.length cD, .bool out] #[.string f.f0, .int .i64 f.f1, .slice A2 f.f2.length c2, .slice A3 f.f3.length c3, .int .i64 f.f4.f0, .slice A5 f.f4.f1.length c5, .slice A6 f.f4.f2.length c6, .int .i64 f.f4.f3] 1 0 (w1.setCell ⟨g9, 1, none⟩ (.slice AM 1 cM)) v E res nm [(⟨#[115, 101, 108, 102]⟩ : ByteArray)] AM cM [] none 0 0 0) := ⟨SB.out.appP r1 r3 r4⟩
      have k9 := blk_grown SB.out.k9 r3 (Kd.R_ne SB.out.rp SB.out.k9 (by decide))
      have g1 : w1.cell? ⟨g9, 1, none⟩ = some (.slice none 0 0) := (blk_cell k9 1).trans rfl
      have gf1 : w1.frozen? ⟨g9, 1, none⟩ = false := blk_frozen k9 1
      clear r1 r2 r3 r4 k9 x0 x1 x2 x3 x4 x5 x6 xf0 xf1 xf2 xf3 xf4 xf5 xf6 HF HLT
      go_wp2_with fail
      clear g1 gf1
      obtain ⟨wc2, hwc⟩ : ∃ wc2 : World, wc2 = w1.setCell ⟨g9, 1, none⟩ (.slice AM 1 cM) := ⟨_, rfl⟩
      rw [← hwc] at SC2 ⊢
      clear hwc
      have SCd := Aside0.mk (SC2.out.below (below_drew1 (Below.refl _ _)))
      have xd2 : wc2.drew.cell? ⟨g9, 2, none⟩ = some (.slice none 0 0) := (blk_cell SCd.out.k9 2).trans rfl
      have b0 : wc2.drew.cell? ⟨g5, 0, none⟩ = some (.string key) := (blk_cell SCd.out.k5 0).trans rfl
      have b1 : wc2.drew.cell? ⟨g5, 1, none⟩ = some (.int .i64 (at_ : Int)) := (blk_cell SCd.out.k5 1).trans rfl
      have b2 : wc2.drew.cell? ⟨g5, 2, none⟩ = some (.slice U us.length cU) := (blk_cell SCd.out.k5 2).trans rfl
      have b3 : wc2.drew.cell? ⟨g5, 3, none⟩ = some (.slice D ds.length cD) := (blk_cell SCd.out.k5 3).trans rfl
      have b4 : wc2.drew.cell? ⟨g5, 4, none⟩ = some (.bool out) := (blk_cell SCd.out.k5 4).trans rfl
      go_region_law
        (first
          | (refine Kd.R_append_step PSubFits.k25 (w0 := w3) (g9 + 1) rfl (.tmp 33) (.tmp 39) 23 25 (.agg #[.int .i64 0, .slice none 0 0, .slice none 0 0, .int .i64 0]) 64 rfl Try.underlying23 info25 rfl (by decide) (by decide) (.slice none 0 0) [] ⟨21, [], [], (i : Int)⟩ [.int .i64 21, .slice none 0 0, .slice none 0 0, .int .i64 (i : Int)] (fun k => (k ≠ p ∧ some k ≠ v3.ownBlock) ∧ some k ≠ (Value.slice AM 1 cM).ownBlock) (fun _ => False) rfl rfl (PSubFits.k25_mkM _ _ _ ⟨21, [], [], (i : Int)⟩ (Kd.R_nil _ _ _ _ _) (Kd.R_nil _ _ _ _ _)) (fun _ hf => hf.elim) SC3.out.fr.2 SC3.out.rt (Below.refl _ _) SC3.out.lt.2.1 (by simp) ?_; intro v4 w4 r1 r2 r3 r4; obtain ⟨AN, cN, hv4, _⟩ := Kd.R_reads r1; replace hv4 : v4 = .slice AN 1 cN := hv4; subst hv4; have K5g := Aside0.mk (blk_grown SC3.out.k5 r3 (Kd.R_ne SC3.out.rt SC3.out.k5 (by decide))); have k9 := blk_grown SC3.out.k9 r3 (Kd.R_ne SC3.out.rt SC3.out.k9 (by decide)); have g2 : w4.cell? ⟨g9, 2, none⟩ = some (.slice none 0 0) := (blk_cell k9 2).trans rfl; have gf2 : w4.frozen? ⟨g9, 2, none⟩ = false := blk_frozen k9 2; have SC4 : Aside0 (SG h p vi vo w v E res g5 g6 g8 g9 #[.string key, .int .i64 (at_ : Int), .slice U us.length cU, .slice D ds.length cD, .bool out] #[.string f.f0, .int .i64 f.f1, .slice A2 f.f2.length c2, .slice A3 f.f3.length c3, .int .i64 f.f4.f0, .slice A5 f.f4.f1.length c5, .slice A6 f.f4.f2.length c6, .int .i64 f.f4.f3] 1 1 (w4.setCell ⟨g9, 2, none⟩ (.slice AN 1 cN)) v3 E res3 nm [(⟨#[115, 101, 108, 102]⟩ : ByteArray)] AM cM [⟨21, [], [], (i : Int)⟩] AN cN 0 0) := ⟨SC3.out.appT (y := ⟨21, [], [], (i : Int)⟩) (fun _ => .mk (fun _ => ⟨(show (0 : Int) ≤ (i : Int) by omega), (show (i : Int) < (res3.length : Int) by have := HI.out; omega)⟩) (fun z hz => by cases hz)) r1 r3⟩; clear r1 r2 r3 r4 k9)
          | (go_simp; go_at_call 103; refine (resource_none OK.out SCd.out.nx.m1 cU cD out SC.out HOS.out (HOF.out (.inl H1.out))).mono ?_; rintro e w3 ⟨v3, res3, i, rfl, hi, hn⟩; have HI := Aside0.mk hi; have SC3 := Aside0.mk (SCd.out.go hn); have x32 : w3.cell? ⟨g9, 2, none⟩ = some (.slice none 0 0) := (blk_cell SC3.out.k9 2).trans rfl; have x33 : (w3.alloc (.cells #[.int .i64 21, .slice none 0 0, .slice none 0 0, .int .i64 (i : Int)] 25)).cell? ⟨g9, 2, none⟩ = some (.slice none 0 0) := (blk_cell (blk_alloc SC3.out.k9 _) 2).trans rfl; clear hi hn))
      all_goals
        go_wp2_with fail
        go_meet
        exact ⟨v3, E, res3, nm, _, AM, cM, _, AN, cN, 0, 0, HT1.out, SC4⟩
    by_cases h2 : f.f1 = 2
    · have s1 : (9223372036854775807 < 8 + of_.size) = False := eq_false (by omega)
      have s2 : (9223372036854775807 < 8 + of_.size + 1) = False := eq_false (by omega)
      have s3 : (9223372036854775807 < 8 + of_.size + 1 + f.f0.size) = False := eq_false (by omega)
      have e1 : decide (f.f1 = 1) = false := decide_eq_false h1
      have d1 : (f.f1 == 1) = false := beq_eq_false_iff_ne.mpr h1
      have e2 : decide (f.f1 = 2) = true := decide_eq_true h2
      have d2 : (f.f1 == 2) = true := beq_iff_eq.mpr h2
      clear h1 h2
      have q0 : wa.cell? ⟨g6, 0, none⟩ = some (.string f.f0) := (blk_cell SA.out.k6 0).trans rfl
      have q1 : wa.cell? ⟨g6, 1, none⟩ = some (.int .i64 f.f1) := (blk_cell SA.out.k6 1).trans rfl
      have q2 : wa.cell? ⟨g6, 2, none⟩ = some (.slice A2 f.f2.length c2) := (blk_cell SA.out.k6 2).trans rfl
      have q3 : wa.cell? ⟨g6, 3, none⟩ = some (.slice A3 f.f3.length c3) := (blk_cell SA.out.k6 3).trans rfl
      have q4 : wa.cell? ⟨g6, 4, none⟩ = some (.int .i64 f.f4.f0) := (blk_cell SA.out.k6 4).trans rfl
      have q5 : wa.cell? ⟨g6, 5, none⟩ = some (.slice A5 f.f4.f1.length c5) := (blk_cell SA.out.k6 5).trans rfl
      have q6 : wa.cell? ⟨g6, 6, none⟩ = some (.slice A6 f.f4.f2.length c6) := (blk_cell SA.out.k6 6).trans rfl
      have q7 : wa.cell? ⟨g6, 7, none⟩ = some (.int .i64 f.f4.f3) := (blk_cell SA.out.k6 7).trans rfl
      have x0 : wa.cell? ⟨g9, 0, none⟩ = some (.string f.f0) := (blk_cell SA.out.k9 0).trans rfl
      have x1 : wa.cell? ⟨g9, 1, none⟩ = some (.slice none 0 0) := (blk_cell SA.out.k9 1).trans rfl
      have x2 : wa.cell? ⟨g9, 2, none⟩ = some (.slice none 0 0) := (blk_cell SA.out.k9 2).trans rfl
      have x3 : wa.cell? ⟨g9, 3, none⟩ = some (.int .i64 0) := (blk_cell SA.out.k9 3).trans rfl
      have x4 : wa.cell? ⟨g9, 4, none⟩ = some (.slice none 0 0) := (blk_cell SA.out.k9 4).trans rfl
      have x5 : wa.cell? ⟨g9, 5, none⟩ = some (.slice none 0 0) := (blk_cell SA.out.k9 5).trans rfl
      have x6 : wa.cell? ⟨g9, 6, none⟩ = some (.int .i64 0) := (blk_cell SA.out.k9 6).trans rfl
      have xf0 : wa.frozen? ⟨g9, 0, none⟩ = false := blk_frozen SA.out.k9 0
      have xf1 : wa.frozen? ⟨g9, 1, none⟩ = false := blk_frozen SA.out.k9 1
      have xf2 : wa.frozen? ⟨g9, 2, none⟩ = false := blk_frozen SA.out.k9 2
      have xf3 : wa.frozen? ⟨g9, 3, none⟩ = false := blk_frozen SA.out.k9 3
      have xf4 : wa.frozen? ⟨g9, 4, none⟩ = false := blk_frozen SA.out.k9 4
      have xf5 : wa.frozen? ⟨g9, 5, none⟩ = false := blk_frozen SA.out.k9 5
      have xf6 : wa.frozen? ⟨g9, 6, none⟩ = false := blk_frozen SA.out.k9 6
      go_wp2_with fail
      have HT1 : ((⟨#[91, 115, 116, 97, 116, 105, 99, 93]⟩ : ByteArray) ++ of_ ++ (⟨#[46]⟩ : ByteArray) ++ f.f0).size ≤ 300 := by simp only [ByteArray.size_append]; show 8 + of_.size + 1 + f.f0.size ≤ 300; omega
      go_meet
      exact ⟨v, E, res, _, _, _, _, _, _, _, _, _, HT1, ⟨(SA.out.name ((⟨#[91, 115, 116, 97, 116, 105, 99, 93]⟩ : ByteArray) ++ of_ ++ (⟨#[46]⟩ : ByteArray) ++ f.f0) (by omega)).le (by omega) (by omega)⟩⟩
    by_cases h3 : f.f1 = 3
    · have s1 : (9223372036854775807 < 13 + of_.size) = False := eq_false (by omega)
      have e1 : decide (f.f1 = 1) = false := decide_eq_false h1
      have d1 : (f.f1 == 1) = false := beq_eq_false_iff_ne.mpr h1
      have e2 : decide (f.f1 = 2) = false := decide_eq_false h2
      have d2 : (f.f1 == 2) = false := beq_eq_false_iff_ne.mpr h2
      have e3 : decide (f.f1 = 3) = true := decide_eq_true h3
      have d3 : (f.f1 == 3) = true := beq_iff_eq.mpr h3
      have H3 := Aside0.mk h3
      clear h1 h2 h3
      have q0 : wa.cell? ⟨g6, 0, none⟩ = some (.string f.f0) := (blk_cell SA.out.k6 0).trans rfl
      have q1 : wa.cell? ⟨g6, 1, none⟩ = some (.int .i64 f.f1) := (blk_cell SA.out.k6 1).trans rfl
      have q2 : wa.cell? ⟨g6, 2, none⟩ = some (.slice A2 f.f2.length c2) := (blk_cell SA.out.k6 2).trans rfl
      have q3 : wa.cell? ⟨g6, 3, none⟩ = some (.slice A3 f.f3.length c3) := (blk_cell SA.out.k6 3).trans rfl
      have q4 : wa.cell? ⟨g6, 4, none⟩ = some (.int .i64 f.f4.f0) := (blk_cell SA.out.k6 4).trans rfl
      have q5 : wa.cell? ⟨g6, 5, none⟩ = some (.slice A5 f.f4.f1.length c5) := (blk_cell SA.out.k6 5).trans rfl
      have q6 : wa.cell? ⟨g6, 6, none⟩ = some (.slice A6 f.f4.f2.length c6) := (blk_cell SA.out.k6 6).trans rfl
      have q7 : wa.cell? ⟨g6, 7, none⟩ = some (.int .i64 f.f4.f3) := (blk_cell SA.out.k6 7).trans rfl
      have x0 : wa.cell? ⟨g9, 0, none⟩ = some (.string f.f0) := (blk_cell SA.out.k9 0).trans rfl
      have x1 : wa.cell? ⟨g9, 1, none⟩ = some (.slice none 0 0) := (blk_cell SA.out.k9 1).trans rfl
      have x2 : wa.cell? ⟨g9, 2, none⟩ = some (.slice none 0 0) := (blk_cell SA.out.k9 2).trans rfl
      have x3 : wa.cell? ⟨g9, 3, none⟩ = some (.int .i64 0) := (blk_cell SA.out.k9 3).trans rfl
      have x4 : wa.cell? ⟨g9, 4, none⟩ = some (.slice none 0 0) := (blk_cell SA.out.k9 4).trans rfl
      have x5 : wa.cell? ⟨g9, 5, none⟩ = some (.slice none 0 0) := (blk_cell SA.out.k9 5).trans rfl
      have x6 : wa.cell? ⟨g9, 6, none⟩ = some (.int .i64 0) := (blk_cell SA.out.k9 6).trans rfl
      have xf0 : wa.frozen? ⟨g9, 0, none⟩ = false := blk_frozen SA.out.k9 0
      have xf1 : wa.frozen? ⟨g9, 1, none⟩ = false := blk_frozen SA.out.k9 1
      have xf2 : wa.frozen? ⟨g9, 2, none⟩ = false := blk_frozen SA.out.k9 2
      have xf3 : wa.frozen? ⟨g9, 3, none⟩ = false := blk_frozen SA.out.k9 3
      have xf4 : wa.frozen? ⟨g9, 4, none⟩ = false := blk_frozen SA.out.k9 4
      have xf5 : wa.frozen? ⟨g9, 5, none⟩ = false := blk_frozen SA.out.k9 5
      have xf6 : wa.frozen? ⟨g9, 6, none⟩ = false := blk_frozen SA.out.k9 6
      have b0 : wa.cell? ⟨g5, 0, none⟩ = some (.string key) := (blk_cell SA.out.k5 0).trans rfl
      have b1 : wa.cell? ⟨g5, 1, none⟩ = some (.int .i64 (at_ : Int)) := (blk_cell SA.out.k5 1).trans rfl
      have b2 : wa.cell? ⟨g5, 2, none⟩ = some (.slice U us.length cU) := (blk_cell SA.out.k5 2).trans rfl
      have b3 : wa.cell? ⟨g5, 3, none⟩ = some (.slice D ds.length cD) := (blk_cell SA.out.k5 3).trans rfl
      have b4 : wa.cell? ⟨g5, 4, none⟩ = some (.bool out) := (blk_cell SA.out.k5 4).trans rfl
      have HT1 : Aside0 (((⟨#[91, 99, 111, 110, 115, 116, 114, 117, 99, 116, 111, 114, 93]⟩ : ByteArray) ++ of_).size ≤ 300) := ⟨by simp only [ByteArray.size_append]; show 13 + of_.size ≤ 300; omega⟩
      have SB := Aside0.mk (SA.out.name ((⟨#[91, 99, 111, 110, 115, 116, 114, 117, 99, 116, 111, 114, 93]⟩ : ByteArray) ++ of_) (by have := HT1.out; omega))
      go_upto_region 11 with fail
      clear s1 e1 d1 e2 d2 e3 d3 q0 q1 q2 q3 q4 q5 q6 q7 x0 x1 x2 x3 x4 x5 x6 xf0 xf1 xf2 xf3 xf4 xf5 xf6 b0 b1 b2 b3 b4
      generalize (⟨#[91, 99, 111, 110, 115, 116, 114, 117, 99, 116, 111, 114, 93]⟩ : ByteArray) ++ of_ = nm at *
      obtain ⟨wb, hwb⟩ : ∃ wb : World, wb = wa.setCell ⟨g9, 0, none⟩ (.string nm) := ⟨_, rfl⟩
      rw [← hwb] at SB ⊢
      clear hwb
      have b0 : wb.cell? ⟨g5, 0, none⟩ = some (.string key) := (blk_cell SB.out.k5 0).trans rfl
      have b1 : wb.cell? ⟨g5, 1, none⟩ = some (.int .i64 (at_ : Int)) := (blk_cell SB.out.k5 1).trans rfl
      have b2 : wb.cell? ⟨g5, 2, none⟩ = some (.slice U us.length cU) := (blk_cell SB.out.k5 2).trans rfl
      have b3 : wb.cell? ⟨g5, 3, none⟩ = some (.slice D ds.length cD) := (blk_cell SB.out.k5 3).trans rfl
      have b4 : wb.cell? ⟨g5, 4, none⟩ = some (.bool out) := (blk_cell SB.out.k5 4).trans rfl
      go_wp2_with fail
      clear b0 b1 b2 b3 b4
      refine (resource_none OK.out SB.out.nx.m1 cU cD out SC.out HOS.out (HOF.out (.inr H3.out))).mono ?_
      rintro e w3 ⟨v3, res3, i, rfl, hi, hn⟩
      have HI := Aside0.mk hi
      have SC3 := Aside0.mk (SB.out.go hn)
      clear hi hn
      have x0 : w3.cell? ⟨g9, 0, none⟩ = some (.string nm) := (blk_cell SC3.out.k9 0).trans rfl
      have x1 : w3.cell? ⟨g9, 1, none⟩ = some (.slice none 0 0) := (blk_cell SC3.out.k9 1).trans rfl
      have x2 : w3.cell? ⟨g9, 2, none⟩ = some (.slice none 0 0) := (blk_cell SC3.out.k9 2).trans rfl
      have x3 : w3.cell? ⟨g9, 3, none⟩ = some (.int .i64 0) := (blk_cell SC3.out.k9 3).trans rfl
      have x4 : w3.cell? ⟨g9, 4, none⟩ = some (.slice none 0 0) := (blk_cell SC3.out.k9 4).trans rfl
      have x5 : w3.cell? ⟨g9, 5, none⟩ = some (.slice none 0 0) := (blk_cell SC3.out.k9 5).trans rfl
      have x6 : w3.cell? ⟨g9, 6, none⟩ = some (.int .i64 0) := (blk_cell SC3.out.k9 6).trans rfl
      have xf0 : w3.frozen? ⟨g9, 0, none⟩ = false := blk_frozen SC3.out.k9 0
      have xf1 : w3.frozen? ⟨g9, 1, none⟩ = false := blk_frozen SC3.out.k9 1
      have xf2 : w3.frozen? ⟨g9, 2, none⟩ = false := blk_frozen SC3.out.k9 2
      have xf3 : w3.frozen? ⟨g9, 3, none⟩ = false := blk_frozen SC3.out.k9 3
      have xf4 : w3.frozen? ⟨g9, 4, none⟩ = false := blk_frozen SC3.out.k9 4
      have xf5 : w3.frozen? ⟨g9, 5, none⟩ = false := blk_frozen SC3.out.k9 5
      have xf6 : w3.frozen? ⟨g9, 6, none⟩ = false := blk_frozen SC3.out.k9 6
      go_wp2_with fail
      go_meet
      exact ⟨v3, E, res3, nm, _, _, _, _, _, _, 20, (i : Int), HT1.out, ⟨(SC3.out.setR 20 (i : Int) (fun _ => ⟨by omega, by have := HI.out; omega⟩)).le (by omega) (by omega)⟩⟩
    · have e1 : decide (f.f1 = 1) = false := decide_eq_false h1
      have d1 : (f.f1 == 1) = false := beq_eq_false_iff_ne.mpr h1
      have e2 : decide (f.f1 = 2) = false := decide_eq_false h2
      have d2 : (f.f1 == 2) = false := beq_eq_false_iff_ne.mpr h2
      have e3 : decide (f.f1 = 3) = false := decide_eq_false h3
      have d3 : (f.f1 == 3) = false := beq_eq_false_iff_ne.mpr h3
      clear h1 h2 h3
      have q0 : wa.cell? ⟨g6, 0, none⟩ = some (.string f.f0) := (blk_cell SA.out.k6 0).trans rfl
      have q1 : wa.cell? ⟨g6, 1, none⟩ = some (.int .i64 f.f1) := (blk_cell SA.out.k6 1).trans rfl
      have q2 : wa.cell? ⟨g6, 2, none⟩ = some (.slice A2 f.f2.length c2) := (blk_cell SA.out.k6 2).trans rfl
      have q3 : wa.cell? ⟨g6, 3, none⟩ = some (.slice A3 f.f3.length c3) := (blk_cell SA.out.k6 3).trans rfl
      have q4 : wa.cell? ⟨g6, 4, none⟩ = some (.int .i64 f.f4.f0) := (blk_cell SA.out.k6 4).trans rfl
      have q5 : wa.cell? ⟨g6, 5, none⟩ = some (.slice A5 f.f4.f1.length c5) := (blk_cell SA.out.k6 5).trans rfl
      have q6 : wa.cell? ⟨g6, 6, none⟩ = some (.slice A6 f.f4.f2.length c6) := (blk_cell SA.out.k6 6).trans rfl
      have q7 : wa.cell? ⟨g6, 7, none⟩ = some (.int .i64 f.f4.f3) := (blk_cell SA.out.k6 7).trans rfl
      go_wp2_with fail
      go_meet
      exact ⟨v, E, res, f.f0, [], none, 0, [], none, 0, 0, 0, by omega, ⟨SA.out.le (by omega) (by omega)⟩⟩
  case rest =>
    clear SA
    obtain ⟨v1, E1, res1, nm, P, AP, cP, T, AT, cT, rk, rr, hns, SB⟩ := hcut
    have HNS := Aside0.mk hns
    have b0 : wc.cell? ⟨g5, 0, none⟩ = some (.string key) := (blk_cell SB.out.k5 0).trans rfl
    go_upto_if 66 with fail
    clear b0
    go_cut [] (fun wx => ∃ (v1 : Value) (E1 : Int) (res1 : List ByteArray) (nm : ByteArray) (P : List ByteArray) (AP : Option Addr) (cP : Nat) (T : List PSubFits.S25) (AT : Option Addr) (cT : Nat) (rk rr : Int), Aside0 (SG h p vi vo w v E res g5 g6 g8 g9 #[.string key, .int .i64 (at_ : Int), .slice U us.length cU, .slice D ds.length cD, .bool out] #[.string f.f0, .int .i64 f.f1, .slice A2 f.f2.length c2, .slice A3 f.f3.length c3, .int .i64 f.f4.f0, .slice A5 f.f4.f1.length c5, .slice A6 f.f4.f2.length c6, .int .i64 f.f4.f3] 1 1 wx v1 E1 res1 nm P AP cP T AT cT rk rr))
    case first =>
      have b0 : wc.cell? ⟨g5, 0, none⟩ = some (.string key) := (blk_cell SB.out.k5 0).trans rfl
      have b1 : wc.cell? ⟨g5, 1, none⟩ = some (.int .i64 (at_ : Int)) := (blk_cell SB.out.k5 1).trans rfl
      have b2 : wc.cell? ⟨g5, 2, none⟩ = some (.slice U us.length cU) := (blk_cell SB.out.k5 2).trans rfl
      have b3 : wc.cell? ⟨g5, 3, none⟩ = some (.slice D ds.length cD) := (blk_cell SB.out.k5 3).trans rfl
      have b4 : wc.cell? ⟨g5, 4, none⟩ = some (.bool out) := (blk_cell SB.out.k5 4).trans rfl
      by_cases hke : key.toList = []
      · have k1 : (key.toList == ([] : List UInt8)) = true := by rw [hke]; rfl
        have k2 : key.toList.isEmpty = true := by rw [hke]; rfl
        have k3 : (key.toList != ([] : List UInt8)) = false := by rw [hke]; rfl
        have k4 : (!key.toList.isEmpty) = false := by rw [hke]; rfl
        clear hke
        simp only [k4]
        go_wp2_with fail
        go_meet
        exact ⟨v1, E1, res1, nm, P, AP, cP, T, AT, cT, rk, rr, SB⟩
      · have k1 : (key.toList == ([] : List UInt8)) = false := by rw [beq_eq_false_iff_ne]; exact hke
        have k2 : key.toList.isEmpty = false := by rw [List.isEmpty_eq_false_iff]; exact hke
        have k3 : (key.toList != ([] : List UInt8)) = true := by rw [bne_iff_ne]; exact hke
        have k4 : (!key.toList.isEmpty) = true := by rw [k2]; rfl
        clear hke
        have s1 : (9223372036854775807 < key.size + 1) = False := eq_false (by omega)
        have s2 : (9223372036854775807 < key.size + 1 + nm.size) = False := eq_false (by omega)
        have x0 : wc.cell? ⟨g9, 0, none⟩ = some (.string nm) := (blk_cell SB.out.k9 0).trans rfl
        have x1 : wc.cell? ⟨g9, 1, none⟩ = some (.slice AP P.length cP) := (blk_cell SB.out.k9 1).trans rfl
        have x2 : wc.cell? ⟨g9, 2, none⟩ = some (.slice AT T.length cT) := (blk_cell SB.out.k9 2).trans rfl
        have x3 : wc.cell? ⟨g9, 3, none⟩ = some (.int .i64 rk) := (blk_cell SB.out.k9 3).trans rfl
        have x4 : wc.cell? ⟨g9, 4, none⟩ = some (.slice none 0 0) := (blk_cell SB.out.k9 4).trans rfl
        have x5 : wc.cell? ⟨g9, 5, none⟩ = some (.slice none 0 0) := (blk_cell SB.out.k9 5).trans rfl
        have x6 : wc.cell? ⟨g9, 6, none⟩ = some (.int .i64 rr) := (blk_cell SB.out.k9 6).trans rfl
        have xf0 : wc.frozen? ⟨g9, 0, none⟩ = false := blk_frozen SB.out.k9 0
        have xf1 : wc.frozen? ⟨g9, 1, none⟩ = false := blk_frozen SB.out.k9 1
        have xf2 : wc.frozen? ⟨g9, 2, none⟩ = false := blk_frozen SB.out.k9 2
        have xf3 : wc.frozen? ⟨g9, 3, none⟩ = false := blk_frozen SB.out.k9 3
        have xf4 : wc.frozen? ⟨g9, 4, none⟩ = false := blk_frozen SB.out.k9 4
        have xf5 : wc.frozen? ⟨g9, 5, none⟩ = false := blk_frozen SB.out.k9 5
        have xf6 : wc.frozen? ⟨g9, 6, none⟩ = false := blk_frozen SB.out.k9 6
        simp only [k4]
        go_wp2_with fail
        have HT1 : (key ++ (⟨#[35]⟩ : ByteArray) ++ nm).size ≤ 3000 := by simp only [ByteArray.size_append]; show key.size + 1 + nm.size ≤ 3000; omega
        go_meet
        exact ⟨v1, E1, res1, _, P, AP, cP, T, AT, cT, rk, rr, ⟨SB.out.name (key ++ (⟨#[35]⟩ : ByteArray) ++ nm) HT1⟩⟩
    case rest =>
      clear SB hns HNS
      obtain ⟨v1, E1, res1, nm, P, AP, cP, T, AT, cT, rk, rr, SB⟩ := hcut
      go_wp2_with fail
      go_loopw [10] (fun v10 wr => ∃ (k : Nat) (v1 : Value) (E1 : Int) (res1 : List ByteArray) (nm : ByteArray) (P : List ByteArray) (AP : Option Addr) (cP : Nat) (T : List PSubFits.S25) (AT : Option Addr) (cT : Nat) (rk rr : Int), k ≤ f.f2.length ∧ v10 = .int .i64 k ∧ Aside0 (SG h p vi vo w v E res g5 g6 g8 g9 #[.string key, .int .i64 (at_ : Int), .slice U us.length cU, .slice D ds.length cD, .bool out] #[.string f.f0, .int .i64 f.f1, .slice A2 f.f2.length c2, .slice A3 f.f3.length c3, .int .i64 f.f4.f0, .slice A5 f.f4.f1.length c5, .slice A6 f.f4.f2.length c6, .int .i64 f.f4.f3] (k + 1) (k + 1) wr v1 E1 res1 nm P AP cP T AT cT rk rr)) (fun v10 _ => f.f2.length - (intOf v10).toNat)
      case atStart => exact ⟨0, v1, E1, res1, nm, P, AP, cP, T, AT, cT, rk, rr, Nat.zero_le _, rfl, SB⟩
      case round =>
        clear SB
        obtain ⟨k, v1, E1, res1, nm, P, AP, cP, T, AT, cT, rk, rr, hk, rfl, SB⟩ := hrel
        have q2 : wr.cell? ⟨g6, 2, none⟩ = some (.slice A2 f.f2.length c2) := (blk_cell SB.out.k6 2).trans rfl
        by_cases hlt : k < f.f2.length
        · obtain ⟨ad2, hae2, hx2⟩ := str_at FAA.out.p hlt
          obtain ⟨ad3, B1, d1, B2, d2, hae3, hx3, l1, g1, l2, g2⟩ := el25 FAA.out.t (k := k) (by rw [← WF.out.pt]; exact hlt)
          have HX2 := Aside0.mk hx2
          have HAE2 := Aside0.mk hae2
          have HX3 := Aside0.mk hx3
          have HAE3 := Aside0.mk hae3
          have HTA : Aside0 (TA h.W0 (f.f3[k]'(by rw [← WF.out.pt]; exact hlt)) B1 d1 B2 d2) := ⟨⟨g1, l1, g2, l2⟩⟩
          have HWE := Aside0.mk (WF.out.ts _ (List.getElem_mem (by rw [← WF.out.pt]; exact hlt : k < f.f3.length)))
          have HTZ := Aside0.mk (type_zero OK.out (f.f3[k]'(by rw [← WF.out.pt]; exact hlt)))
          have i0 : (0 : Int) ≤ (k : Int) := by omega
          have i1 : (k : Int) < (f.f2.length : Int) := by omega
          have i2 : (k : Int) < (f.f3.length : Int) := by have := WF.out.pt; omega
          clear hx2 hae2 hx3 hae3 l1 g1 l2 g2
          generalize f.f3[k]'(by rw [← WF.out.pt]; exact hlt) = y0 at *
          generalize f.f2[k] = s at *
          go_upto_region 17 with fail
          clear q2
          go_cut [] (fun wx => ∃ (v1 : Value) (E1 : Int) (res1 : List ByteArray) (nm : ByteArray) (P : List ByteArray) (AP : Option Addr) (cP : Nat) (T : List PSubFits.S25) (AT : Option Addr) (cT : Nat) (rk rr : Int), Aside0 (SG h p vi vo w v E res g5 g6 g8 g9 #[.string key, .int .i64 (at_ : Int), .slice U us.length cU, .slice D ds.length cD, .bool out] #[.string f.f0, .int .i64 f.f1, .slice A2 f.f2.length c2, .slice A3 f.f3.length c3, .int .i64 f.f4.f0, .slice A5 f.f4.f1.length c5, .slice A6 f.f4.f2.length c6, .int .i64 f.f4.f3] (k + 2) (k + 1) wx v1 E1 res1 nm P AP cP T AT cT rk rr))
          case first =>
            have SGd := Aside0.mk (SB.out.below (below_drew1 (Below.refl _ _)))
            have hlP : P.length ≤ k + 1 := SB.out.lP
            have xd1 : wr.drew.cell? ⟨g9, 1, none⟩ = some (.slice AP P.length cP) := (blk_cell SGd.out.k9 1).trans rfl
            have xd3 : (wr.drew.alloc (.cells #[.string s] 9)).cell? ⟨g9, 1, none⟩ = some (.slice AP P.length cP) := (blk_cell (blk_alloc SGd.out.k9 _) 1).trans rfl
            have xd4 : wr.cell? ⟨g9, 1, none⟩ = some (.slice AP P.length cP) := (blk_cell SB.out.k9 1).trans rfl
            have xd5 : (wr.alloc (.cells #[.string s] 9)).cell? ⟨g9, 1, none⟩ = some (.slice AP P.length cP) := (blk_cell (blk_alloc SB.out.k9 _) 1).trans rfl
            have xd6 : (wr.alloc (.cells #[.string s] 9)).drew.cell? ⟨g9, 1, none⟩ = some (.slice AP P.length cP) := (blk_cell (blk_alloc SB.out.k9 _) 1).trans rfl
            have qd2 : wr.drew.cell? ⟨g6, 2, none⟩ = some (.slice (some ad2) f.f2.length c2) := by rw [← HAE2.out]; exact (blk_cell SGd.out.k6 2).trans rfl
            have xs2 : wr.drew.cell? (ad2.add k) = some (.string s) := HX2.out _ SGd.out.nx.bl
            go_region_law
              (first
                | (refine Kd.R_append_step Kd.string (w0 := wr.drew) (g9 + 1) rfl (.tmp 82) (.tmp 88) 22 9 (.string ⟨#[]⟩) 16 rfl Try.underlying22 info9 rfl (by decide) (by decide) (.slice AP P.length cP) P s [.string s] (fun k => k ≠ p ∧ some k ≠ v1.ownBlock) (fun _ => False) rfl (by first | rfl | (simp only [World.size_drew]; rfl)) rfl (fun _ hf => hf.elim) SGd.out.fr.1 SGd.out.rp (Below.refl _ _) SGd.out.lt.2.1 (by omega) ?_; intro v4 w4 r1 r2 r3 r4; obtain ⟨AN, cN, hv4, _⟩ := Kd.R_reads r1; replace hv4 : v4 = .slice AN (P.length + 1) cN := (by rw [hv4]; simp); subst hv4; have K6g := Aside0.mk (blk_grown SGd.out.k6 r3 (Kd.R_ne SGd.out.rp SGd.out.k6 (by decide))); have HNg := Aside0.mk (SGd.out.nx.grown r3 (row_hr SGd.out.rp (Nat.le_succ_of_le SGd.out.b9))); have k9 := blk_grown SGd.out.k9 r3 (Kd.R_ne SGd.out.rp SGd.out.k9 (by decide)); have g2 : w4.cell? ⟨g9, 1, none⟩ = some (.slice AP P.length cP) := (blk_cell k9 1).trans rfl; have gf2 : w4.frozen? ⟨g9, 1, none⟩ = false := blk_frozen k9 1; have SG4 := Aside0.mk (SGd.out.appP r1 r3 r4); clear r1 r2 r3 r4 k9))
            all_goals
              go_wp2_with fail
              go_meet
              exact ⟨v1, E1, res1, nm, P ++ [s], AN, cN, T, AT, cT, rk, rr, SG4⟩
          case rest =>
            clear SB
            obtain ⟨v1, E1, res1, nm, P, AP, cP, T, AT, cT, rk, rr, SB⟩ := hcut
            go_upto_region 18 with fail
            have SGd := Aside0.mk (SB.out.below (below_drew1 (Below.refl _ _)))
            have xd2 : wc.drew.cell? ⟨g9, 2, none⟩ = some (.slice AT T.length cT) := (blk_cell SGd.out.k9 2).trans rfl
            have b0 : wc.drew.cell? ⟨g5, 0, none⟩ = some (.string key) := (blk_cell SGd.out.k5 0).trans rfl
            have b1 : wc.drew.cell? ⟨g5, 1, none⟩ = some (.int .i64 (at_ : Int)) := (blk_cell SGd.out.k5 1).trans rfl
            have b2 : wc.drew.cell? ⟨g5, 2, none⟩ = some (.slice U us.length cU) := (blk_cell SGd.out.k5 2).trans rfl
            have b3 : wc.drew.cell? ⟨g5, 3, none⟩ = some (.slice D ds.length cD) := (blk_cell SGd.out.k5 3).trans rfl
            have b4 : wc.drew.cell? ⟨g5, 4, none⟩ = some (.bool out) := (blk_cell SGd.out.k5 4).trans rfl
            have qd3 : wc.drew.cell? ⟨g6, 3, none⟩ = some (.slice (some ad3) f.f3.length c3) := by rw [← HAE3.out]; exact (blk_cell SGd.out.k6 3).trans rfl
            obtain ⟨ux0, ux1, ux2, ux3⟩ := HX3.out _ SGd.out.nx.bl
            go_region_law
              (first
                | (refine Kd.R_append_step PSubFits.k25 (w0 := w3) (g9 + 1) rfl (.tmp 92) (.tmp 101) 23 25 (.agg #[.int .i64 0, .slice none 0 0, .slice none 0 0, .int .i64 0]) 64 rfl Try.underlying23 info25 rfl (by decide) (by decide) (.slice AT T.length cT) T y [.int .i64 y.f0, .slice B3 y.f1.length d3, .slice B4 y.f2.length d4, .int .i64 y.f3] (fun k => (k ≠ p ∧ some k ≠ v3.ownBlock) ∧ some k ≠ (Value.slice AP P.length cP).ownBlock) (fun k => (k ≠ p ∧ some k ≠ v3.ownBlock) ∧ wc.drew.heap.size ≤ k) rfl rfl (PSubFits.k25_mkM _ _ _ y (Kd.R_lower (Kd.R_mono (Kd.R_bound HTV.out.n) (fun k hk => ⟨hk.1, hk.2.1⟩)) SGd.out.lt.2.1) (Kd.R_lower (Kd.R_mono (Kd.R_bound HTV.out.l) (fun k hk => ⟨hk.1, hk.2.1⟩)) SGd.out.lt.2.1)) HOKP.out SG3.out.fr.2 SG3.out.rt (Below.refl _ _) SG3.out.lt.2.1 HLT.out ?_; intro v4 w4 r1 r2 r3 r4; obtain ⟨AN, cN, hv4, _⟩ := Kd.R_reads r1; replace hv4 : v4 = .slice AN (T.length + 1) cN := (by rw [hv4]; simp); subst hv4; have K5g := Aside0.mk (blk_grown SG3.out.k5 r3 (Kd.R_ne SG3.out.rt SG3.out.k5 (by decide))); have K6g := Aside0.mk (blk_grown SG3.out.k6 r3 (Kd.R_ne SG3.out.rt SG3.out.k6 (by decide))); have HNg := Aside0.mk (SG3.out.nx.grown r3 (row_hr (Kd.R_mono SG3.out.rt (fun k hk => hk.1)) (Nat.le_succ_of_le SG3.out.b9))); have k9 := blk_grown SG3.out.k9 r3 (Kd.R_ne SG3.out.rt SG3.out.k9 (by decide)); have g2 : w4.cell? ⟨g9, 2, none⟩ = some (.slice AT T.length cT) := (blk_cell k9 2).trans rfl; have gf2 : w4.frozen? ⟨g9, 2, none⟩ = false := blk_frozen k9 2; have SG4 := Aside0.mk (SG3.out.appT HGD.out r1 r3); clear r1 r2 r3 r4 k9)
                | (go_simp; go_at_call 104; refine (HTZ.out p _ v1 vi vo E1 res1 SGd.out.nx.m1 key at_ us U cU ds D cD out SC.out B1 d1 B2 d2 HWE.out HTA.out).mono ?_; rintro e w3 ⟨v3, E3, res3, y, B3, d3, B4, d4, rfl, hn, htv, hgd⟩; have HTV := Aside0.mk htv; have HGD := Aside0.mk hgd; have SG3 := Aside0.mk (SGd.out.go hn); have HOKP : Aside0 (∀ k, ((k ≠ p ∧ some k ≠ v3.ownBlock) ∧ wc.drew.heap.size ≤ k) → ((k ≠ p ∧ some k ≠ v3.ownBlock) ∧ some k ≠ (Value.slice AP P.length cP).ownBlock) ∧ some k ≠ (Value.slice AT T.length cT).ownBlock) := ⟨fun k hk => ⟨⟨hk.1, fun e => by have := SGd.out.lt.2.2.2 k e.symm; omega⟩, fun e => by have := Kd.R_lt SGd.out.rt k e.symm; omega⟩⟩; have HLT : Aside0 ((T.length + 1) * 64 ≤ 140737488355328) := ⟨by have := SGd.out.lT; omega⟩; have x32 : w3.cell? ⟨g9, 2, none⟩ = some (.slice AT T.length cT) := (blk_cell SG3.out.k9 2).trans rfl; have x33 : (w3.alloc (.cells #[.int .i64 y.f0, .slice B3 y.f1.length d3, .slice B4 y.f2.length d4, .int .i64 y.f3] 25)).cell? ⟨g9, 2, none⟩ = some (.slice AT T.length cT) := (blk_cell (blk_alloc SG3.out.k9 _) 2).trans rfl; clear hn htv hgd))
            all_goals
              go_wp2_with fail
              go_roundw
              case rel => exact ⟨k + 1, v3, E3, res3, nm, P, AP, cP, T ++ [y], AN, cN, rk, rr, by omega, by go_num, SG4⟩
              case measure => simp [intOf]; omega
        · obtain rfl : k = f.f2.length := by omega
          have q4 : wr.cell? ⟨g6, 4, none⟩ = some (.int .i64 f.f4.f0) := (blk_cell SB.out.k6 4).trans rfl
          go_upto_if 107 with fail
          clear q4
          go_cut [] (fun wx => ∃ (v1 : Value) (E1 : Int) (res1 : List ByteArray) (x : PSubFits.S27) (G1 : Option Addr) (e1 : Nat) (G2 : Option Addr) (e2 : Nat) (G4 : Option Addr) (e4 : Nat) (G5 : Option Addr) (e5 : Nat), Aside0 (SF h p vi vo w v E res g8 g9 wx v1 E1 res1 x G1 e1 G2 e2 G4 e4 G5 e5))
          case first =>
            have q0 : wr.cell? ⟨g6, 0, none⟩ = some (.string f.f0) := (blk_cell SB.out.k6 0).trans rfl
            have q1 : wr.cell? ⟨g6, 1, none⟩ = some (.int .i64 f.f1) := (blk_cell SB.out.k6 1).trans rfl
            have q2 : wr.cell? ⟨g6, 2, none⟩ = some (.slice A2 f.f2.length c2) := (blk_cell SB.out.k6 2).trans rfl
            have q3 : wr.cell? ⟨g6, 3, none⟩ = some (.slice A3 f.f3.length c3) := (blk_cell SB.out.k6 3).trans rfl
            have q4 : wr.cell? ⟨g6, 4, none⟩ = some (.int .i64 f.f4.f0) := (blk_cell SB.out.k6 4).trans rfl
            have q5 : wr.cell? ⟨g6, 5, none⟩ = some (.slice A5 f.f4.f1.length c5) := (blk_cell SB.out.k6 5).trans rfl
            have q6 : wr.cell? ⟨g6, 6, none⟩ = some (.slice A6 f.f4.f2.length c6) := (blk_cell SB.out.k6 6).trans rfl
            have q7 : wr.cell? ⟨g6, 7, none⟩ = some (.int .i64 f.f4.f3) := (blk_cell SB.out.k6 7).trans rfl
            by_cases hr : f.f4.f0 = 0
            · have e5 : decide (f.f4.f0 = 0) = true := decide_eq_true hr
              have e6 : (f.f4.f0 == 0) = true := beq_iff_eq.mpr hr
              have e7 : (f.f4.f0 != 0) = false := bne_eq_false_iff_eq.mpr hr
              clear hr
              go_wp2_with fail
              go_meet
              exact ⟨_, _, _, _, _, _, _, _, _, _, _, _, ⟨SB.out.fin⟩⟩
            · have e5 : decide (f.f4.f0 = 0) = false := decide_eq_false hr
              have e6 : (f.f4.f0 == 0) = false := beq_eq_false_iff_ne.mpr hr
              have e7 : (f.f4.f0 != 0) = true := bne_iff_ne.mpr hr
              clear hr
              have b0 : wr.cell? ⟨g5, 0, none⟩ = some (.string key) := (blk_cell SB.out.k5 0).trans rfl
              have b1 : wr.cell? ⟨g5, 1, none⟩ = some (.int .i64 (at_ : Int)) := (blk_cell SB.out.k5 1).trans rfl
              have b2 : wr.cell? ⟨g5, 2, none⟩ = some (.slice U us.length cU) := (blk_cell SB.out.k5 2).trans rfl
              have b3 : wr.cell? ⟨g5, 3, none⟩ = some (.slice D ds.length cD) := (blk_cell SB.out.k5 3).trans rfl
              have b4 : wr.cell? ⟨g5, 4, none⟩ = some (.bool out) := (blk_cell SB.out.k5 4).trans rfl
              go_wp2_with fail
              clear e5 e6 e7 b0 b1 b2 b3 b4 q0 q1 q2 q3 q4 q5 q6 q7
              refine (type_zero OK.out f.f4 p _ v1 vi vo E1 res1 SB.out.nx.m1 key at_ us U cU ds D cD out SC.out A5 c5 A6 c6 WF.out.r FAA.out.r).mono ?_
              rintro e w3 ⟨v3, E3, res3, y, B3, d3, B4, d4, rfl, hn, htv, hgd⟩
              have SG3 := Aside0.mk (SB.out.go hn)
              have HTV := Aside0.mk (htv.lower SB.out.lt.2.1)
              have HGD := Aside0.mk hgd
              clear hn htv hgd
              have x0 : w3.cell? ⟨g9, 0, none⟩ = some (.string nm) := (blk_cell SG3.out.k9 0).trans rfl
              have x1 : w3.cell? ⟨g9, 1, none⟩ = some (.slice AP P.length cP) := (blk_cell SG3.out.k9 1).trans rfl
              have x2 : w3.cell? ⟨g9, 2, none⟩ = some (.slice AT T.length cT) := (blk_cell SG3.out.k9 2).trans rfl
              have x3 : w3.cell? ⟨g9, 3, none⟩ = some (.int .i64 rk) := (blk_cell SG3.out.k9 3).trans rfl
              have x4 : w3.cell? ⟨g9, 4, none⟩ = some (.slice none 0 0) := (blk_cell SG3.out.k9 4).trans rfl
              have x5 : w3.cell? ⟨g9, 5, none⟩ = some (.slice none 0 0) := (blk_cell SG3.out.k9 5).trans rfl
              have x6 : w3.cell? ⟨g9, 6, none⟩ = some (.int .i64 rr) := (blk_cell SG3.out.k9 6).trans rfl
              have xf0 : w3.frozen? ⟨g9, 0, none⟩ = false := blk_frozen SG3.out.k9 0
              have xf1 : w3.frozen? ⟨g9, 1, none⟩ = false := blk_frozen SG3.out.k9 1
              have xf2 : w3.frozen? ⟨g9, 2, none⟩ = false := blk_frozen SG3.out.k9 2
              have xf3 : w3.frozen? ⟨g9, 3, none⟩ = false := blk_frozen SG3.out.k9 3
              have xf4 : w3.frozen? ⟨g9, 4, none⟩ = false := blk_frozen SG3.out.k9 4
              have xf5 : w3.frozen? ⟨g9, 5, none⟩ = false := blk_frozen SG3.out.k9 5
              have xf6 : w3.frozen? ⟨g9, 6, none⟩ = false := blk_frozen SG3.out.k9 6
              go_wp2_with fail
              go_meet
              exact ⟨v3, E3, res3, _, _, _, _, _, _, _, _, _, ⟨SG3.out.finR HGD.out HTV.out⟩⟩
          case rest =>
            clear SB
            obtain ⟨v1, E1, res1, x, G1, e1, G2, e2, G4, e4, G5, e5, SFx⟩ := hcut
            have x0 : wc.cell? ⟨g9, 0, none⟩ = some (.string x.f0) := (blk_cell SFx.out.k9 0).trans rfl
            have x1 : wc.cell? ⟨g9, 1, none⟩ = some (.slice G1 x.f1.length e1) := (blk_cell SFx.out.k9 1).trans rfl
            have x2 : wc.cell? ⟨g9, 2, none⟩ = some (.slice G2 x.f2.length e2) := (blk_cell SFx.out.k9 2).trans rfl
            have x3 : wc.cell? ⟨g9, 3, none⟩ = some (.int .i64 x.f3.f0) := (blk_cell SFx.out.k9 3).trans rfl
            have x4 : wc.cell? ⟨g9, 4, none⟩ = some (.slice G4 x.f3.f1.length e4) := (blk_cell SFx.out.k9 4).trans rfl
            have x5 : wc.cell? ⟨g9, 5, none⟩ = some (.slice G5 x.f3.f2.length e5) := (blk_cell SFx.out.k9 5).trans rfl
            have x6 : wc.cell? ⟨g9, 6, none⟩ = some (.int .i64 x.f3.f3) := (blk_cell SFx.out.k9 6).trans rfl
            go_wp2_with fail
            refine (lends_any x.f3 _ G4 e4 G5 e5 (Kd.R_reads' SFx.out.sv.r.l).2.2).mono ?_
            rintro e w1 ⟨⟨b, rfl⟩, hb⟩
            have SF1 := Aside0.mk (SFx.out.below hb)
            clear hb x0 x1 x2 x3 x4 x5 x6
            go_wp2_with fail
            refine (fault_any SF1.out.nx.m1 _ 6 (by decide)).mono ?_
            rintro e w2 ⟨rfl, E2, _, hn⟩
            have SF2 := Aside0.mk (SF1.out.go hn)
            clear hn
            have x0 : w2.cell? ⟨g9, 0, none⟩ = some (.string x.f0) := (blk_cell SF2.out.k9 0).trans rfl
            have x1 : w2.cell? ⟨g9, 1, none⟩ = some (.slice G1 x.f1.length e1) := (blk_cell SF2.out.k9 1).trans rfl
            have x2 : w2.cell? ⟨g9, 2, none⟩ = some (.slice G2 x.f2.length e2) := (blk_cell SF2.out.k9 2).trans rfl
            have x3 : w2.cell? ⟨g9, 3, none⟩ = some (.int .i64 x.f3.f0) := (blk_cell SF2.out.k9 3).trans rfl
            have x4 : w2.cell? ⟨g9, 4, none⟩ = some (.slice G4 x.f3.f1.length e4) := (blk_cell SF2.out.k9 4).trans rfl
            have x5 : w2.cell? ⟨g9, 5, none⟩ = some (.slice G5 x.f3.f2.length e5) := (blk_cell SF2.out.k9 5).trans rfl
            have x6 : w2.cell? ⟨g9, 6, none⟩ = some (.int .i64 x.f3.f3) := (blk_cell SF2.out.k9 6).trans rfl
            have s0 : w2.cell? ⟨g8, 0, none⟩ = some (.string ⟨#[]⟩) := (blk_cell SF2.out.k8 0).trans rfl
            have s1 : w2.cell? ⟨g8, 1, none⟩ = some (.slice none 0 0) := (blk_cell SF2.out.k8 1).trans rfl
            have s2 : w2.cell? ⟨g8, 2, none⟩ = some (.slice none 0 0) := (blk_cell SF2.out.k8 2).trans rfl
            have s3 : w2.cell? ⟨g8, 3, none⟩ = some (.int .i64 0) := (blk_cell SF2.out.k8 3).trans rfl
            have s4 : w2.cell? ⟨g8, 4, none⟩ = some (.slice none 0 0) := (blk_cell SF2.out.k8 4).trans rfl
            have s5 : w2.cell? ⟨g8, 5, none⟩ = some (.slice none 0 0) := (blk_cell SF2.out.k8 5).trans rfl
            have s6 : w2.cell? ⟨g8, 6, none⟩ = some (.int .i64 0) := (blk_cell SF2.out.k8 6).trans rfl
            have sf0 : w2.frozen? ⟨g8, 0, none⟩ = false := blk_frozen SF2.out.k8 0
            have sf1 : w2.frozen? ⟨g8, 1, none⟩ = false := blk_frozen SF2.out.k8 1
            have sf2 : w2.frozen? ⟨g8, 2, none⟩ = false := blk_frozen SF2.out.k8 2
            have sf3 : w2.frozen? ⟨g8, 3, none⟩ = false := blk_frozen SF2.out.k8 3
            have sf4 : w2.frozen? ⟨g8, 4, none⟩ = false := blk_frozen SF2.out.k8 4
            have sf5 : w2.frozen? ⟨g8, 5, none⟩ = false := blk_frozen SF2.out.k8 5
            have sf6 : w2.frozen? ⟨g8, 6, none⟩ = false := blk_frozen SF2.out.k8 6
            have n98 : g8 ≠ g9 := SF2.out.n8
            have n89 := n98.symm
            go_wp2_with fail
            clear x0 x1 x2 x3 x4 x5 x6 s0 s1 s2 s3 s4 s5 s6 sf0 sf1 sf2 sf3 sf4 sf5 sf6
            obtain ⟨wf, hwf⟩ : ∃ wf : World, wf = (((((((w2.setCell ⟨g8, 0, none⟩ (.string x.f0)).setCell ⟨g8, 1, none⟩ (.slice G1 x.f1.length e1)).setCell ⟨g8, 2, none⟩ (.slice G2 x.f2.length e2)).setCell ⟨g8, 3, none⟩ (.int .i64 x.f3.f0)).setCell ⟨g8, 4, none⟩ (.slice G4 x.f3.f1.length e4)).setCell ⟨g8, 5, none⟩ (.slice G5 x.f3.f2.length e5)).setCell ⟨g8, 6, none⟩ (.int .i64 x.f3.f3)) := ⟨_, rfl⟩
            have HR := Aside0.mk (SF2.out.ret HG8.out wf hwf)
            rw [← hwf]
            clear hwf
            have s0 : wf.cell? ⟨g8, 0, none⟩ = some (.string x.f0) := (blk_cell HR.out.2.1 0).trans rfl
            have s1 : wf.cell? ⟨g8, 1, none⟩ = some (.slice G1 x.f1.length e1) := (blk_cell HR.out.2.1 1).trans rfl
            have s2 : wf.cell? ⟨g8, 2, none⟩ = some (.slice G2 x.f2.length e2) := (blk_cell HR.out.2.1 2).trans rfl
            have s3 : wf.cell? ⟨g8, 3, none⟩ = some (.int .i64 x.f3.f0) := (blk_cell HR.out.2.1 3).trans rfl
            have s4 : wf.cell? ⟨g8, 4, none⟩ = some (.slice G4 x.f3.f1.length e4) := (blk_cell HR.out.2.1 4).trans rfl
            have s5 : wf.cell? ⟨g8, 5, none⟩ = some (.slice G5 x.f3.f2.length e5) := (blk_cell HR.out.2.1 5).trans rfl
            have s6 : wf.cell? ⟨g8, 6, none⟩ = some (.int .i64 x.f3.f3) := (blk_cell HR.out.2.1 6).trans rfl
            exact bodyPost_ret (v := .agg (s27C x G1 e1 G2 e2 G4 e4 G5 e5)) (by simp [results, Try.results92, go_sem, s27C, *]) rfl ⟨v1, E2, res1, x, G1, e1, G2, e2, G4, e4, G5, e5, rfl, HR.out.1, HR.out.2.2, SF2.out.gd⟩
end Go.Proofs.Ytmpmcffhlnlejaa.Mkr
end
