/- A part of the proof of the law that its last file names: texts of this seat's author and of the kit's printer, cut to what the theorem uses. Part 16: Mk8. -/
import Derived.Test.YtmpmcffhlnlejaaCt15
section
namespace Go.Proofs.Ytmpmcffhlnlejaa.Mkr
open Go.RowKit Go.Proofs.YtmpmcffhlnlejaaW.PrintWords Go.Proofs.YtmpmcffhlnlejaaW.PrintLast Go.Proofs.YtmpmcffhlnlejaaW.PrintMore
open Go.Proofs.Ytmpmcffhlnlejaa.PSubSelf Go.Proofs.Ytmpmcffhlnlejaa.Wld
set_option linter.unusedVariables false
set_option linter.unusedSimpArgs false
attribute [local go_sem] max2_int min2_int max_two min_two max_three min_three max_four min_four
theorem add0 (a : Addr) : a.add 0 = a := by
  cases a
  unfold Addr.add
  split <;> simp_all
set_option maxHeartbeats 8000000 in
set_option maxRecDepth 100000 in
theorem type_step {h : Hd} (ok : h.Ok) (dp : Nat) (hn : NameC h dp) (t : S25) (ih : ∀ y ∈ t.f2, TypeC h dp y) : TypeC h dp t := by
  intro p w v vi vo E res m key at_ us U cU ds D cD out sc A1 c1 A2 c2 wf ta
  have M := Aside0.mk m
  have OK := Aside0.mk ok
  have SC := Aside0.mk sc
  have HNC := Aside0.mk hn
  have IH := Aside0.mk ih
  have WF := Aside0.mk wf
  have TAA := Aside0.mk ta
  clear m ok sc hn ih wf ta
  unfold scV
  obtain ⟨sz, m0⟩ := M.out
  have HN0 : Aside0 (Nx h p vi vo dp w v E res (((w.alloc (.cells #[.string key, .int .i64 (at_ : Int), .slice U us.length cU, .slice D ds.length cD, .bool out] 160)).alloc (.cells #[.int .i64 t.f0, .slice A1 t.f1.length c1, .slice A2 t.f2.length c2, .int .i64 t.f3] 25)).alloc (.cells #[.int .i64 0, .slice none 0 0, .slice none 0 0, .int .i64 0] 25)) v E res) := ⟨(Nx.refl m0).below (below_alloc (below_alloc (below_alloc (Below.refl _ _) _) _) _)⟩
  obtain ⟨sz1, m1⟩ := HN0.out.m1
  have z11 := m1.z11
  have f11 := m1.fz 11
  have HM1 := Aside0.mk m1
  clear m0 m1
  go_enter Try.func104, Try.ntmps104
  go_wp2_with fail
  clear z11 f11
  have hlp : p < w.heap.size := by obtain ⟨sz, m⟩ := M.out; exact m.lt
  obtain ⟨wb, hwb⟩ : ∃ wb : World, wb = ((((w.alloc (.cells #[.string key, .int .i64 (at_ : Int), .slice U us.length cU, .slice D ds.length cD, .bool out] 160)).alloc (.cells #[.int .i64 t.f0, .slice A1 t.f1.length c1, .slice A2 t.f2.length c2, .int .i64 t.f3] 25)).alloc (.cells #[.int .i64 0, .slice none 0 0, .slice none 0 0, .int .i64 0] 25)).setCell ⟨p, 11, none⟩ (.int .i64 (wrap64 (sz1 + 1)))) := ⟨_, rfl⟩
  have HNB : Aside0 (Nx h p vi vo dp w v E res wb v E res) := ⟨by rw [hwb]; have hs := HM1.out.set_size (wrap64 (sz1 + 1)); exact ⟨M.out, ⟨_, hs.1⟩, HN0.out.go.trans hs.2, Nat.le_refl _, id⟩⟩
  have K4 : Aside0 (wb.heap[w.heap.size]? = some (.cells #[.string key, .int .i64 (at_ : Int), .slice U us.length cU, .slice D ds.length cD, .bool out] 160 (0, 0))) := ⟨by rw [hwb]; exact blk_far (blk_alloc (blk_alloc (blk_new w _) _) _) (by show _ ≠ p; omega) _⟩
  have K5 : Aside0 (wb.heap[w.heap.size + 1]? = some (.cells #[.int .i64 t.f0, .slice A1 t.f1.length c1, .slice A2 t.f2.length c2, .int .i64 t.f3] 25 (0, 0))) := ⟨by rw [hwb]; have := blk_alloc (blk_new (w.alloc (.cells #[.string key, .int .i64 (at_ : Int), .slice U us.length cU, .slice D ds.length cD, .bool out] 160)) (.cells #[.int .i64 t.f0, .slice A1 t.f1.length c1, .slice A2 t.f2.length c2, .int .i64 t.f3] 25)) (.cells #[.int .i64 0, .slice none 0 0, .slice none 0 0, .int .i64 0] 25); simp only [World.size_alloc] at this; exact blk_far this (by show _ ≠ p; omega) _⟩
  have K6 : Aside0 (wb.heap[w.heap.size + 1 + 1]? = some (.cells #[.int .i64 0, .slice none 0 0, .slice none 0 0, .int .i64 0] 25 (0, 0))) := ⟨by rw [hwb]; have := blk_new ((w.alloc (.cells #[.string key, .int .i64 (at_ : Int), .slice U us.length cU, .slice D ds.length cD, .bool out] 160)).alloc (.cells #[.int .i64 t.f0, .slice A1 t.f1.length c1, .slice A2 t.f2.length c2, .int .i64 t.f3] 25)) (.cells #[.int .i64 0, .slice none 0 0, .slice none 0 0, .int .i64 0] 25); simp only [World.size_alloc] at this; exact blk_far this (by show _ ≠ p; omega) _⟩
  have HGG : Aside0 (w.heap.size ≤ w.heap.size + 1 ∧ w.heap.size + 1 < w.heap.size + 1 + 1) := ⟨by omega, by omega⟩
  rw [← hwb]
  clear hwb hlp HN0 HM1
  generalize w.heap.size + 1 + 1 = g6 at *
  generalize w.heap.size + 1 = g5 at *
  generalize hg4 : w.heap.size = g4 at *
  have HG4 := Aside0.mk hg4
  clear hg4
  refine (fault_any HNB.out.m1 _ 14 (by decide)).mono ?_
  rintro e w2 ⟨rfl, E2, _, hn⟩
  have HN2 := Aside0.mk (HNB.out.trans hn)
  have K4b := Aside0.mk (hn.blk K4.out (by decide) (by decide))
  have K5b := Aside0.mk (hn.blk K5.out (by decide) (by decide))
  have K6b := Aside0.mk (hn.blk K6.out (by decide) (by decide))
  clear hn HNB K4 K5 K6
  obtain ⟨sz2, m2⟩ := HN2.out.m1
  have z12 := m2.z12
  clear m2
  by_cases hE0 : E2 = 0
  · have e1 : decide (E2 = 0) = true := decide_eq_true hE0
    have e2 : (E2 == 0) = true := beq_iff_eq.mpr hE0
    have e3 : (E2 != 0) = false := bne_eq_false_iff_eq.mpr hE0
    have HE0 := Aside0.mk hE0
    clear hE0
    have q0 : w2.cell? ⟨g5, 0, none⟩ = some (.int .i64 t.f0) := (blk_cell K5b.out 0).trans rfl
    by_cases hk : 20 ≤ t.f0
    · have e4 : decide (20 ≤ t.f0) = true := decide_eq_true hk
      have hn0 : 0 < t.f1.length := Nat.pos_of_ne_zero (WF.out.kd hk)
      obtain ⟨ad1, hae, hx⟩ := str_at TAA.out.n hn0
      have HX := Aside0.mk hx
      have HAE := Aside0.mk hae
      clear hx hae
      generalize t.f1[0] = nm at *
      go_wp2_with fail
      clear e1 e2 e3 q0 z12 e4
      have HNd : Aside0 (Nx h p vi vo dp w v E res w2.drew v E2 res) := ⟨HN2.out.drewN 1⟩
      have K4d : Aside0 (w2.drew.heap[g4]? = some (.cells #[.string key, .int .i64 (at_ : Int), .slice U us.length cU, .slice D ds.length cD, .bool out] 160 (0, 0))) := ⟨K4b.out⟩
      have K5d : Aside0 (w2.drew.heap[g5]? = some (.cells #[.int .i64 t.f0, .slice (some ad1) t.f1.length c1, .slice A2 t.f2.length c2, .int .i64 t.f3] 25 (0, 0))) := ⟨by have := K5b.out; rw [HAE.out] at this; exact this⟩
      have K6d : Aside0 (w2.drew.heap[g6]? = some (.cells #[.int .i64 0, .slice none 0 0, .slice none 0 0, .int .i64 0] 25 (0, 0))) := ⟨K6b.out⟩
      have n47 : g4 ≠ w2.heap.size := by have := blk_lt K4b.out; omega
      have n57 : g5 ≠ w2.heap.size := by have := blk_lt K5b.out; omega
      have n67 : g6 ≠ w2.heap.size := by have := blk_lt K6b.out; omega
      have HGL := Aside0.mk HN2.out.go.keep.1
      have HL6 : Aside0 (g6 < w2.heap.size ∧ w.heap.size ≤ w2.heap.size) := ⟨blk_lt K6b.out, HN2.out.go.keep.1⟩
      have HNa : Aside0 (Nx h p vi vo dp w v E res (w2.alloc (.cells #[.int .i64 0, .slice none 0 0, .slice none 0 0, .int .i64 0] 25)).drew v E2 res) := ⟨(HN2.out.below (below_alloc (Below.refl _ _) (.cells #[.int .i64 0, .slice none 0 0, .slice none 0 0, .int .i64 0] 25))).drewN 1⟩
      have K4a : Aside0 ((w2.alloc (.cells #[.int .i64 0, .slice none 0 0, .slice none 0 0, .int .i64 0] 25)).drew.heap[g4]? = some (.cells #[.string key, .int .i64 (at_ : Int), .slice U us.length cU, .slice D ds.length cD, .bool out] 160 (0, 0))) := ⟨blk_alloc K4b.out _⟩
      have K5a : Aside0 ((w2.alloc (.cells #[.int .i64 0, .slice none 0 0, .slice none 0 0, .int .i64 0] 25)).drew.heap[g5]? = some (.cells #[.int .i64 t.f0, .slice (some ad1) t.f1.length c1, .slice A2 t.f2.length c2, .int .i64 t.f3] 25 (0, 0))) := ⟨blk_alloc K5d.out _⟩
      have K6a : Aside0 ((w2.alloc (.cells #[.int .i64 0, .slice none 0 0, .slice none 0 0, .int .i64 0] 25)).drew.heap[g6]? = some (.cells #[.int .i64 0, .slice none 0 0, .slice none 0 0, .int .i64 0] 25 (0, 0))) := ⟨blk_alloc K6b.out _⟩
      have K7a : Aside0 ((w2.alloc (.cells #[.int .i64 0, .slice none 0 0, .slice none 0 0, .int .i64 0] 25)).drew.heap[w2.heap.size]? = some (.cells #[.int .i64 0, .slice none 0 0, .slice none 0 0, .int .i64 0] 25 (0, 0))) := ⟨blk_new w2 _⟩
      clear HN2 K4b K5b K6b
      have HSS : Aside0 (∀ w' : World, w'.heap[g4]? = some (.cells #[.string key, .int .i64 (at_ : Int), .slice U us.length cU, .slice D ds.length cD, .bool out] 160 (0, 0)) → w'.heap[g5]? = some (.cells #[.int .i64 t.f0, .slice (some ad1) t.f1.length c1, .slice A2 t.f2.length c2, .int .i64 t.f3] 25 (0, 0)) → Below h.W0.heap.size h.W0 w' → w'.cell? ⟨g4, 0, none⟩ = some (.string key) ∧ w'.cell? ⟨g4, 1, none⟩ = some (.int .i64 (at_ : Int)) ∧ w'.cell? ⟨g4, 2, none⟩ = some (.slice U us.length cU) ∧ w'.cell? ⟨g4, 3, none⟩ = some (.slice D ds.length cD) ∧ w'.cell? ⟨g4, 4, none⟩ = some (.bool out) ∧ w'.cell? ⟨g5, 1, none⟩ = some (.slice (some ad1) t.f1.length c1) ∧ w'.cell? (ad1.add 0) = some (.string nm) ∧ w'.cell? ad1 = some (.string nm)) :=
        ⟨fun w' h1 h2 h3 => ⟨(blk_cell h1 0).trans rfl, (blk_cell h1 1).trans rfl, (blk_cell h1 2).trans rfl, (blk_cell h1 3).trans rfl, (blk_cell h1 4).trans rfl, (blk_cell h2 1).trans rfl, HX.out w' h3, by have := HX.out w' h3; rw [add0] at this; exact this⟩⟩
      go_region_held3 (fun w' => w'.cell? ⟨g4, 0, none⟩ = some (.string key) ∧ w'.cell? ⟨g4, 1, none⟩ = some (.int .i64 (at_ : Int)) ∧ w'.cell? ⟨g4, 2, none⟩ = some (.slice U us.length cU) ∧ w'.cell? ⟨g4, 3, none⟩ = some (.slice D ds.length cD) ∧ w'.cell? ⟨g4, 4, none⟩ = some (.bool out) ∧ w'.cell? ⟨g5, 1, none⟩ = some (.slice (some ad1) t.f1.length c1) ∧ w'.cell? (ad1.add 0) = some (.string nm) ∧ w'.cell? ad1 = some (.string nm))
        (first
          | with_reducible exact HSS.out _ K4d.out K5d.out HNd.out.bl
          | with_reducible exact HSS.out _ K4a.out K5a.out HNa.out.bl
          | with_reducible exact HSS.out _ K4c.out K5c.out HN3.out.bl
          | with_reducible exact HSS.out _ K4c.out K5c.out HN3.out.bl
          | with_reducible exact HSS.out _ ((HP7.out.2.2 g4 n47).trans K4c.out) ((HP7.out.2.2 g5 n57).trans K5c.out) HP7.out.1.bl
          | with_reducible exact HSS.out _ (blk_alloc K4c.out _) (blk_alloc K5c.out _) (HN3.out.below (below_alloc (Below.refl _ _) _)).bl)
        ((go_at_call 111; refine (HNC.out p _ v vi vo E2 res ?hm key at_ us U cU ds D cD out SC.out nm).mono ?_; (case hm => first | with_reducible exact HNd.out.m1 | with_reducible exact HNa.out.m1); rintro e w3 ⟨v3, E3, res3, y, B1, d1, B2, d2, i, rfl, hn, htv, hgd⟩; first | (have HN3 := Aside0.mk (Nx.trans HNd.out hn); have K4c := Aside0.mk (hn.blk K4d.out (by decide) (by decide)); have K5c := Aside0.mk (hn.blk K5d.out (by decide) (by decide)); have K6c := Aside0.mk (hn.blk K6d.out (by decide) (by decide)); have HTV := Aside0.mk htv; have HGD := Aside0.mk hgd; clear hn htv hgd) | (have HN3 := Aside0.mk (Nx.trans HNa.out hn); have K4c := Aside0.mk (hn.blk K4a.out (by decide) (by decide)); have K5c := Aside0.mk (hn.blk K5a.out (by decide) (by decide)); have K6c := Aside0.mk (hn.blk K6a.out (by decide) (by decide)); have K7c := Aside0.mk (hn.blk K7a.out (by decide) (by decide)); have HP7 := Aside0.mk (HN3.out.put4 K7c.out (by decide) (by decide) HGL.out (.int .i64 y.f0) (.slice B1 y.f1.length d1) (.slice B2 y.f2.length d2) (.int .i64 y.f3)); have r0 : w3.cell? ⟨w2.heap.size, 0, none⟩ = some (.int .i64 0) := (blk_cell K7c.out 0).trans rfl; have r1 : w3.cell? ⟨w2.heap.size, 1, none⟩ = some (.slice none 0 0) := (blk_cell K7c.out 1).trans rfl; have r2 : w3.cell? ⟨w2.heap.size, 2, none⟩ = some (.slice none 0 0) := (blk_cell K7c.out 2).trans rfl; have r3 : w3.cell? ⟨w2.heap.size, 3, none⟩ = some (.int .i64 0) := (blk_cell K7c.out 3).trans rfl; have rf0 : w3.frozen? ⟨w2.heap.size, 0, none⟩ = false := blk_frozen K7c.out 0; have rf1 : w3.frozen? ⟨w2.heap.size, 1, none⟩ = false := blk_frozen K7c.out 1; have rf2 : w3.frozen? ⟨w2.heap.size, 2, none⟩ = false := blk_frozen K7c.out 2; have rf3 : w3.frozen? ⟨w2.heap.size, 3, none⟩ = false := blk_frozen K7c.out 3; have HTV := Aside0.mk htv; have HGD := Aside0.mk hgd; clear hn htv hgd)))
      · have HNx : Aside0 (Nx h p vi vo dp w v E res (w3.alloc (.cells #[.int .i64 y.f0, .slice B1 y.f1.length d1, .slice B2 y.f2.length d2, .int .i64 y.f3] 25)) v3 E3 res3) := ⟨HN3.out.below (below_alloc (Below.refl _ _) _)⟩
        have K5x : Aside0 ((w3.alloc (.cells #[.int .i64 y.f0, .slice B1 y.f1.length d1, .slice B2 y.f2.length d2, .int .i64 y.f3] 25)).heap[g5]? = some (.cells #[.int .i64 t.f0, .slice (some ad1) t.f1.length c1, .slice A2 t.f2.length c2, .int .i64 t.f3] 25 (0, 0))) := ⟨blk_alloc K5c.out _⟩
        have K6x : Aside0 ((w3.alloc (.cells #[.int .i64 y.f0, .slice B1 y.f1.length d1, .slice B2 y.f2.length d2, .int .i64 y.f3] 25)).heap[g6]? = some (.cells #[.int .i64 0, .slice none 0 0, .slice none 0 0, .int .i64 0] 25 (0, 0))) := ⟨blk_alloc K6c.out _⟩
        have K7x : Aside0 ((w3.alloc (.cells #[.int .i64 y.f0, .slice B1 y.f1.length d1, .slice B2 y.f2.length d2, .int .i64 y.f3] 25)).heap[w3.heap.size]? = some (.cells #[.int .i64 y.f0, .slice B1 y.f1.length d1, .slice B2 y.f2.length d2, .int .i64 y.f3] 25 (0, 0))) := ⟨blk_new w3 _⟩
        have HNE : Aside0 (g6 ≠ w3.heap.size) := ⟨by have := blk_lt K6c.out; omega⟩
        obtain ⟨Bs, HBs, HTx⟩ : ∃ Bs : Nat, Aside0 (g6 < Bs ∧ w.heap.size ≤ Bs) ∧ Aside0 (TV p (w3.alloc (.cells #[.int .i64 y.f0, .slice B1 y.f1.length d1, .slice B2 y.f2.length d2, .int .i64 y.f3] 25)) Bs v3 y (.slice B1 y.f1.length d1) (.slice B2 y.f2.length d2)) :=
          ⟨w2.drew.heap.size, HL6, ⟨HTV.out.go (Go.below _ _ (below_alloc (Below.refl _ _) _))⟩⟩
        clear K4c K5c K6c HTV
        obtain ⟨wx, hwx⟩ : ∃ wx : World, wx = (w3.alloc (.cells #[.int .i64 y.f0, .slice B1 y.f1.length d1, .slice B2 y.f2.length d2, .int .i64 y.f3] 25)) := ⟨_, rfl⟩
        rw [← hwx] at HNx K5x K6x K7x HTx ⊢
        clear hwx
        have n67x : g6 ≠ w3.heap.size := HNE.out
        clear HNE
        generalize w3.heap.size = g7 at *
        have q0 : wx.cell? ⟨g5, 0, none⟩ = some (.int .i64 t.f0) := (blk_cell K5x.out 0).trans rfl
        by_cases k22 : t.f0 = 22
        · have e8 : decide (t.f0 = 22) = true := decide_eq_true k22
          have e9 : (t.f0 == 22) = true := beq_iff_eq.mpr k22
          clear k22
          by_cases hi : i < 0
          · have e5 : decide (i < 0) = true := decide_eq_true hi
            have r0 : wx.cell? ⟨g7, 0, none⟩ = some (.int .i64 y.f0) := (blk_cell K7x.out 0).trans rfl
            have r1 : wx.cell? ⟨g7, 1, none⟩ = some (.slice B1 y.f1.length d1) := (blk_cell K7x.out 1).trans rfl
            have r2 : wx.cell? ⟨g7, 2, none⟩ = some (.slice B2 y.f2.length d2) := (blk_cell K7x.out 2).trans rfl
            have r3 : wx.cell? ⟨g7, 3, none⟩ = some (.int .i64 y.f3) := (blk_cell K7x.out 3).trans rfl
            have n76x := n67x.symm
            have s0 : wx.cell? ⟨g6, 0, none⟩ = some (.int .i64 0) := (blk_cell K6x.out 0).trans rfl
            have s1 : wx.cell? ⟨g6, 1, none⟩ = some (.slice none 0 0) := (blk_cell K6x.out 1).trans rfl
            have s2 : wx.cell? ⟨g6, 2, none⟩ = some (.slice none 0 0) := (blk_cell K6x.out 2).trans rfl
            have s3 : wx.cell? ⟨g6, 3, none⟩ = some (.int .i64 0) := (blk_cell K6x.out 3).trans rfl
            have sf0 : wx.frozen? ⟨g6, 0, none⟩ = false := blk_frozen K6x.out 0
            have sf1 : wx.frozen? ⟨g6, 1, none⟩ = false := blk_frozen K6x.out 1
            have sf2 : wx.frozen? ⟨g6, 2, none⟩ = false := blk_frozen K6x.out 2
            have sf3 : wx.frozen? ⟨g6, 3, none⟩ = false := blk_frozen K6x.out 3
            have HP6 := Aside0.mk (HNx.out.put4 K6x.out (by decide) (by decide) (by have h1 := HG4.out; have h2 := HGG.out; omega) (.int .i64 y.f0) (.slice B1 y.f1.length d1) (.slice B2 y.f2.length d2) (.int .i64 y.f3))
            have HTZ : Aside0 (TV p ((((wx.setCell ⟨g6, 0, none⟩ (.int .i64 y.f0)).setCell ⟨g6, 1, none⟩ (.slice B1 y.f1.length d1)).setCell ⟨g6, 2, none⟩ (.slice B2 y.f2.length d2)).setCell ⟨g6, 3, none⟩ (.int .i64 y.f3)) Bs v3 y (.slice B1 y.f1.length d1) (.slice B2 y.f2.length d2)) := ⟨by (repeat refine TV.set ?_ (by exact HBs.out.1) _ _); exact HTx.out⟩
            go_wp2_with fail
            clear s0 sf0 s1 sf1 s2 sf2 s3 sf3
            obtain ⟨wf, hwf⟩ : ∃ wf : World, wf = ((((wx.setCell ⟨g6, 0, none⟩ (.int .i64 y.f0)).setCell ⟨g6, 1, none⟩ (.slice B1 y.f1.length d1)).setCell ⟨g6, 2, none⟩ (.slice B2 y.f2.length d2)).setCell ⟨g6, 3, none⟩ (.int .i64 y.f3)) := ⟨_, rfl⟩
            rw [← hwf] at HP6 HTZ ⊢
            clear hwf
            have s0 : wf.cell? ⟨g6, 0, none⟩ = some (.int .i64 y.f0) := (blk_cell HP6.out.2.1 0).trans rfl
            have s1 : wf.cell? ⟨g6, 1, none⟩ = some (.slice B1 y.f1.length d1) := (blk_cell HP6.out.2.1 1).trans rfl
            have s2 : wf.cell? ⟨g6, 2, none⟩ = some (.slice B2 y.f2.length d2) := (blk_cell HP6.out.2.1 2).trans rfl
            have s3 : wf.cell? ⟨g6, 3, none⟩ = some (.int .i64 y.f3) := (blk_cell HP6.out.2.1 3).trans rfl
            exact bodyPost_ret (v := .agg #[.int .i64 y.f0, .slice B1 y.f1.length d1, .slice B2 y.f2.length d2, .int .i64 y.f3]) (by simp [results, Try.results104, go_sem, *]) rfl ⟨v3, E3, res3, y, B1, d1, B2, d2, rfl, HP6.out.1, HTZ.out.lower HBs.out.2, fun e => (HGD.out e).1⟩
          · have e5 : decide (i < 0) = false := decide_eq_false hi
            have HI : Aside0 (0 ≤ i) := ⟨by omega⟩
            have em : max i 0 = i := by omega
            go_wp2_with fail
            clear q0
            refine (fault_any HNx.out.m1 _ 6 (by decide)).mono ?_
            rintro e w4 ⟨rfl, E4, hE, hn⟩
            have HN4 := Aside0.mk (HNx.out.trans hn)
            have HE4 := Aside0.mk hE
            have HR4 := Aside0.mk hn.er
            have K5y := Aside0.mk (hn.blk K5x.out (by decide) (by decide))
            have K6y := Aside0.mk (hn.blk K6x.out (by decide) (by decide))
            clear hn hE
            have q0 : w4.cell? ⟨g5, 0, none⟩ = some (.int .i64 t.f0) := (blk_cell K5y.out 0).trans rfl
            by_cases k21 : t.f0 = 21
            · have e6 : decide (t.f0 = 21) = true := decide_eq_true k21
              have e7 : (t.f0 == 21) = true := beq_iff_eq.mpr k21
              clear k21
              have s0 : w4.cell? ⟨g6, 0, none⟩ = some (.int .i64 0) := (blk_cell K6y.out 0).trans rfl
              have s1 : w4.cell? ⟨g6, 1, none⟩ = some (.slice none 0 0) := (blk_cell K6y.out 1).trans rfl
              have s2 : w4.cell? ⟨g6, 2, none⟩ = some (.slice none 0 0) := (blk_cell K6y.out 2).trans rfl
              have s3 : w4.cell? ⟨g6, 3, none⟩ = some (.int .i64 0) := (blk_cell K6y.out 3).trans rfl
              have sf0 : w4.frozen? ⟨g6, 0, none⟩ = false := blk_frozen K6y.out 0
              have sf1 : w4.frozen? ⟨g6, 1, none⟩ = false := blk_frozen K6y.out 1
              have sf2 : w4.frozen? ⟨g6, 2, none⟩ = false := blk_frozen K6y.out 2
              have sf3 : w4.frozen? ⟨g6, 3, none⟩ = false := blk_frozen K6y.out 3
              have HP6 := Aside0.mk (HN4.out.put4 K6y.out (by decide) (by decide) (by have h1 := HG4.out; have h2 := HGG.out; omega) (.int .i64 21) (.slice none 0 0) (.slice none 0 0) (.int .i64 i))
              have HTZ : Aside0 (TV p ((((w4.setCell ⟨g6, 0, none⟩ (.int .i64 21)).setCell ⟨g6, 1, none⟩ (.slice none 0 0)).setCell ⟨g6, 2, none⟩ (.slice none 0 0)).setCell ⟨g6, 3, none⟩ (.int .i64 i)) w.heap.size v3 ⟨21, [], [], i⟩ (.slice none 0 0) (.slice none 0 0)) := ⟨⟨Kd.R_nil _ _ _ _ _, Kd.R_nil _ _ _ _ _⟩⟩
              go_wp2_with fail
              clear s0 sf0 s1 sf1 s2 sf2 s3 sf3
              obtain ⟨wf, hwf⟩ : ∃ wf : World, wf = ((((w4.setCell ⟨g6, 0, none⟩ (.int .i64 21)).setCell ⟨g6, 1, none⟩ (.slice none 0 0)).setCell ⟨g6, 2, none⟩ (.slice none 0 0)).setCell ⟨g6, 3, none⟩ (.int .i64 i)) := ⟨_, rfl⟩
              rw [← hwf] at HP6 HTZ ⊢
              clear hwf
              have s0 : wf.cell? ⟨g6, 0, none⟩ = some (.int .i64 21) := (blk_cell HP6.out.2.1 0).trans rfl
              have s1 : wf.cell? ⟨g6, 1, none⟩ = some (.slice none 0 0) := (blk_cell HP6.out.2.1 1).trans rfl
              have s2 : wf.cell? ⟨g6, 2, none⟩ = some (.slice none 0 0) := (blk_cell HP6.out.2.1 2).trans rfl
              have s3 : wf.cell? ⟨g6, 3, none⟩ = some (.int .i64 i) := (blk_cell HP6.out.2.1 3).trans rfl
              exact bodyPost_ret (v := .agg #[.int .i64 21, .slice none 0 0, .slice none 0 0, .int .i64 i]) (by simp [results, Try.results104, go_sem, *]) rfl ⟨v3, E4, res3, ⟨21, [], [], i⟩, none, 0, none, 0, rfl, HP6.out.1, HTZ.out, fun e => .mk (fun _ => ⟨HI.out, (HGD.out (HR4.out e)).2⟩) (fun y hy => by cases hy)⟩
            · have e6 : decide (t.f0 = 21) = false := decide_eq_false k21
              have e7 : (t.f0 == 21) = false := beq_eq_false_iff_ne.mpr k21
              clear k21
              have s0 : w4.cell? ⟨g6, 0, none⟩ = some (.int .i64 0) := (blk_cell K6y.out 0).trans rfl
              have s1 : w4.cell? ⟨g6, 1, none⟩ = some (.slice none 0 0) := (blk_cell K6y.out 1).trans rfl
              have s2 : w4.cell? ⟨g6, 2, none⟩ = some (.slice none 0 0) := (blk_cell K6y.out 2).trans rfl
              have s3 : w4.cell? ⟨g6, 3, none⟩ = some (.int .i64 0) := (blk_cell K6y.out 3).trans rfl
              have sf0 : w4.frozen? ⟨g6, 0, none⟩ = false := blk_frozen K6y.out 0
              have sf1 : w4.frozen? ⟨g6, 1, none⟩ = false := blk_frozen K6y.out 1
              have sf2 : w4.frozen? ⟨g6, 2, none⟩ = false := blk_frozen K6y.out 2
              have sf3 : w4.frozen? ⟨g6, 3, none⟩ = false := blk_frozen K6y.out 3
              have HP6 := Aside0.mk (HN4.out.put4 K6y.out (by decide) (by decide) (by have h1 := HG4.out; have h2 := HGG.out; omega) (.int .i64 20) (.slice none 0 0) (.slice none 0 0) (.int .i64 i))
              have HTZ : Aside0 (TV p ((((w4.setCell ⟨g6, 0, none⟩ (.int .i64 20)).setCell ⟨g6, 1, none⟩ (.slice none 0 0)).setCell ⟨g6, 2, none⟩ (.slice none 0 0)).setCell ⟨g6, 3, none⟩ (.int .i64 i)) w.heap.size v3 ⟨20, [], [], i⟩ (.slice none 0 0) (.slice none 0 0)) := ⟨⟨Kd.R_nil _ _ _ _ _, Kd.R_nil _ _ _ _ _⟩⟩
              go_wp2_with fail
              clear s0 sf0 s1 sf1 s2 sf2 s3 sf3
              obtain ⟨wf, hwf⟩ : ∃ wf : World, wf = ((((w4.setCell ⟨g6, 0, none⟩ (.int .i64 20)).setCell ⟨g6, 1, none⟩ (.slice none 0 0)).setCell ⟨g6, 2, none⟩ (.slice none 0 0)).setCell ⟨g6, 3, none⟩ (.int .i64 i)) := ⟨_, rfl⟩
              rw [← hwf] at HP6 HTZ ⊢
              clear hwf
              have s0 : wf.cell? ⟨g6, 0, none⟩ = some (.int .i64 20) := (blk_cell HP6.out.2.1 0).trans rfl
              have s1 : wf.cell? ⟨g6, 1, none⟩ = some (.slice none 0 0) := (blk_cell HP6.out.2.1 1).trans rfl
              have s2 : wf.cell? ⟨g6, 2, none⟩ = some (.slice none 0 0) := (blk_cell HP6.out.2.1 2).trans rfl
              have s3 : wf.cell? ⟨g6, 3, none⟩ = some (.int .i64 i) := (blk_cell HP6.out.2.1 3).trans rfl
              exact bodyPost_ret (v := .agg #[.int .i64 20, .slice none 0 0, .slice none 0 0, .int .i64 i]) (by simp [results, Try.results104, go_sem, *]) rfl ⟨v3, E4, res3, ⟨20, [], [], i⟩, none, 0, none, 0, rfl, HP6.out.1, HTZ.out, fun e => .mk (fun _ => ⟨HI.out, (HGD.out (HR4.out e)).2⟩) (fun y hy => by cases hy)⟩
        · have e8 : decide (t.f0 = 22) = false := decide_eq_false k22
          have e9 : (t.f0 == 22) = false := beq_eq_false_iff_ne.mpr k22
          clear k22
          by_cases hi : i < 0
          · have e5 : decide (i < 0) = true := decide_eq_true hi
            have em : max i 0 = 0 := by omega
            go_wp2_with fail
            clear q0
            refine (fault_any HNx.out.m1 _ 6 (by decide)).mono ?_
            rintro e w4 ⟨rfl, E4, hE, hn⟩
            have HN4 := Aside0.mk (HNx.out.trans hn)
            have HE4 := Aside0.mk hE
            have HR4 := Aside0.mk hn.er
            have K5y := Aside0.mk (hn.blk K5x.out (by decide) (by decide))
            have K6y := Aside0.mk (hn.blk K6x.out (by decide) (by decide))
            clear hn hE
            have q0 : w4.cell? ⟨g5, 0, none⟩ = some (.int .i64 t.f0) := (blk_cell K5y.out 0).trans rfl
            by_cases k21 : t.f0 = 21
            · have e6 : decide (t.f0 = 21) = true := decide_eq_true k21
              have e7 : (t.f0 == 21) = true := beq_iff_eq.mpr k21
              clear k21
              have s0 : w4.cell? ⟨g6, 0, none⟩ = some (.int .i64 0) := (blk_cell K6y.out 0).trans rfl
              have s1 : w4.cell? ⟨g6, 1, none⟩ = some (.slice none 0 0) := (blk_cell K6y.out 1).trans rfl
              have s2 : w4.cell? ⟨g6, 2, none⟩ = some (.slice none 0 0) := (blk_cell K6y.out 2).trans rfl
              have s3 : w4.cell? ⟨g6, 3, none⟩ = some (.int .i64 0) := (blk_cell K6y.out 3).trans rfl
              have sf0 : w4.frozen? ⟨g6, 0, none⟩ = false := blk_frozen K6y.out 0
              have sf1 : w4.frozen? ⟨g6, 1, none⟩ = false := blk_frozen K6y.out 1
              have sf2 : w4.frozen? ⟨g6, 2, none⟩ = false := blk_frozen K6y.out 2
              have sf3 : w4.frozen? ⟨g6, 3, none⟩ = false := blk_frozen K6y.out 3
              have HP6 := Aside0.mk (HN4.out.put4 K6y.out (by decide) (by decide) (by have h1 := HG4.out; have h2 := HGG.out; omega) (.int .i64 21) (.slice none 0 0) (.slice none 0 0) (.int .i64 0))
              have HTZ : Aside0 (TV p ((((w4.setCell ⟨g6, 0, none⟩ (.int .i64 21)).setCell ⟨g6, 1, none⟩ (.slice none 0 0)).setCell ⟨g6, 2, none⟩ (.slice none 0 0)).setCell ⟨g6, 3, none⟩ (.int .i64 0)) w.heap.size v3 ⟨21, [], [], 0⟩ (.slice none 0 0) (.slice none 0 0)) := ⟨⟨Kd.R_nil _ _ _ _ _, Kd.R_nil _ _ _ _ _⟩⟩
              go_wp2_with fail
              clear s0 sf0 s1 sf1 s2 sf2 s3 sf3
              obtain ⟨wf, hwf⟩ : ∃ wf : World, wf = ((((w4.setCell ⟨g6, 0, none⟩ (.int .i64 21)).setCell ⟨g6, 1, none⟩ (.slice none 0 0)).setCell ⟨g6, 2, none⟩ (.slice none 0 0)).setCell ⟨g6, 3, none⟩ (.int .i64 0)) := ⟨_, rfl⟩
              rw [← hwf] at HP6 HTZ ⊢
              clear hwf
              have s0 : wf.cell? ⟨g6, 0, none⟩ = some (.int .i64 21) := (blk_cell HP6.out.2.1 0).trans rfl
              have s1 : wf.cell? ⟨g6, 1, none⟩ = some (.slice none 0 0) := (blk_cell HP6.out.2.1 1).trans rfl
              have s2 : wf.cell? ⟨g6, 2, none⟩ = some (.slice none 0 0) := (blk_cell HP6.out.2.1 2).trans rfl
              have s3 : wf.cell? ⟨g6, 3, none⟩ = some (.int .i64 0) := (blk_cell HP6.out.2.1 3).trans rfl
              exact bodyPost_ret (v := .agg #[.int .i64 21, .slice none 0 0, .slice none 0 0, .int .i64 0]) (by simp [results, Try.results104, go_sem, *]) rfl ⟨v3, E4, res3, ⟨21, [], [], 0⟩, none, 0, none, 0, rfl, HP6.out.1, HTZ.out, fun e => by cases HE4.out e⟩
            · have e6 : decide (t.f0 = 21) = false := decide_eq_false k21
              have e7 : (t.f0 == 21) = false := beq_eq_false_iff_ne.mpr k21
              clear k21
              have s0 : w4.cell? ⟨g6, 0, none⟩ = some (.int .i64 0) := (blk_cell K6y.out 0).trans rfl
              have s1 : w4.cell? ⟨g6, 1, none⟩ = some (.slice none 0 0) := (blk_cell K6y.out 1).trans rfl
              have s2 : w4.cell? ⟨g6, 2, none⟩ = some (.slice none 0 0) := (blk_cell K6y.out 2).trans rfl
              have s3 : w4.cell? ⟨g6, 3, none⟩ = some (.int .i64 0) := (blk_cell K6y.out 3).trans rfl
              have sf0 : w4.frozen? ⟨g6, 0, none⟩ = false := blk_frozen K6y.out 0
              have sf1 : w4.frozen? ⟨g6, 1, none⟩ = false := blk_frozen K6y.out 1
              have sf2 : w4.frozen? ⟨g6, 2, none⟩ = false := blk_frozen K6y.out 2
              have sf3 : w4.frozen? ⟨g6, 3, none⟩ = false := blk_frozen K6y.out 3
              have HP6 := Aside0.mk (HN4.out.put4 K6y.out (by decide) (by decide) (by have h1 := HG4.out; have h2 := HGG.out; omega) (.int .i64 20) (.slice none 0 0) (.slice none 0 0) (.int .i64 0))
              have HTZ : Aside0 (TV p ((((w4.setCell ⟨g6, 0, none⟩ (.int .i64 20)).setCell ⟨g6, 1, none⟩ (.slice none 0 0)).setCell ⟨g6, 2, none⟩ (.slice none 0 0)).setCell ⟨g6, 3, none⟩ (.int .i64 0)) w.heap.size v3 ⟨20, [], [], 0⟩ (.slice none 0 0) (.slice none 0 0)) := ⟨⟨Kd.R_nil _ _ _ _ _, Kd.R_nil _ _ _ _ _⟩⟩
              go_wp2_with fail
              clear s0 sf0 s1 sf1 s2 sf2 s3 sf3
              obtain ⟨wf, hwf⟩ : ∃ wf : World, wf = ((((w4.setCell ⟨g6, 0, none⟩ (.int .i64 20)).setCell ⟨g6, 1, none⟩ (.slice none 0 0)).setCell ⟨g6, 2, none⟩ (.slice none 0 0)).setCell ⟨g6, 3, none⟩ (.int .i64 0)) := ⟨_, rfl⟩
              rw [← hwf] at HP6 HTZ ⊢
              clear hwf
              have s0 : wf.cell? ⟨g6, 0, none⟩ = some (.int .i64 20) := (blk_cell HP6.out.2.1 0).trans rfl
              have s1 : wf.cell? ⟨g6, 1, none⟩ = some (.slice none 0 0) := (blk_cell HP6.out.2.1 1).trans rfl
              have s2 : wf.cell? ⟨g6, 2, none⟩ = some (.slice none 0 0) := (blk_cell HP6.out.2.1 2).trans rfl
              have s3 : wf.cell? ⟨g6, 3, none⟩ = some (.int .i64 0) := (blk_cell HP6.out.2.1 3).trans rfl
              exact bodyPost_ret (v := .agg #[.int .i64 20, .slice none 0 0, .slice none 0 0, .int .i64 0]) (by simp [results, Try.results104, go_sem, *]) rfl ⟨v3, E4, res3, ⟨20, [], [], 0⟩, none, 0, none, 0, rfl, HP6.out.1, HTZ.out, fun e => by cases HE4.out e⟩
          · have e5 : decide (i < 0) = false := decide_eq_false hi
            have HI : Aside0 (0 ≤ i) := ⟨by omega⟩
            have em : max i 0 = i := by omega
            go_wp2_with fail
            clear q0
            refine (fault_any HNx.out.m1 _ 6 (by decide)).mono ?_
            rintro e w4 ⟨rfl, E4, hE, hn⟩
            have HN4 := Aside0.mk (HNx.out.trans hn)
            have HE4 := Aside0.mk hE
            have HR4 := Aside0.mk hn.er
            have K5y := Aside0.mk (hn.blk K5x.out (by decide) (by decide))
            have K6y := Aside0.mk (hn.blk K6x.out (by decide) (by decide))
            clear hn hE
            have q0 : w4.cell? ⟨g5, 0, none⟩ = some (.int .i64 t.f0) := (blk_cell K5y.out 0).trans rfl
            by_cases k21 : t.f0 = 21
            · have e6 : decide (t.f0 = 21) = true := decide_eq_true k21
              have e7 : (t.f0 == 21) = true := beq_iff_eq.mpr k21
              clear k21
              have s0 : w4.cell? ⟨g6, 0, none⟩ = some (.int .i64 0) := (blk_cell K6y.out 0).trans rfl
              have s1 : w4.cell? ⟨g6, 1, none⟩ = some (.slice none 0 0) := (blk_cell K6y.out 1).trans rfl
              have s2 : w4.cell? ⟨g6, 2, none⟩ = some (.slice none 0 0) := (blk_cell K6y.out 2).trans rfl
              have s3 : w4.cell? ⟨g6, 3, none⟩ = some (.int .i64 0) := (blk_cell K6y.out 3).trans rfl
              have sf0 : w4.frozen? ⟨g6, 0, none⟩ = false := blk_frozen K6y.out 0
              have sf1 : w4.frozen? ⟨g6, 1, none⟩ = false := blk_frozen K6y.out 1
              have sf2 : w4.frozen? ⟨g6, 2, none⟩ = false := blk_frozen K6y.out 2
              have sf3 : w4.frozen? ⟨g6, 3, none⟩ = false := blk_frozen K6y.out 3
              have HP6 := Aside0.mk (HN4.out.put4 K6y.out (by decide) (by decide) (by have h1 := HG4.out; have h2 := HGG.out; omega) (.int .i64 21) (.slice none 0 0) (.slice none 0 0) (.int .i64 i))
              have HTZ : Aside0 (TV p ((((w4.setCell ⟨g6, 0, none⟩ (.int .i64 21)).setCell ⟨g6, 1, none⟩ (.slice none 0 0)).setCell ⟨g6, 2, none⟩ (.slice none 0 0)).setCell ⟨g6, 3, none⟩ (.int .i64 i)) w.heap.size v3 ⟨21, [], [], i⟩ (.slice none 0 0) (.slice none 0 0)) := ⟨⟨Kd.R_nil _ _ _ _ _, Kd.R_nil _ _ _ _ _⟩⟩
              go_wp2_with fail
              clear s0 sf0 s1 sf1 s2 sf2 s3 sf3
              obtain ⟨wf, hwf⟩ : ∃ wf : World, wf = ((((w4.setCell ⟨g6, 0, none⟩ (.int .i64 21)).setCell ⟨g6, 1, none⟩ (.slice none 0 0)).setCell ⟨g6, 2, none⟩ (.slice none 0 0)).setCell ⟨g6, 3, none⟩ (.int .i64 i)) := ⟨_, rfl⟩
              rw [← hwf] at HP6 HTZ ⊢
              clear hwf
              have s0 : wf.cell? ⟨g6, 0, none⟩ = some (.int .i64 21) := (blk_cell HP6.out.2.1 0).trans rfl
              have s1 : wf.cell? ⟨g6, 1, none⟩ = some (.slice none 0 0) := (blk_cell HP6.out.2.1 1).trans rfl
              have s2 : wf.cell? ⟨g6, 2, none⟩ = some (.slice none 0 0) := (blk_cell HP6.out.2.1 2).trans rfl
              have s3 : wf.cell? ⟨g6, 3, none⟩ = some (.int .i64 i) := (blk_cell HP6.out.2.1 3).trans rfl
              exact bodyPost_ret (v := .agg #[.int .i64 21, .slice none 0 0, .slice none 0 0, .int .i64 i]) (by simp [results, Try.results104, go_sem, *]) rfl ⟨v3, E4, res3, ⟨21, [], [], i⟩, none, 0, none, 0, rfl, HP6.out.1, HTZ.out, fun e => .mk (fun _ => ⟨HI.out, (HGD.out (HR4.out e)).2⟩) (fun y hy => by cases hy)⟩
            · have e6 : decide (t.f0 = 21) = false := decide_eq_false k21
              have e7 : (t.f0 == 21) = false := beq_eq_false_iff_ne.mpr k21
              clear k21
              have s0 : w4.cell? ⟨g6, 0, none⟩ = some (.int .i64 0) := (blk_cell K6y.out 0).trans rfl
              have s1 : w4.cell? ⟨g6, 1, none⟩ = some (.slice none 0 0) := (blk_cell K6y.out 1).trans rfl
              have s2 : w4.cell? ⟨g6, 2, none⟩ = some (.slice none 0 0) := (blk_cell K6y.out 2).trans rfl
              have s3 : w4.cell? ⟨g6, 3, none⟩ = some (.int .i64 0) := (blk_cell K6y.out 3).trans rfl
              have sf0 : w4.frozen? ⟨g6, 0, none⟩ = false := blk_frozen K6y.out 0
              have sf1 : w4.frozen? ⟨g6, 1, none⟩ = false := blk_frozen K6y.out 1
              have sf2 : w4.frozen? ⟨g6, 2, none⟩ = false := blk_frozen K6y.out 2
              have sf3 : w4.frozen? ⟨g6, 3, none⟩ = false := blk_frozen K6y.out 3
              have HP6 := Aside0.mk (HN4.out.put4 K6y.out (by decide) (by decide) (by have h1 := HG4.out; have h2 := HGG.out; omega) (.int .i64 20) (.slice none 0 0) (.slice none 0 0) (.int .i64 i))
              have HTZ : Aside0 (TV p ((((w4.setCell ⟨g6, 0, none⟩ (.int .i64 20)).setCell ⟨g6, 1, none⟩ (.slice none 0 0)).setCell ⟨g6, 2, none⟩ (.slice none 0 0)).setCell ⟨g6, 3, none⟩ (.int .i64 i)) w.heap.size v3 ⟨20, [], [], i⟩ (.slice none 0 0) (.slice none 0 0)) := ⟨⟨Kd.R_nil _ _ _ _ _, Kd.R_nil _ _ _ _ _⟩⟩
              go_wp2_with fail
              clear s0 sf0 s1 sf1 s2 sf2 s3 sf3
              obtain ⟨wf, hwf⟩ : ∃ wf : World, wf = ((((w4.setCell ⟨g6, 0, none⟩ (.int .i64 20)).setCell ⟨g6, 1, none⟩ (.slice none 0 0)).setCell ⟨g6, 2, none⟩ (.slice none 0 0)).setCell ⟨g6, 3, none⟩ (.int .i64 i)) := ⟨_, rfl⟩
              rw [← hwf] at HP6 HTZ ⊢
              clear hwf
              have s0 : wf.cell? ⟨g6, 0, none⟩ = some (.int .i64 20) := (blk_cell HP6.out.2.1 0).trans rfl
              have s1 : wf.cell? ⟨g6, 1, none⟩ = some (.slice none 0 0) := (blk_cell HP6.out.2.1 1).trans rfl
              have s2 : wf.cell? ⟨g6, 2, none⟩ = some (.slice none 0 0) := (blk_cell HP6.out.2.1 2).trans rfl
              have s3 : wf.cell? ⟨g6, 3, none⟩ = some (.int .i64 i) := (blk_cell HP6.out.2.1 3).trans rfl
              exact bodyPost_ret (v := .agg #[.int .i64 20, .slice none 0 0, .slice none 0 0, .int .i64 i]) (by simp [results, Try.results104, go_sem, *]) rfl ⟨v3, E4, res3, ⟨20, [], [], i⟩, none, 0, none, 0, rfl, HP6.out.1, HTZ.out, fun e => .mk (fun _ => ⟨HI.out, (HGD.out (HR4.out e)).2⟩) (fun y hy => by cases hy)⟩
      all_goals
        have HNx := Aside0.mk HP7.out.1
        have K5x := Aside0.mk ((HP7.out.2.2 g5 n57).trans K5c.out)
        have K6x := Aside0.mk ((HP7.out.2.2 g6 n67).trans K6c.out)
        have K7x := Aside0.mk HP7.out.2.1
        have HNE := Aside0.mk n67
        obtain ⟨Bs, HBs, HTx⟩ : ∃ Bs : Nat, Aside0 (g6 < Bs ∧ w.heap.size ≤ Bs) ∧ Aside0 (TV p ((((w3.setCell ⟨w2.heap.size, 0, none⟩ (.int .i64 y.f0)).setCell ⟨w2.heap.size, 1, none⟩ (.slice B1 y.f1.length d1)).setCell ⟨w2.heap.size, 2, none⟩ (.slice B2 y.f2.length d2)).setCell ⟨w2.heap.size, 3, none⟩ (.int .i64 y.f3)) Bs v3 y (.slice B1 y.f1.length d1) (.slice B2 y.f2.length d2)) :=
          ⟨(w2.alloc (.cells #[.int .i64 0, .slice none 0 0, .slice none 0 0, .int .i64 0] 25)).drew.heap.size, ⟨by have h1 := HL6.out; have h2 : (w2.alloc (.cells #[.int .i64 0, .slice none 0 0, .slice none 0 0, .int .i64 0] 25)).drew.heap.size = w2.heap.size + 1 := (by simp); omega⟩, ⟨by (repeat refine TV.set ?_ (by simp) _ _); exact HTV.out⟩⟩
        clear HP7 K4c K5c K6c K7c HTV r0 r1 r2 r3 rf0 rf1 rf2 rf3
        obtain ⟨wx, hwx⟩ : ∃ wx : World, wx = ((((w3.setCell ⟨w2.heap.size, 0, none⟩ (.int .i64 y.f0)).setCell ⟨w2.heap.size, 1, none⟩ (.slice B1 y.f1.length d1)).setCell ⟨w2.heap.size, 2, none⟩ (.slice B2 y.f2.length d2)).setCell ⟨w2.heap.size, 3, none⟩ (.int .i64 y.f3)) := ⟨_, rfl⟩
        rw [← hwx] at HNx K5x K6x K7x HTx ⊢
        clear hwx
        have n67x : g6 ≠ w2.heap.size := HNE.out
        clear HNE
        generalize w2.heap.size = g7 at *
        have q0 : wx.cell? ⟨g5, 0, none⟩ = some (.int .i64 t.f0) := (blk_cell K5x.out 0).trans rfl
        by_cases k22 : t.f0 = 22
        · have e8 : decide (t.f0 = 22) = true := decide_eq_true k22
          have e9 : (t.f0 == 22) = true := beq_iff_eq.mpr k22
          clear k22
          by_cases hi : i < 0
          · have e5 : decide (i < 0) = true := decide_eq_true hi
            have r0 : wx.cell? ⟨g7, 0, none⟩ = some (.int .i64 y.f0) := (blk_cell K7x.out 0).trans rfl
            have r1 : wx.cell? ⟨g7, 1, none⟩ = some (.slice B1 y.f1.length d1) := (blk_cell K7x.out 1).trans rfl
            have r2 : wx.cell? ⟨g7, 2, none⟩ = some (.slice B2 y.f2.length d2) := (blk_cell K7x.out 2).trans rfl
            have r3 : wx.cell? ⟨g7, 3, none⟩ = some (.int .i64 y.f3) := (blk_cell K7x.out 3).trans rfl
            have n76x := n67x.symm
            have s0 : wx.cell? ⟨g6, 0, none⟩ = some (.int .i64 0) := (blk_cell K6x.out 0).trans rfl
            have s1 : wx.cell? ⟨g6, 1, none⟩ = some (.slice none 0 0) := (blk_cell K6x.out 1).trans rfl
            have s2 : wx.cell? ⟨g6, 2, none⟩ = some (.slice none 0 0) := (blk_cell K6x.out 2).trans rfl
            have s3 : wx.cell? ⟨g6, 3, none⟩ = some (.int .i64 0) := (blk_cell K6x.out 3).trans rfl
            have sf0 : wx.frozen? ⟨g6, 0, none⟩ = false := blk_frozen K6x.out 0
            have sf1 : wx.frozen? ⟨g6, 1, none⟩ = false := blk_frozen K6x.out 1
            have sf2 : wx.frozen? ⟨g6, 2, none⟩ = false := blk_frozen K6x.out 2
            have sf3 : wx.frozen? ⟨g6, 3, none⟩ = false := blk_frozen K6x.out 3
            have HP6 := Aside0.mk (HNx.out.put4 K6x.out (by decide) (by decide) (by have h1 := HG4.out; have h2 := HGG.out; omega) (.int .i64 y.f0) (.slice B1 y.f1.length d1) (.slice B2 y.f2.length d2) (.int .i64 y.f3))
            have HTZ : Aside0 (TV p ((((wx.setCell ⟨g6, 0, none⟩ (.int .i64 y.f0)).setCell ⟨g6, 1, none⟩ (.slice B1 y.f1.length d1)).setCell ⟨g6, 2, none⟩ (.slice B2 y.f2.length d2)).setCell ⟨g6, 3, none⟩ (.int .i64 y.f3)) Bs v3 y (.slice B1 y.f1.length d1) (.slice B2 y.f2.length d2)) := ⟨by (repeat refine TV.set ?_ (by exact HBs.out.1) _ _); exact HTx.out⟩
            go_wp2_with fail
            clear s0 sf0 s1 sf1 s2 sf2 s3 sf3
            obtain ⟨wf, hwf⟩ : ∃ wf : World, wf = ((((wx.setCell ⟨g6, 0, none⟩ (.int .i64 y.f0)).setCell ⟨g6, 1, none⟩ (.slice B1 y.f1.length d1)).setCell ⟨g6, 2, none⟩ (.slice B2 y.f2.length d2)).setCell ⟨g6, 3, none⟩ (.int .i64 y.f3)) := ⟨_, rfl⟩
            rw [← hwf] at HP6 HTZ ⊢
            clear hwf
            have s0 : wf.cell? ⟨g6, 0, none⟩ = some (.int .i64 y.f0) := (blk_cell HP6.out.2.1 0).trans rfl
            have s1 : wf.cell? ⟨g6, 1, none⟩ = some (.slice B1 y.f1.length d1) := (blk_cell HP6.out.2.1 1).trans rfl
            have s2 : wf.cell? ⟨g6, 2, none⟩ = some (.slice B2 y.f2.length d2) := (blk_cell HP6.out.2.1 2).trans rfl
            have s3 : wf.cell? ⟨g6, 3, none⟩ = some (.int .i64 y.f3) := (blk_cell HP6.out.2.1 3).trans rfl
            exact bodyPost_ret (v := .agg #[.int .i64 y.f0, .slice B1 y.f1.length d1, .slice B2 y.f2.length d2, .int .i64 y.f3]) (by simp [results, Try.results104, go_sem, *]) rfl ⟨v3, E3, res3, y, B1, d1, B2, d2, rfl, HP6.out.1, HTZ.out.lower HBs.out.2, fun e => (HGD.out e).1⟩
          · have e5 : decide (i < 0) = false := decide_eq_false hi
            have HI : Aside0 (0 ≤ i) := ⟨by omega⟩
            have em : max i 0 = i := by omega
            go_wp2_with fail
            clear q0
            refine (fault_any HNx.out.m1 _ 6 (by decide)).mono ?_
            rintro e w4 ⟨rfl, E4, hE, hn⟩
            have HN4 := Aside0.mk (HNx.out.trans hn)
            have HE4 := Aside0.mk hE
            have HR4 := Aside0.mk hn.er
            have K5y := Aside0.mk (hn.blk K5x.out (by decide) (by decide))
            have K6y := Aside0.mk (hn.blk K6x.out (by decide) (by decide))
            clear hn hE
            have q0 : w4.cell? ⟨g5, 0, none⟩ = some (.int .i64 t.f0) := (blk_cell K5y.out 0).trans rfl
            by_cases k21 : t.f0 = 21
            · have e6 : decide (t.f0 = 21) = true := decide_eq_true k21
              have e7 : (t.f0 == 21) = true := beq_iff_eq.mpr k21
              clear k21
              have s0 : w4.cell? ⟨g6, 0, none⟩ = some (.int .i64 0) := (blk_cell K6y.out 0).trans rfl
              have s1 : w4.cell? ⟨g6, 1, none⟩ = some (.slice none 0 0) := (blk_cell K6y.out 1).trans rfl
              have s2 : w4.cell? ⟨g6, 2, none⟩ = some (.slice none 0 0) := (blk_cell K6y.out 2).trans rfl
              have s3 : w4.cell? ⟨g6, 3, none⟩ = some (.int .i64 0) := (blk_cell K6y.out 3).trans rfl
              have sf0 : w4.frozen? ⟨g6, 0, none⟩ = false := blk_frozen K6y.out 0
              have sf1 : w4.frozen? ⟨g6, 1, none⟩ = false := blk_frozen K6y.out 1
              have sf2 : w4.frozen? ⟨g6, 2, none⟩ = false := blk_frozen K6y.out 2
              have sf3 : w4.frozen? ⟨g6, 3, none⟩ = false := blk_frozen K6y.out 3
              have HP6 := Aside0.mk (HN4.out.put4 K6y.out (by decide) (by decide) (by have h1 := HG4.out; have h2 := HGG.out; omega) (.int .i64 21) (.slice none 0 0) (.slice none 0 0) (.int .i64 i))
              have HTZ : Aside0 (TV p ((((w4.setCell ⟨g6, 0, none⟩ (.int .i64 21)).setCell ⟨g6, 1, none⟩ (.slice none 0 0)).setCell ⟨g6, 2, none⟩ (.slice none 0 0)).setCell ⟨g6, 3, none⟩ (.int .i64 i)) w.heap.size v3 ⟨21, [], [], i⟩ (.slice none 0 0) (.slice none 0 0)) := ⟨⟨Kd.R_nil _ _ _ _ _, Kd.R_nil _ _ _ _ _⟩⟩
              go_wp2_with fail
              clear s0 sf0 s1 sf1 s2 sf2 s3 sf3
              obtain ⟨wf, hwf⟩ : ∃ wf : World, wf = ((((w4.setCell ⟨g6, 0, none⟩ (.int .i64 21)).setCell ⟨g6, 1, none⟩ (.slice none 0 0)).setCell ⟨g6, 2, none⟩ (.slice none 0 0)).setCell ⟨g6, 3, none⟩ (.int .i64 i)) := ⟨_, rfl⟩
              rw [← hwf] at HP6 HTZ ⊢
              clear hwf
              have s0 : wf.cell? ⟨g6, 0, none⟩ = some (.int .i64 21) := (blk_cell HP6.out.2.1 0).trans rfl
              have s1 : wf.cell? ⟨g6, 1, none⟩ = some (.slice none 0 0) := (blk_cell HP6.out.2.1 1).trans rfl
              have s2 : wf.cell? ⟨g6, 2, none⟩ = some (.slice none 0 0) := (blk_cell HP6.out.2.1 2).trans rfl
              have s3 : wf.cell? ⟨g6, 3, none⟩ = some (.int .i64 i) := (blk_cell HP6.out.2.1 3).trans rfl
              exact bodyPost_ret (v := .agg #[.int .i64 21, .slice none 0 0, .slice none 0 0, .int .i64 i]) (by simp [results, Try.results104, go_sem, *]) rfl ⟨v3, E4, res3, ⟨21, [], [], i⟩, none, 0, none, 0, rfl, HP6.out.1, HTZ.out, fun e => .mk (fun _ => ⟨HI.out, (HGD.out (HR4.out e)).2⟩) (fun y hy => by cases hy)⟩
            · have e6 : decide (t.f0 = 21) = false := decide_eq_false k21
              have e7 : (t.f0 == 21) = false := beq_eq_false_iff_ne.mpr k21
              clear k21
              have s0 : w4.cell? ⟨g6, 0, none⟩ = some (.int .i64 0) := (blk_cell K6y.out 0).trans rfl
              have s1 : w4.cell? ⟨g6, 1, none⟩ = some (.slice none 0 0) := (blk_cell K6y.out 1).trans rfl
              have s2 : w4.cell? ⟨g6, 2, none⟩ = some (.slice none 0 0) := (blk_cell K6y.out 2).trans rfl
              have s3 : w4.cell? ⟨g6, 3, none⟩ = some (.int .i64 0) := (blk_cell K6y.out 3).trans rfl
              have sf0 : w4.frozen? ⟨g6, 0, none⟩ = false := blk_frozen K6y.out 0
              have sf1 : w4.frozen? ⟨g6, 1, none⟩ = false := blk_frozen K6y.out 1
              have sf2 : w4.frozen? ⟨g6, 2, none⟩ = false := blk_frozen K6y.out 2
              have sf3 : w4.frozen? ⟨g6, 3, none⟩ = false := blk_frozen K6y.out 3
              have HP6 := Aside0.mk (HN4.out.put4 K6y.out (by decide) (by decide) (by have h1 := HG4.out; have h2 := HGG.out; omega) (.int .i64 20) (.slice none 0 0) (.slice none 0 0) (.int .i64 i))
              have HTZ : Aside0 (TV p ((((w4.setCell ⟨g6, 0, none⟩ (.int .i64 20)).setCell ⟨g6, 1, none⟩ (.slice none 0 0)).setCell ⟨g6, 2, none⟩ (.slice none 0 0)).setCell ⟨g6, 3, none⟩ (.int .i64 i)) w.heap.size v3 ⟨20, [], [], i⟩ (.slice none 0 0) (.slice none 0 0)) := ⟨⟨Kd.R_nil _ _ _ _ _, Kd.R_nil _ _ _ _ _⟩⟩
              go_wp2_with fail
              clear s0 sf0 s1 sf1 s2 sf2 s3 sf3
              obtain ⟨wf, hwf⟩ : ∃ wf : World, wf = ((((w4.setCell ⟨g6, 0, none⟩ (.int .i64 20)).setCell ⟨g6, 1, none⟩ (.slice none 0 0)).setCell ⟨g6, 2, none⟩ (.slice none 0 0)).setCell ⟨g6, 3, none⟩ (.int .i64 i)) := ⟨_, rfl⟩
              rw [← hwf] at HP6 HTZ ⊢
              clear hwf
              have s0 : wf.cell? ⟨g6, 0, none⟩ = some (.int .i64 20) := (blk_cell HP6.out.2.1 0).trans rfl
              have s1 : wf.cell? ⟨g6, 1, none⟩ = some (.slice none 0 0) := (blk_cell HP6.out.2.1 1).trans rfl
              have s2 : wf.cell? ⟨g6, 2, none⟩ = some (.slice none 0 0) := (blk_cell HP6.out.2.1 2).trans rfl
              have s3 : wf.cell? ⟨g6, 3, none⟩ = some (.int .i64 i) := (blk_cell HP6.out.2.1 3).trans rfl
              exact bodyPost_ret (v := .agg #[.int .i64 20, .slice none 0 0, .slice none 0 0, .int .i64 i]) (by simp [results, Try.results104, go_sem, *]) rfl ⟨v3, E4, res3, ⟨20, [], [], i⟩, none, 0, none, 0, rfl, HP6.out.1, HTZ.out, fun e => .mk (fun _ => ⟨HI.out, (HGD.out (HR4.out e)).2⟩) (fun y hy => by cases hy)⟩
        · have e8 : decide (t.f0 = 22) = false := decide_eq_false k22
          have e9 : (t.f0 == 22) = false := beq_eq_false_iff_ne.mpr k22
          clear k22
          by_cases hi : i < 0
          · have e5 : decide (i < 0) = true := decide_eq_true hi
            have em : max i 0 = 0 := by omega
            go_wp2_with fail
            clear q0
            refine (fault_any HNx.out.m1 _ 6 (by decide)).mono ?_
            rintro e w4 ⟨rfl, E4, hE, hn⟩
            have HN4 := Aside0.mk (HNx.out.trans hn)
            have HE4 := Aside0.mk hE
            have HR4 := Aside0.mk hn.er
            have K5y := Aside0.mk (hn.blk K5x.out (by decide) (by decide))
            have K6y := Aside0.mk (hn.blk K6x.out (by decide) (by decide))
            clear hn hE
            have q0 : w4.cell? ⟨g5, 0, none⟩ = some (.int .i64 t.f0) := (blk_cell K5y.out 0).trans rfl
            by_cases k21 : t.f0 = 21
            · have e6 : decide (t.f0 = 21) = true := decide_eq_true k21
              have e7 : (t.f0 == 21) = true := beq_iff_eq.mpr k21
              clear k21
              have s0 : w4.cell? ⟨g6, 0, none⟩ = some (.int .i64 0) := (blk_cell K6y.out 0).trans rfl
              have s1 : w4.cell? ⟨g6, 1, none⟩ = some (.slice none 0 0) := (blk_cell K6y.out 1).trans rfl
              have s2 : w4.cell? ⟨g6, 2, none⟩ = some (.slice none 0 0) := (blk_cell K6y.out 2).trans rfl
              have s3 : w4.cell? ⟨g6, 3, none⟩ = some (.int .i64 0) := (blk_cell K6y.out 3).trans rfl
              have sf0 : w4.frozen? ⟨g6, 0, none⟩ = false := blk_frozen K6y.out 0
              have sf1 : w4.frozen? ⟨g6, 1, none⟩ = false := blk_frozen K6y.out 1
              have sf2 : w4.frozen? ⟨g6, 2, none⟩ = false := blk_frozen K6y.out 2
              have sf3 : w4.frozen? ⟨g6, 3, none⟩ = false := blk_frozen K6y.out 3
              have HP6 := Aside0.mk (HN4.out.put4 K6y.out (by decide) (by decide) (by have h1 := HG4.out; have h2 := HGG.out; omega) (.int .i64 21) (.slice none 0 0) (.slice none 0 0) (.int .i64 0))
              have HTZ : Aside0 (TV p ((((w4.setCell ⟨g6, 0, none⟩ (.int .i64 21)).setCell ⟨g6, 1, none⟩ (.slice none 0 0)).setCell ⟨g6, 2, none⟩ (.slice none 0 0)).setCell ⟨g6, 3, none⟩ (.int .i64 0)) w.heap.size v3 ⟨21, [], [], 0⟩ (.slice none 0 0) (.slice none 0 0)) := ⟨⟨Kd.R_nil _ _ _ _ _, Kd.R_nil _ _ _ _ _⟩⟩
              go_wp2_with fail
              clear s0 sf0 s1 sf1 s2 sf2 s3 sf3
              obtain ⟨wf, hwf⟩ : ∃ wf : World, wf = ((((w4.setCell ⟨g6, 0, none⟩ (.int .i64 21)).setCell ⟨g6, 1, none⟩ (.slice none 0 0)).setCell ⟨g6, 2, none⟩ (.slice none 0 0)).setCell ⟨g6, 3, none⟩ (.int .i64 0)) := ⟨_, rfl⟩
              rw [← hwf] at HP6 HTZ ⊢
              clear hwf
              have s0 : wf.cell? ⟨g6, 0, none⟩ = some (.int .i64 21) := (blk_cell HP6.out.2.1 0).trans rfl
              have s1 : wf.cell? ⟨g6, 1, none⟩ = some (.slice none 0 0) := (blk_cell HP6.out.2.1 1).trans rfl
              have s2 : wf.cell? ⟨g6, 2, none⟩ = some (.slice none 0 0) := (blk_cell HP6.out.2.1 2).trans rfl
              have s3 : wf.cell? ⟨g6, 3, none⟩ = some (.int .i64 0) := (blk_cell HP6.out.2.1 3).trans rfl
              exact bodyPost_ret (v := .agg #[.int .i64 21, .slice none 0 0, .slice none 0 0, .int .i64 0]) (by simp [results, Try.results104, go_sem, *]) rfl ⟨v3, E4, res3, ⟨21, [], [], 0⟩, none, 0, none, 0, rfl, HP6.out.1, HTZ.out, fun e => by cases HE4.out e⟩
            · have e6 : decide (t.f0 = 21) = false := decide_eq_false k21
              have e7 : (t.f0 == 21) = false := beq_eq_false_iff_ne.mpr k21
              clear k21
              have s0 : w4.cell? ⟨g6, 0, none⟩ = some (.int .i64 0) := (blk_cell K6y.out 0).trans rfl
              have s1 : w4.cell? ⟨g6, 1, none⟩ = some (.slice none 0 0) := (blk_cell K6y.out 1).trans rfl
              have s2 : w4.cell? ⟨g6, 2, none⟩ = some (.slice none 0 0) := (blk_cell K6y.out 2).trans rfl
              have s3 : w4.cell? ⟨g6, 3, none⟩ = some (.int .i64 0) := (blk_cell K6y.out 3).trans rfl
              have sf0 : w4.frozen? ⟨g6, 0, none⟩ = false := blk_frozen K6y.out 0
              have sf1 : w4.frozen? ⟨g6, 1, none⟩ = false := blk_frozen K6y.out 1
              have sf2 : w4.frozen? ⟨g6, 2, none⟩ = false := blk_frozen K6y.out 2
              have sf3 : w4.frozen? ⟨g6, 3, none⟩ = false := blk_frozen K6y.out 3
              have HP6 := Aside0.mk (HN4.out.put4 K6y.out (by decide) (by decide) (by have h1 := HG4.out; have h2 := HGG.out; omega) (.int .i64 20) (.slice none 0 0) (.slice none 0 0) (.int .i64 0))
              have HTZ : Aside0 (TV p ((((w4.setCell ⟨g6, 0, none⟩ (.int .i64 20)).setCell ⟨g6, 1, none⟩ (.slice none 0 0)).setCell ⟨g6, 2, none⟩ (.slice none 0 0)).setCell ⟨g6, 3, none⟩ (.int .i64 0)) w.heap.size v3 ⟨20, [], [], 0⟩ (.slice none 0 0) (.slice none 0 0)) := ⟨⟨Kd.R_nil _ _ _ _ _, Kd.R_nil _ _ _ _ _⟩⟩
              go_wp2_with fail
              clear s0 sf0 s1 sf1 s2 sf2 s3 sf3
              obtain ⟨wf, hwf⟩ : ∃ wf : World, wf = ((((w4.setCell ⟨g6, 0, none⟩ (.int .i64 20)).setCell ⟨g6, 1, none⟩ (.slice none 0 0)).setCell ⟨g6, 2, none⟩ (.slice none 0 0)).setCell ⟨g6, 3, none⟩ (.int .i64 0)) := ⟨_, rfl⟩
              rw [← hwf] at HP6 HTZ ⊢
              clear hwf
              have s0 : wf.cell? ⟨g6, 0, none⟩ = some (.int .i64 20) := (blk_cell HP6.out.2.1 0).trans rfl
              have s1 : wf.cell? ⟨g6, 1, none⟩ = some (.slice none 0 0) := (blk_cell HP6.out.2.1 1).trans rfl
              have s2 : wf.cell? ⟨g6, 2, none⟩ = some (.slice none 0 0) := (blk_cell HP6.out.2.1 2).trans rfl
              have s3 : wf.cell? ⟨g6, 3, none⟩ = some (.int .i64 0) := (blk_cell HP6.out.2.1 3).trans rfl
              exact bodyPost_ret (v := .agg #[.int .i64 20, .slice none 0 0, .slice none 0 0, .int .i64 0]) (by simp [results, Try.results104, go_sem, *]) rfl ⟨v3, E4, res3, ⟨20, [], [], 0⟩, none, 0, none, 0, rfl, HP6.out.1, HTZ.out, fun e => by cases HE4.out e⟩
          · have e5 : decide (i < 0) = false := decide_eq_false hi
            have HI : Aside0 (0 ≤ i) := ⟨by omega⟩
            have em : max i 0 = i := by omega
            go_wp2_with fail
            clear q0
            refine (fault_any HNx.out.m1 _ 6 (by decide)).mono ?_
            rintro e w4 ⟨rfl, E4, hE, hn⟩
            have HN4 := Aside0.mk (HNx.out.trans hn)
            have HE4 := Aside0.mk hE
            have HR4 := Aside0.mk hn.er
            have K5y := Aside0.mk (hn.blk K5x.out (by decide) (by decide))
            have K6y := Aside0.mk (hn.blk K6x.out (by decide) (by decide))
            clear hn hE
            have q0 : w4.cell? ⟨g5, 0, none⟩ = some (.int .i64 t.f0) := (blk_cell K5y.out 0).trans rfl
            by_cases k21 : t.f0 = 21
            · have e6 : decide (t.f0 = 21) = true := decide_eq_true k21
              have e7 : (t.f0 == 21) = true := beq_iff_eq.mpr k21
              clear k21
              have s0 : w4.cell? ⟨g6, 0, none⟩ = some (.int .i64 0) := (blk_cell K6y.out 0).trans rfl
              have s1 : w4.cell? ⟨g6, 1, none⟩ = some (.slice none 0 0) := (blk_cell K6y.out 1).trans rfl
              have s2 : w4.cell? ⟨g6, 2, none⟩ = some (.slice none 0 0) := (blk_cell K6y.out 2).trans rfl
              have s3 : w4.cell? ⟨g6, 3, none⟩ = some (.int .i64 0) := (blk_cell K6y.out 3).trans rfl
              have sf0 : w4.frozen? ⟨g6, 0, none⟩ = false := blk_frozen K6y.out 0
              have sf1 : w4.frozen? ⟨g6, 1, none⟩ = false := blk_frozen K6y.out 1
              have sf2 : w4.frozen? ⟨g6, 2, none⟩ = false := blk_frozen K6y.out 2
              have sf3 : w4.frozen? ⟨g6, 3, none⟩ = false := blk_frozen K6y.out 3
              have HP6 := Aside0.mk (HN4.out.put4 K6y.out (by decide) (by decide) (by have h1 := HG4.out; have h2 := HGG.out; omega) (.int .i64 21) (.slice none 0 0) (.slice none 0 0) (.int .i64 i))
              have HTZ : Aside0 (TV p ((((w4.setCell ⟨g6, 0, none⟩ (.int .i64 21)).setCell ⟨g6, 1, none⟩ (.slice none 0 0)).setCell ⟨g6, 2, none⟩ (.slice none 0 0)).setCell ⟨g6, 3, none⟩ (.int .i64 i)) w.heap.size v3 ⟨21, [], [], i⟩ (.slice none 0 0) (.slice none 0 0)) := ⟨⟨Kd.R_nil _ _ _ _ _, Kd.R_nil _ _ _ _ _⟩⟩
              go_wp2_with fail
              clear s0 sf0 s1 sf1 s2 sf2 s3 sf3
              obtain ⟨wf, hwf⟩ : ∃ wf : World, wf = ((((w4.setCell ⟨g6, 0, none⟩ (.int .i64 21)).setCell ⟨g6, 1, none⟩ (.slice none 0 0)).setCell ⟨g6, 2, none⟩ (.slice none 0 0)).setCell ⟨g6, 3, none⟩ (.int .i64 i)) := ⟨_, rfl⟩
              rw [← hwf] at HP6 HTZ ⊢
              clear hwf
              have s0 : wf.cell? ⟨g6, 0, none⟩ = some (.int .i64 21) := (blk_cell HP6.out.2.1 0).trans rfl
              have s1 : wf.cell? ⟨g6, 1, none⟩ = some (.slice none 0 0) := (blk_cell HP6.out.2.1 1).trans rfl
              have s2 : wf.cell? ⟨g6, 2, none⟩ = some (.slice none 0 0) := (blk_cell HP6.out.2.1 2).trans rfl
              have s3 : wf.cell? ⟨g6, 3, none⟩ = some (.int .i64 i) := (blk_cell HP6.out.2.1 3).trans rfl
              exact bodyPost_ret (v := .agg #[.int .i64 21, .slice none 0 0, .slice none 0 0, .int .i64 i]) (by simp [results, Try.results104, go_sem, *]) rfl ⟨v3, E4, res3, ⟨21, [], [], i⟩, none, 0, none, 0, rfl, HP6.out.1, HTZ.out, fun e => .mk (fun _ => ⟨HI.out, (HGD.out (HR4.out e)).2⟩) (fun y hy => by cases hy)⟩
            · have e6 : decide (t.f0 = 21) = false := decide_eq_false k21
              have e7 : (t.f0 == 21) = false := beq_eq_false_iff_ne.mpr k21
              clear k21
              have s0 : w4.cell? ⟨g6, 0, none⟩ = some (.int .i64 0) := (blk_cell K6y.out 0).trans rfl
              have s1 : w4.cell? ⟨g6, 1, none⟩ = some (.slice none 0 0) := (blk_cell K6y.out 1).trans rfl
              have s2 : w4.cell? ⟨g6, 2, none⟩ = some (.slice none 0 0) := (blk_cell K6y.out 2).trans rfl
              have s3 : w4.cell? ⟨g6, 3, none⟩ = some (.int .i64 0) := (blk_cell K6y.out 3).trans rfl
              have sf0 : w4.frozen? ⟨g6, 0, none⟩ = false := blk_frozen K6y.out 0
              have sf1 : w4.frozen? ⟨g6, 1, none⟩ = false := blk_frozen K6y.out 1
              have sf2 : w4.frozen? ⟨g6, 2, none⟩ = false := blk_frozen K6y.out 2
              have sf3 : w4.frozen? ⟨g6, 3, none⟩ = false := blk_frozen K6y.out 3
              have HP6 := Aside0.mk (HN4.out.put4 K6y.out (by decide) (by decide) (by have h1 := HG4.out; have h2 := HGG.out; omega) (.int .i64 20) (.slice none 0 0) (.slice none 0 0) (.int .i64 i))
              have HTZ : Aside0 (TV p ((((w4.setCell ⟨g6, 0, none⟩ (.int .i64 20)).setCell ⟨g6, 1, none⟩ (.slice none 0 0)).setCell ⟨g6, 2, none⟩ (.slice none 0 0)).setCell ⟨g6, 3, none⟩ (.int .i64 i)) w.heap.size v3 ⟨20, [], [], i⟩ (.slice none 0 0) (.slice none 0 0)) := ⟨⟨Kd.R_nil _ _ _ _ _, Kd.R_nil _ _ _ _ _⟩⟩
              go_wp2_with fail
              clear s0 sf0 s1 sf1 s2 sf2 s3 sf3
              obtain ⟨wf, hwf⟩ : ∃ wf : World, wf = ((((w4.setCell ⟨g6, 0, none⟩ (.int .i64 20)).setCell ⟨g6, 1, none⟩ (.slice none 0 0)).setCell ⟨g6, 2, none⟩ (.slice none 0 0)).setCell ⟨g6, 3, none⟩ (.int .i64 i)) := ⟨_, rfl⟩
              rw [← hwf] at HP6 HTZ ⊢
              clear hwf
              have s0 : wf.cell? ⟨g6, 0, none⟩ = some (.int .i64 20) := (blk_cell HP6.out.2.1 0).trans rfl
              have s1 : wf.cell? ⟨g6, 1, none⟩ = some (.slice none 0 0) := (blk_cell HP6.out.2.1 1).trans rfl
              have s2 : wf.cell? ⟨g6, 2, none⟩ = some (.slice none 0 0) := (blk_cell HP6.out.2.1 2).trans rfl
              have s3 : wf.cell? ⟨g6, 3, none⟩ = some (.int .i64 i) := (blk_cell HP6.out.2.1 3).trans rfl
              exact bodyPost_ret (v := .agg #[.int .i64 20, .slice none 0 0, .slice none 0 0, .int .i64 i]) (by simp [results, Try.results104, go_sem, *]) rfl ⟨v3, E4, res3, ⟨20, [], [], i⟩, none, 0, none, 0, rfl, HP6.out.1, HTZ.out, fun e => .mk (fun _ => ⟨HI.out, (HGD.out (HR4.out e)).2⟩) (fun y hy => by cases hy)⟩
    · have e4 : decide (20 ≤ t.f0) = false := decide_eq_false hk
      have q1 : (w2.alloc (.cells #[.int .i64 t.f0, .slice none 0 0, .slice none 0 0, .int .i64 0] 25)).cell? ⟨g5, 1, none⟩ = some (.slice A1 t.f1.length c1) := (blk_cell (blk_alloc K5b.out (.cells #[.int .i64 t.f0, .slice none 0 0, .slice none 0 0, .int .i64 0] 25)) 1).trans rfl
      have HNw := Aside0.mk (HN2.out.below (below_alloc (Below.refl _ _) (.cells #[.int .i64 t.f0, .slice none 0 0, .slice none 0 0, .int .i64 0] 25)))
      have HCN := Aside0.mk (Kd.C_below TAA.out.n HNw.out.bl)
      have hnl := WF.out.nl
      have HPV0 : Aside0 (p < w2.heap.size ∧ ∀ k, v.ownBlock = some k → k < w2.heap.size) := ⟨by obtain ⟨sq, mq⟩ := HN2.out.m1; exact ⟨mq.lt, Kd.R_lt mq.hr⟩⟩
      have K4w := Aside0.mk (blk_alloc K4b.out (.cells #[.int .i64 t.f0, .slice none 0 0, .slice none 0 0, .int .i64 0] 25))
      have K5w := Aside0.mk (blk_alloc K5b.out (.cells #[.int .i64 t.f0, .slice none 0 0, .slice none 0 0, .int .i64 0] 25))
      have K6w := Aside0.mk (blk_alloc K6b.out (.cells #[.int .i64 t.f0, .slice none 0 0, .slice none 0 0, .int .i64 0] 25))
      have HGO : Aside0 (g4 < w2.heap.size ∧ g5 < w2.heap.size ∧ g6 < w2.heap.size ∧ w2.heap.size < w2.heap.size + 1) := ⟨blk_lt K4b.out, blk_lt K5b.out, blk_lt K6b.out, by omega⟩
      go_wp2_with (at_builtin; refine Kd.R_append_row (enc := Value.string) ⟨#[]⟩ (w0 := w2.alloc (.cells #[.int .i64 t.f0, .slice none 0 0, .slice none 0 0, .int .i64 0] 25)) (w2.heap.size + 1) rfl (.tmp 71) (.tmp 73) 22 9 (.string ⟨#[]⟩) 16 rfl Try.underlying22 info9 rfl (by decide) (.slice none 0 0) [] t.f1 A1 t.f1.length c1 (fun k => True) rfl rfl ?ha (Kd.R_nil _ _ _ _ _) HCN.out (Below.refl _ _) (by simp) (by simp; omega) ?hb)
      case ha =>
        intro k hk
        trivial
      case hb =>
        intro v1 w1 r1 r2 r3 r4
        have hK9 := blk_grown (blk_new w2 (.cells #[.int .i64 t.f0, .slice none 0 0, .slice none 0 0, .int .i64 0] 25)) r3 (by simp [Value.ownBlock])
        have x91 : w1.cell? ⟨w2.heap.size, 1, none⟩ = some (.slice none 0 0) := (blk_cell hK9 1).trans rfl
        have xf91 : w1.frozen? ⟨w2.heap.size, 1, none⟩ = false := blk_frozen hK9 1
        replace r1 : Kd.string.R 9 w1 (w2.heap.size + 1) (fun k => True) v1 t.f1 := r1
        obtain ⟨Av, cv, hv1, _⟩ := Kd.R_reads r1
        have R1 : Aside0 (Kd.string.R 9 w1 (w2.heap.size + 1) (fun k => k ≠ p ∧ some k ≠ v.ownBlock) v1 t.f1) := ⟨Kd.R_mono (Kd.R_bound r1) (fun k hk => ⟨by have := hk.2.1; have := HPV0.out.1; omega, fun e => by have := hk.2.1; have := HPV0.out.2 k e.symm; omega⟩)⟩
        have HNg := Aside0.mk (HNw.out.grown r3 (fun k hk => by simp [Value.ownBlock] at hk))
        have K4g := Aside0.mk (blk_grown K4w.out r3 (by simp [Value.ownBlock]))
        have K5g := Aside0.mk (blk_grown K5w.out r3 (by simp [Value.ownBlock]))
        have K6g := Aside0.mk (blk_grown K6w.out r3 (by simp [Value.ownBlock]))
        have K9 := Aside0.mk hK9
        have HGG2 := Aside0.mk HN2.out.go.keep.1
        clear r1 r2 r3 r4 hK9 HPV0 K4w K5w K6w K4b K5b K6b HNw HCN
        subst hv1
        generalize hB0 : w2.heap.size + 1 = B0 at *
        have HB0 := Aside0.mk hB0
        generalize w2.heap.size = gx at *
        clear hB0
        have HO1 := Aside0.mk (Own.mk' (w := w) HGG2.out K9.out (by decide) (by decide))
        go_wp2_with fail
        clear x91 xf91 z12 e1 e2 e3 e4 q0 q1
        obtain ⟨wl, hwl⟩ : ∃ wl : World, wl = w1.setCell ⟨gx, 1, none⟩ (.slice Av t.f1.length cv) := ⟨_, rfl⟩
        have HNl : Aside0 (Nx h p vi vo dp w v E res wl v E2 res) := ⟨by rw [hwl]; exact HNg.out.set HO1.out 1 _⟩
        have K4l : Aside0 (wl.heap[g4]? = some (.cells #[.string key, .int .i64 (at_ : Int), .slice U us.length cU, .slice D ds.length cD, .bool out] 160 (0, 0))) := ⟨by rw [hwl]; exact blk_far K4g.out (by show _ ≠ gx; have := HGO.out; omega) _⟩
        have K5l : Aside0 (wl.heap[g5]? = some (.cells #[.int .i64 t.f0, .slice A1 t.f1.length c1, .slice A2 t.f2.length c2, .int .i64 t.f3] 25 (0, 0))) := ⟨by rw [hwl]; exact blk_far K5g.out (by show _ ≠ gx; have := HGO.out; omega) _⟩
        have K6l : Aside0 (wl.heap[g6]? = some (.cells #[.int .i64 0, .slice none 0 0, .slice none 0 0, .int .i64 0] 25 (0, 0))) := ⟨by rw [hwl]; exact blk_far K6g.out (by show _ ≠ gx; have := HGO.out; omega) _⟩
        have Kxl : Aside0 (wl.heap[gx]? = some (.cells #[.int .i64 t.f0, .slice Av t.f1.length cv, .slice none 0 0, .int .i64 0] 25 (0, 0))) := ⟨by rw [hwl]; exact blk_put K9.out 1 _ rfl⟩
        have TXl : Aside0 (TV p wl B0 v ⟨t.f0, t.f1, [], 0⟩ (.slice Av t.f1.length cv) (.slice none 0 0)) := ⟨⟨by rw [hwl]; exact Kd.R_set R1.out K9.out (by decide) 1 _, Kd.R_nil _ _ _ _ _⟩⟩
        rw [← hwl]
        clear hwl HNg K4g K5g K6g K9 R1 HO1
        go_loopw [10] (fun v10 wr => ∃ (k : Nat) (v3 : Value) (E3 : Int) (res3 : List ByteArray) (l : List PSubFits.S25) (AL : Option Addr) (cL : Nat), k ≤ t.f2.length ∧ v10 = .int .i64 k ∧ l.length = k ∧ Aside0 (Nx h p vi vo dp w v E res wr v3 E3 res3) ∧ Aside0 (wr.heap[g4]? = some (.cells #[.string key, .int .i64 (at_ : Int), .slice U us.length cU, .slice D ds.length cD, .bool out] 160 (0, 0))) ∧ Aside0 (wr.heap[g5]? = some (.cells #[.int .i64 t.f0, .slice A1 t.f1.length c1, .slice A2 t.f2.length c2, .int .i64 t.f3] 25 (0, 0))) ∧ Aside0 (wr.heap[g6]? = some (.cells #[.int .i64 0, .slice none 0 0, .slice none 0 0, .int .i64 0] 25 (0, 0))) ∧ Aside0 (wr.heap[gx]? = some (.cells #[.int .i64 t.f0, .slice Av t.f1.length cv, .slice AL l.length cL, .int .i64 0] 25 (0, 0))) ∧ Aside0 (TV p wr B0 v3 ⟨t.f0, t.f1, l, 0⟩ (.slice Av t.f1.length cv) (.slice AL l.length cL)) ∧ Aside0 (E3 = 0 → ∀ y ∈ l, GoodT res3.length y)) (fun v10 _ => t.f2.length - (intOf v10).toNat)
        case atStart => exact ⟨0, v, E2, res, [], none, 0, Nat.zero_le _, rfl, rfl, HNl, K4l, K5l, K6l, Kxl, TXl, ⟨fun _ y hy => by cases hy⟩⟩
        case round =>
          clear HNl K4l K5l K6l Kxl TXl
          obtain ⟨k, v3, E3, res3, l, AL, cL, hk2, rfl, hlk, HN, K4, K5, K6, Kx, TX, GG⟩ := hrel
          have HLK := Aside0.mk hlk
          have hll := WF.out.ll
          clear hlk
          have q2 : wr.cell? ⟨g5, 2, none⟩ = some (.slice A2 t.f2.length c2) := (blk_cell K5.out 2).trans rfl
          by_cases hlt : k < t.f2.length
          · obtain ⟨ad, B1, d1, B2, d2, hae, hx, l1, g1, l2, g2⟩ := el25 TAA.out.l hlt
            have HAE := Aside0.mk hae
            rw [hae] at q2
            have HX := Aside0.mk hx
            have HTA : Aside0 (TA h.W0 t.f2[k] B1 d1 B2 d2) := ⟨⟨g1, l1, g2, l2⟩⟩
            have HWE := Aside0.mk (WF.out.el _ (List.getElem_mem hlt))
            have HIE := Aside0.mk (IH.out _ (List.getElem_mem hlt))
            clear hx l1 g1 l2 g2 hae
            generalize t.f2[k] = y0 at *
            have y0c : wr.cell? (ad.add (k * 4)) = some (.int .i64 y0.f0) := (HX.out wr HN.out.bl).1
            have HAL : Aside0 (∀ j, (Value.slice AL l.length cL).ownBlock = some j → B0 ≤ j ∧ j < wr.heap.size) := ⟨fun j hj => ⟨Kd.R_base TX.out.l j hj, Kd.R_lt TX.out.l j hj⟩⟩
            have HGY0 : Aside0 (B0 ≤ wr.heap.size) := ⟨by have := blk_lt Kx.out; have := HB0.out; omega⟩
            have HNa := Aside0.mk (HN.out.below (below_alloc (Below.refl _ _) (.cells #[.int .i64 0, .slice none 0 0, .slice none 0 0, .int .i64 0] 25)))
            have K4a := Aside0.mk (blk_alloc K4.out (.cells #[.int .i64 0, .slice none 0 0, .slice none 0 0, .int .i64 0] 25))
            have K5a := Aside0.mk (blk_alloc K5.out (.cells #[.int .i64 0, .slice none 0 0, .slice none 0 0, .int .i64 0] 25))
            have K6a := Aside0.mk (blk_alloc K6.out (.cells #[.int .i64 0, .slice none 0 0, .slice none 0 0, .int .i64 0] 25))
            have Kxa := Aside0.mk (blk_alloc Kx.out (.cells #[.int .i64 0, .slice none 0 0, .slice none 0 0, .int .i64 0] 25))
            have Kya := Aside0.mk (blk_new wr (.cells #[.int .i64 0, .slice none 0 0, .slice none 0 0, .int .i64 0] 25))
            have TXa : Aside0 (TV p (wr.alloc (.cells #[.int .i64 0, .slice none 0 0, .slice none 0 0, .int .i64 0] 25)) B0 v3 ⟨t.f0, t.f1, l, 0⟩ (.slice Av t.f1.length cv) (.slice AL l.length cL)) := ⟨TX.out.go (Go.below _ _ (below_alloc (Below.refl _ _) (.cells #[.int .i64 0, .slice none 0 0, .slice none 0 0, .int .i64 0] 25)))⟩
            have y0d : (wr.alloc (.cells #[.int .i64 0, .slice none 0 0, .slice none 0 0, .int .i64 0] 25)).cell? (ad.add (k * 4)) = some (.int .i64 y0.f0) := (HX.out _ HNa.out.bl).1
            have q2a : (wr.alloc (.cells #[.int .i64 0, .slice none 0 0, .slice none 0 0, .int .i64 0] 25)).cell? ⟨g5, 2, none⟩ = some (.slice A2 t.f2.length c2) := (blk_cell K5a.out 2).trans rfl
            rw [HAE.out] at q2a
            have HSZ : Aside0 ((wr.alloc (.cells #[.int .i64 0, .slice none 0 0, .slice none 0 0, .int .i64 0] 25)).heap.size = wr.heap.size + 1) := ⟨by simp⟩
            by_cases hk0 : y0.f0 = 0
            · have e5 : decide (y0.f0 = 0) = true := decide_eq_true hk0
              have e6 : (y0.f0 == 0) = true := beq_iff_eq.mpr hk0
              have e7 : (y0.f0 != 0) = false := bne_eq_false_iff_eq.mpr hk0
              clear hk0
              have HGY : Aside0 (B0 ≤ wr.heap.size + 1 ∧ wr.heap.size ≤ wr.heap.size + 1 ∧ wr.heap.size + 1 ≤ (wr.alloc (.cells #[.int .i64 0, .slice none 0 0, .slice none 0 0, .int .i64 0] 25)).heap.size) := ⟨by have := HGY0.out; have := HSZ.out; omega⟩
              have xx0 : (wr.alloc (.cells #[.int .i64 0, .slice none 0 0, .slice none 0 0, .int .i64 0] 25)).cell? ⟨gx, 0, none⟩ = some (.int .i64 t.f0) := (blk_cell Kxa.out 0).trans rfl
              have xx1 : (wr.alloc (.cells #[.int .i64 0, .slice none 0 0, .slice none 0 0, .int .i64 0] 25)).cell? ⟨gx, 1, none⟩ = some (.slice Av t.f1.length cv) := (blk_cell Kxa.out 1).trans rfl
              have xx2 : (wr.alloc (.cells #[.int .i64 0, .slice none 0 0, .slice none 0 0, .int .i64 0] 25)).cell? ⟨gx, 2, none⟩ = some (.slice AL l.length cL) := (blk_cell Kxa.out 2).trans rfl
              have xx3 : (wr.alloc (.cells #[.int .i64 0, .slice none 0 0, .slice none 0 0, .int .i64 0] 25)).cell? ⟨gx, 3, none⟩ = some (.int .i64 0) := (blk_cell Kxa.out 3).trans rfl
              have yy0 : (wr.alloc (.cells #[.int .i64 0, .slice none 0 0, .slice none 0 0, .int .i64 0] 25)).cell? ⟨wr.heap.size, 0, none⟩ = some (.int .i64 0) := (blk_cell Kya.out 0).trans rfl
              have yy1 : (wr.alloc (.cells #[.int .i64 0, .slice none 0 0, .slice none 0 0, .int .i64 0] 25)).cell? ⟨wr.heap.size, 1, none⟩ = some (.slice none 0 0) := (blk_cell Kya.out 1).trans rfl
              have yy2 : (wr.alloc (.cells #[.int .i64 0, .slice none 0 0, .slice none 0 0, .int .i64 0] 25)).cell? ⟨wr.heap.size, 2, none⟩ = some (.slice none 0 0) := (blk_cell Kya.out 2).trans rfl
              have yy3 : (wr.alloc (.cells #[.int .i64 0, .slice none 0 0, .slice none 0 0, .int .i64 0] 25)).cell? ⟨wr.heap.size, 3, none⟩ = some (.int .i64 0) := (blk_cell Kya.out 3).trans rfl
              have xxf0 : (wr.alloc (.cells #[.int .i64 0, .slice none 0 0, .slice none 0 0, .int .i64 0] 25)).frozen? ⟨gx, 0, none⟩ = false := blk_frozen Kxa.out 0
              have xxf1 : (wr.alloc (.cells #[.int .i64 0, .slice none 0 0, .slice none 0 0, .int .i64 0] 25)).frozen? ⟨gx, 1, none⟩ = false := blk_frozen Kxa.out 1
              have xxf2 : (wr.alloc (.cells #[.int .i64 0, .slice none 0 0, .slice none 0 0, .int .i64 0] 25)).frozen? ⟨gx, 2, none⟩ = false := blk_frozen Kxa.out 2
              have xxf3 : (wr.alloc (.cells #[.int .i64 0, .slice none 0 0, .slice none 0 0, .int .i64 0] 25)).frozen? ⟨gx, 3, none⟩ = false := blk_frozen Kxa.out 3
              have TYB := Aside0.mk (TV.zero p (wr.alloc (.cells #[.int .i64 0, .slice none 0 0, .slice none 0 0, .int .i64 0] 25)) (wr.heap.size + 1) v3)
              have TXB := Aside0.mk (TXa.out)
              obtain ⟨szn, mn⟩ := HNa.out.m1
              have HPV : Aside0 (p < (wr.alloc (.cells #[.int .i64 0, .slice none 0 0, .slice none 0 0, .int .i64 0] 25)).heap.size ∧ ∀ k, v3.ownBlock = some k → k < (wr.alloc (.cells #[.int .i64 0, .slice none 0 0, .slice none 0 0, .int .i64 0] 25)).heap.size) := ⟨mn.lt, Kd.R_lt mn.hr⟩
              clear mn
              go_wp2_with (at_builtin; refine Kd.R_append PSubFits.k25 (w0 := (wr.alloc (.cells #[.int .i64 0, .slice none 0 0, .slice none 0 0, .int .i64 0] 25))) B0 rfl (.tmp 100) (.tmp 102) 23 25 (.agg #[.int .i64 0, .slice none 0 0, .slice none 0 0, .int .i64 0]) 64 rfl Try.underlying23 info25 rfl (by decide) (by decide) (.slice AL l.length cL) l PSubFits.z25 [.int .i64 0, .slice none 0 0, .slice none 0 0, .int .i64 0] (fun k => k ≠ p ∧ some k ≠ v3.ownBlock) (fun k => (k ≠ p ∧ some k ≠ v3.ownBlock) ∧ (wr.heap.size + 1) ≤ k) rfl (by first | rfl | (simp only [World.size_alloc]; rfl)) (PSubFits.k25_mkM _ _ _ _ (Kd.R_lower (Kd.R_mono (Kd.R_bound TYB.out.n) (fun k hk => ⟨hk.1, hk.2.1⟩)) ?hl1) (Kd.R_lower (Kd.R_mono (Kd.R_bound TYB.out.l) (fun k hk => ⟨hk.1, hk.2.1⟩)) ?hl1)) ?hokp ?hfresh TXB.out.l (Below.refl _ _) ?hbase ?hl ?_)
              case hl1 => have := HGY.out; omega
              case hokp => exact fun k hk => ⟨hk.1, fun e => by have := HAL.out k e.symm; have := hk.2; have := HGY.out; omega⟩
              case hfresh => exact fun k hk => ⟨by have := HPV.out.1; omega, fun e => by have := HPV.out.2 k e.symm; omega⟩
              case hbase => have := HGY.out; omega
              case hl => have := WF.out.ll; have := HLK.out; omega
              intro v1 w1 r1 r2 r3 r4
              obtain ⟨AM, cM, hv1, _⟩ := Kd.R_reads r1
              replace hv1 : v1 = .slice AM (l.length + 1) cM := by rw [hv1]; simp
              subst hv1
              have hrow := HAL.out
              have HNg := Aside0.mk ((HNa.out).grown r3 (row_hr TXB.out.l (by have := HGO.out; have := HG4.out; omega)))
              have K4g := Aside0.mk (blk_grown K4a.out r3 (fun e => by have := hrow _ e.symm; have := HGO.out; omega))
              have K5g := Aside0.mk (blk_grown K5a.out r3 (fun e => by have := hrow _ e.symm; have := HGO.out; omega))
              have K6g := Aside0.mk (blk_grown K6a.out r3 (fun e => by have := hrow _ e.symm; have := HGO.out; omega))
              have Kxg := Aside0.mk (blk_grown Kxa.out r3 (fun e => by have := hrow _ e.symm; have := HGO.out; omega))
              have RNg := Aside0.mk (R_off TXB.out.n TXB.out.l r3 (by decide))
              have RLg := Aside0.mk r1
              have GGg := Aside0.mk (fun (e : E3 = 0) => And.intro (GG.out e) (GoodT.zero res3.length))
              have z2x : w1.cell? ⟨gx, 2, none⟩ = some (.slice AL l.length cL) := (blk_cell Kxg.out 2).trans rfl
              have f2x : w1.frozen? ⟨gx, 2, none⟩ = false := blk_frozen Kxg.out 2
              have HO2 := Aside0.mk (Own.mk' (w := w) (by have := HGO.out; have := HG4.out; omega) Kxg.out (by decide) (by decide))
              clear r1 r2 r3 r4 hrow HPV TYB TXB xx0 xx1 xx2 xx3 xxf0 xxf1 xxf2 xxf3 yy0 yy1 yy2 yy3
              go_wp2_with fail
              go_roundw
              case rel => exact ⟨k + 1, v3, E3, res3, l ++ [PSubFits.z25], AM, cM, by omega, by go_num, by simp [HLK.out], ⟨HNg.out.set HO2.out 2 _⟩, ⟨blk_far K4g.out (by show _ ≠ gx; have := HGO.out; omega) _⟩, ⟨blk_far K5g.out (by show _ ≠ gx; have := HGO.out; omega) _⟩, ⟨blk_far K6g.out (by show _ ≠ gx; have := HGO.out; omega) _⟩, ⟨by rw [List.length_append]; exact blk_put Kxg.out 2 _ rfl⟩, ⟨by rw [List.length_append]; exact TV.set (g := gx) (TV.mk (y := ⟨t.f0, t.f1, l ++ [PSubFits.z25], 0⟩) RNg.out RLg.out) (by have := HGO.out; omega) 2 _⟩, ⟨fun e y hy => by
                rcases List.mem_append.1 hy with hy | hy
                · exact (GGg.out e).1 y hy
                · rw [List.mem_singleton.1 hy]; exact (GGg.out e).2⟩⟩
              case measure => simp [intOf]; omega
            · have e5 : decide (y0.f0 = 0) = false := decide_eq_false hk0
              have e6 : (y0.f0 == 0) = false := beq_eq_false_iff_ne.mpr hk0
              have e7 : (y0.f0 != 0) = true := bne_iff_ne.mpr hk0
              clear hk0
              go_wp2_with fail
              clear y0c y0d q2 q2a e5 e6 e7
              have HNr : Aside0 (Nx h p vi vo dp wr v3 E3 res3 (wr.alloc (.cells #[.int .i64 0, .slice none 0 0, .slice none 0 0, .int .i64 0] 25)) v3 E3 res3) := ⟨by obtain ⟨sq, mq⟩ := HN.out.m1; exact (Nx.refl mq).below (below_alloc (Below.refl _ _) (.cells #[.int .i64 0, .slice none 0 0, .slice none 0 0, .int .i64 0] 25))⟩
              obtain ⟨wa, hwa⟩ : ∃ wa : World, wa = wr.alloc (.cells #[.int .i64 0, .slice none 0 0, .slice none 0 0, .int .i64 0] 25) := ⟨_, rfl⟩
              rw [← hwa] at HNa HNr K4a K5a K6a Kxa Kya TXa HSZ ⊢
              clear hwa K4 K5 K6 Kx HNa TXa
              have HGR : Aside0 (wr.heap.size ≤ wr.heap.size) := ⟨Nat.le_refl _⟩
              have HNd : Aside0 (Nx h p vi vo dp wr v3 E3 res3 wa.drew v3 E3 res3) := ⟨HNr.out.drewN 1⟩
              have K4d : Aside0 (wa.drew.heap[g4]? = some (.cells #[.string key, .int .i64 (at_ : Int), .slice U us.length cU, .slice D ds.length cD, .bool out] 160 (0, 0))) := ⟨K4a.out⟩
              have K5d : Aside0 (wa.drew.heap[g5]? = some (.cells #[.int .i64 t.f0, .slice A1 t.f1.length c1, .slice (some ad) t.f2.length c2, .int .i64 t.f3] 25 (0, 0))) := ⟨by have := K5a.out; rw [HAE.out] at this; exact this⟩
              have K6d : Aside0 (wa.drew.heap[g6]? = some (.cells #[.int .i64 0, .slice none 0 0, .slice none 0 0, .int .i64 0] 25 (0, 0))) := ⟨K6a.out⟩
              have Kxd : Aside0 (wa.drew.heap[gx]? = some (.cells #[.int .i64 t.f0, .slice Av t.f1.length cv, .slice AL l.length cL, .int .i64 0] 25 (0, 0))) := ⟨Kxa.out⟩
              have Kyd : Aside0 (wa.drew.heap[wr.heap.size]? = some (.cells #[.int .i64 0, .slice none 0 0, .slice none 0 0, .int .i64 0] 25 (0, 0))) := ⟨Kya.out⟩
              generalize hgy : wr.heap.size = gy at *
              have HGYE := Aside0.mk hgy
              clear hgy
              have n4y : g4 ≠ gy := by have := HGO.out; have := HGY0.out; omega
              have n5y : g5 ≠ gy := by have := HGO.out; have := HGY0.out; omega
              have n6y : g6 ≠ gy := by have := HGO.out; have := HGY0.out; omega
              have nxy : gx ≠ gy := by have := HGO.out; have := HGY0.out; omega
              clear K4a K5a K6a Kxa Kya HNr
              have HSS : Aside0 (∀ w' : World, w'.heap[g4]? = some (.cells #[.string key, .int .i64 (at_ : Int), .slice U us.length cU, .slice D ds.length cD, .bool out] 160 (0, 0)) → w'.heap[g5]? = some (.cells #[.int .i64 t.f0, .slice A1 t.f1.length c1, .slice (some ad) t.f2.length c2, .int .i64 t.f3] 25 (0, 0)) → Below h.W0.heap.size h.W0 w' → w'.cell? ⟨g4, 0, none⟩ = some (.string key) ∧ w'.cell? ⟨g4, 1, none⟩ = some (.int .i64 (at_ : Int)) ∧ w'.cell? ⟨g4, 2, none⟩ = some (.slice U us.length cU) ∧ w'.cell? ⟨g4, 3, none⟩ = some (.slice D ds.length cD) ∧ w'.cell? ⟨g4, 4, none⟩ = some (.bool out) ∧ w'.cell? ⟨g5, 2, none⟩ = some (.slice (some ad) t.f2.length c2) ∧ w'.cell? (ad.add (k * 4)) = some (.int .i64 y0.f0) ∧ w'.cell? ⟨(ad.add (k * 4)).block, (ad.add (k * 4)).off + 1, none⟩ = some (.slice B1 y0.f1.length d1) ∧ w'.cell? ⟨(ad.add (k * 4)).block, (ad.add (k * 4)).off + 2, none⟩ = some (.slice B2 y0.f2.length d2) ∧ w'.cell? ⟨(ad.add (k * 4)).block, (ad.add (k * 4)).off + 3, none⟩ = some (.int .i64 y0.f3)) :=
                ⟨fun w' h1 h2 h3 => ⟨(blk_cell h1 0).trans rfl, (blk_cell h1 1).trans rfl, (blk_cell h1 2).trans rfl, (blk_cell h1 3).trans rfl, (blk_cell h1 4).trans rfl, (blk_cell h2 2).trans rfl, (HX.out w' h3).1, (HX.out w' h3).2.1, (HX.out w' h3).2.2.1, (HX.out w' h3).2.2.2⟩⟩
              go_region_held3 (fun w' => w'.cell? ⟨g4, 0, none⟩ = some (.string key) ∧ w'.cell? ⟨g4, 1, none⟩ = some (.int .i64 (at_ : Int)) ∧ w'.cell? ⟨g4, 2, none⟩ = some (.slice U us.length cU) ∧ w'.cell? ⟨g4, 3, none⟩ = some (.slice D ds.length cD) ∧ w'.cell? ⟨g4, 4, none⟩ = some (.bool out) ∧ w'.cell? ⟨g5, 2, none⟩ = some (.slice (some ad) t.f2.length c2) ∧ w'.cell? (ad.add (k * 4)) = some (.int .i64 y0.f0) ∧ w'.cell? ⟨(ad.add (k * 4)).block, (ad.add (k * 4)).off + 1, none⟩ = some (.slice B1 y0.f1.length d1) ∧ w'.cell? ⟨(ad.add (k * 4)).block, (ad.add (k * 4)).off + 2, none⟩ = some (.slice B2 y0.f2.length d2) ∧ w'.cell? ⟨(ad.add (k * 4)).block, (ad.add (k * 4)).off + 3, none⟩ = some (.int .i64 y0.f3))
                (first
                  | with_reducible exact HSS.out _ K4d.out K5d.out HNd.out.bl
                  | with_reducible exact HSS.out _ K4c.out K5c.out HN3.out.bl
                  | with_reducible exact HSS.out _ ((HP7.out.2.2 g4 n4y).trans K4c.out) ((HP7.out.2.2 g5 n5y).trans K5c.out) HP7.out.1.bl)
                ((go_at_call 104; refine (HIE.out p _ v3 vi vo E3 res3 ?hm key at_ us U cU ds D cD out SC.out B1 d1 B2 d2 HWE.out HTA.out).mono ?_; (case hm => with_reducible exact HNd.out.m1); rintro e w3 ⟨v4, E4, res4, y, B3, d3, B4, d4, rfl, hn, htv, hgd⟩; have HN3 := Aside0.mk (Nx.trans HNd.out hn); have HNC4 := Aside0.mk (And.intro hn.er hn.le); have K4c := Aside0.mk (hn.blk K4d.out (by decide) (by decide)); have K5c := Aside0.mk (hn.blk K5d.out (by decide) (by decide)); have K6c := Aside0.mk (hn.blk K6d.out (by decide) (by decide)); have Kxc := Aside0.mk (hn.blk Kxd.out (by decide) (by decide)); have Kyc := Aside0.mk (hn.blk Kyd.out (by decide) (by decide)); have HP7 := Aside0.mk (HN3.out.put4 Kyc.out (by decide) (by decide) (by have := HGYE.out; omega) (.int .i64 y.f0) (.slice B3 y.f1.length d3) (.slice B4 y.f2.length d4) (.int .i64 y.f3)); have r0 : w3.cell? ⟨gy, 0, none⟩ = some (.int .i64 0) := (blk_cell Kyc.out 0).trans rfl; have r1 : w3.cell? ⟨gy, 1, none⟩ = some (.slice none 0 0) := (blk_cell Kyc.out 1).trans rfl; have r2 : w3.cell? ⟨gy, 2, none⟩ = some (.slice none 0 0) := (blk_cell Kyc.out 2).trans rfl; have r3 : w3.cell? ⟨gy, 3, none⟩ = some (.int .i64 0) := (blk_cell Kyc.out 3).trans rfl; have rf0 : w3.frozen? ⟨gy, 0, none⟩ = false := blk_frozen Kyc.out 0; have rf1 : w3.frozen? ⟨gy, 1, none⟩ = false := blk_frozen Kyc.out 1; have rf2 : w3.frozen? ⟨gy, 2, none⟩ = false := blk_frozen Kyc.out 2; have rf3 : w3.frozen? ⟨gy, 3, none⟩ = false := blk_frozen Kyc.out 3; have HTV := Aside0.mk htv; have HGD := Aside0.mk hgd; clear hn htv hgd))
              have HNy := Aside0.mk (HN.out.trans HP7.out.1)
              have K4y := Aside0.mk ((HP7.out.2.2 g4 n4y).trans K4c.out)
              have K5y : Aside0 ((((((w3.setCell ⟨gy, 0, none⟩ (.int .i64 y.f0)).setCell ⟨gy, 1, none⟩ (.slice B3 y.f1.length d3)).setCell ⟨gy, 2, none⟩ (.slice B4 y.f2.length d4)).setCell ⟨gy, 3, none⟩ (.int .i64 y.f3))).heap[g5]? = some (.cells #[.int .i64 t.f0, .slice A1 t.f1.length c1, .slice A2 t.f2.length c2, .int .i64 t.f3] 25 (0, 0))) := ⟨by rw [HAE.out]; exact (HP7.out.2.2 g5 n5y).trans K5c.out⟩
              have K6y := Aside0.mk ((HP7.out.2.2 g6 n6y).trans K6c.out)
              have Kxy := Aside0.mk ((HP7.out.2.2 gx nxy).trans Kxc.out)
              have Kyy := Aside0.mk HP7.out.2.1
              have TXy := Aside0.mk (TX.out.go HP7.out.1.go)
              have TYy : Aside0 (TV p ((((w3.setCell ⟨gy, 0, none⟩ (.int .i64 y.f0)).setCell ⟨gy, 1, none⟩ (.slice B3 y.f1.length d3)).setCell ⟨gy, 2, none⟩ (.slice B4 y.f2.length d4)).setCell ⟨gy, 3, none⟩ (.int .i64 y.f3)) (gy + 1) v4 y (.slice B3 y.f1.length d3) (.slice B4 y.f2.length d4)) := ⟨by (repeat refine TV.set ?_ (by omega) _ _); exact HTV.out.lower (by have h1 := HSZ.out; have h2 : wa.drew.heap.size = wa.heap.size := rfl; omega)⟩
              have HGY : Aside0 (B0 ≤ gy + 1 ∧ gy ≤ gy + 1 ∧ gy + 1 ≤ (((((w3.setCell ⟨gy, 0, none⟩ (.int .i64 y.f0)).setCell ⟨gy, 1, none⟩ (.slice B3 y.f1.length d3)).setCell ⟨gy, 2, none⟩ (.slice B4 y.f2.length d4)).setCell ⟨gy, 3, none⟩ (.int .i64 y.f3))).heap.size) := ⟨by have := HGY0.out; omega, by omega, blk_lt Kyy.out⟩
              obtain ⟨wy, hwy⟩ : ∃ wy : World, wy = ((((w3.setCell ⟨gy, 0, none⟩ (.int .i64 y.f0)).setCell ⟨gy, 1, none⟩ (.slice B3 y.f1.length d3)).setCell ⟨gy, 2, none⟩ (.slice B4 y.f2.length d4)).setCell ⟨gy, 3, none⟩ (.int .i64 y.f3)) := ⟨_, rfl⟩
              rw [← hwy] at HNy K4y K5y K6y Kxy Kyy TXy TYy HGY ⊢
              clear hwy HP7 K4c K5c K6c Kxc Kyc HTV r0 r1 r2 r3 rf0 rf1 rf2 rf3 HN3 HNd K4d K5d K6d Kxd Kyd
              have xx0 : wy.cell? ⟨gx, 0, none⟩ = some (.int .i64 t.f0) := (blk_cell Kxy.out 0).trans rfl
              have xx1 : wy.cell? ⟨gx, 1, none⟩ = some (.slice Av t.f1.length cv) := (blk_cell Kxy.out 1).trans rfl
              have xx2 : wy.cell? ⟨gx, 2, none⟩ = some (.slice AL l.length cL) := (blk_cell Kxy.out 2).trans rfl
              have xx3 : wy.cell? ⟨gx, 3, none⟩ = some (.int .i64 0) := (blk_cell Kxy.out 3).trans rfl
              have yy0 : wy.cell? ⟨gy, 0, none⟩ = some (.int .i64 y.f0) := (blk_cell Kyy.out 0).trans rfl
              have yy1 : wy.cell? ⟨gy, 1, none⟩ = some (.slice B3 y.f1.length d3) := (blk_cell Kyy.out 1).trans rfl
              have yy2 : wy.cell? ⟨gy, 2, none⟩ = some (.slice B4 y.f2.length d4) := (blk_cell Kyy.out 2).trans rfl
              have yy3 : wy.cell? ⟨gy, 3, none⟩ = some (.int .i64 y.f3) := (blk_cell Kyy.out 3).trans rfl
              have xxf0 : wy.frozen? ⟨gx, 0, none⟩ = false := blk_frozen Kxy.out 0
              have xxf1 : wy.frozen? ⟨gx, 1, none⟩ = false := blk_frozen Kxy.out 1
              have xxf2 : wy.frozen? ⟨gx, 2, none⟩ = false := blk_frozen Kxy.out 2
              have xxf3 : wy.frozen? ⟨gx, 3, none⟩ = false := blk_frozen Kxy.out 3
              have TYB := Aside0.mk (TYy.out)
              have TXB := Aside0.mk (TXy.out)
              obtain ⟨szn, mn⟩ := HNy.out.m1
              have HPV : Aside0 (p < wy.heap.size ∧ ∀ k, v4.ownBlock = some k → k < wy.heap.size) := ⟨mn.lt, Kd.R_lt mn.hr⟩
              clear mn
              go_wp2_with (at_builtin; refine Kd.R_append PSubFits.k25 (w0 := wy) B0 rfl (.tmp 100) (.tmp 102) 23 25 (.agg #[.int .i64 0, .slice none 0 0, .slice none 0 0, .int .i64 0]) 64 rfl Try.underlying23 info25 rfl (by decide) (by decide) (.slice AL l.length cL) l y [.int .i64 y.f0, .slice B3 y.f1.length d3, .slice B4 y.f2.length d4, .int .i64 y.f3] (fun k => k ≠ p ∧ some k ≠ v4.ownBlock) (fun k => (k ≠ p ∧ some k ≠ v4.ownBlock) ∧ (gy + 1) ≤ k) rfl (by first | rfl | (simp only [World.size_alloc]; rfl)) (PSubFits.k25_mkM _ _ _ _ (Kd.R_lower (Kd.R_mono (Kd.R_bound TYB.out.n) (fun k hk => ⟨hk.1, hk.2.1⟩)) ?hl1) (Kd.R_lower (Kd.R_mono (Kd.R_bound TYB.out.l) (fun k hk => ⟨hk.1, hk.2.1⟩)) ?hl1)) ?hokp ?hfresh TXB.out.l (Below.refl _ _) ?hbase ?hl ?_)
              case hl1 => have := HGY.out; omega
              case hokp => exact fun k hk => ⟨hk.1, fun e => by have := HAL.out k e.symm; have := hk.2; have := HGY.out; omega⟩
              case hfresh => exact fun k hk => ⟨by have := HPV.out.1; omega, fun e => by have := HPV.out.2 k e.symm; omega⟩
              case hbase => have := HGY.out; omega
              case hl => have := WF.out.ll; have := HLK.out; omega
              intro v1 w1 r1 r2 r3 r4
              obtain ⟨AM, cM, hv1, _⟩ := Kd.R_reads r1
              replace hv1 : v1 = .slice AM (l.length + 1) cM := by rw [hv1]; simp
              subst hv1
              have hrow := HAL.out
              have HNg := Aside0.mk ((HNy.out).grown r3 (row_hr TXB.out.l (by have := HGO.out; have := HG4.out; omega)))
              have K4g := Aside0.mk (blk_grown K4y.out r3 (fun e => by have := hrow _ e.symm; have := HGO.out; omega))
              have K5g := Aside0.mk (blk_grown K5y.out r3 (fun e => by have := hrow _ e.symm; have := HGO.out; omega))
              have K6g := Aside0.mk (blk_grown K6y.out r3 (fun e => by have := hrow _ e.symm; have := HGO.out; omega))
              have Kxg := Aside0.mk (blk_grown Kxy.out r3 (fun e => by have := hrow _ e.symm; have := HGO.out; omega))
              have RNg := Aside0.mk (R_off TXB.out.n TXB.out.l r3 (by decide))
              have RLg := Aside0.mk r1
              have GGg := Aside0.mk (fun (e : E4 = 0) => And.intro (fun z hz => (GG.out (HNC4.out.1 e) z hz).more HNC4.out.2) (HGD.out e))
              have z2x : w1.cell? ⟨gx, 2, none⟩ = some (.slice AL l.length cL) := (blk_cell Kxg.out 2).trans rfl
              have f2x : w1.frozen? ⟨gx, 2, none⟩ = false := blk_frozen Kxg.out 2
              have HO2 := Aside0.mk (Own.mk' (w := w) (by have := HGO.out; have := HG4.out; omega) Kxg.out (by decide) (by decide))
              clear r1 r2 r3 r4 hrow HPV TYB TXB xx0 xx1 xx2 xx3 xxf0 xxf1 xxf2 xxf3 yy0 yy1 yy2 yy3
              go_wp2_with fail
              go_roundw
              case rel => exact ⟨k + 1, v4, E4, res4, l ++ [y], AM, cM, by omega, by go_num, by simp [HLK.out], ⟨HNg.out.set HO2.out 2 _⟩, ⟨blk_far K4g.out (by show _ ≠ gx; have := HGO.out; omega) _⟩, ⟨blk_far K5g.out (by show _ ≠ gx; have := HGO.out; omega) _⟩, ⟨blk_far K6g.out (by show _ ≠ gx; have := HGO.out; omega) _⟩, ⟨by rw [List.length_append]; exact blk_put Kxg.out 2 _ rfl⟩, ⟨by rw [List.length_append]; exact TV.set (g := gx) (TV.mk (y := ⟨t.f0, t.f1, l ++ [y], 0⟩) RNg.out RLg.out) (by have := HGO.out; omega) 2 _⟩, ⟨fun e y hy => by
                rcases List.mem_append.1 hy with hy | hy
                · exact (GGg.out e).1 y hy
                · rw [List.mem_singleton.1 hy]; exact (GGg.out e).2⟩⟩
              case measure => simp [intOf]; omega
          · obtain rfl : k = t.f2.length := by omega
            have xx0 : wr.cell? ⟨gx, 0, none⟩ = some (.int .i64 t.f0) := (blk_cell Kx.out 0).trans rfl
            have xx1 : wr.cell? ⟨gx, 1, none⟩ = some (.slice Av t.f1.length cv) := (blk_cell Kx.out 1).trans rfl
            have xx2 : wr.cell? ⟨gx, 2, none⟩ = some (.slice AL l.length cL) := (blk_cell Kx.out 2).trans rfl
            have xx3 : wr.cell? ⟨gx, 3, none⟩ = some (.int .i64 0) := (blk_cell Kx.out 3).trans rfl
            have n6x : g6 ≠ gx := by have := HGO.out; omega
            have n6y := n6x.symm
            have s0 : wr.cell? ⟨g6, 0, none⟩ = some (.int .i64 0) := (blk_cell K6.out 0).trans rfl
            have s1 : wr.cell? ⟨g6, 1, none⟩ = some (.slice none 0 0) := (blk_cell K6.out 1).trans rfl
            have s2 : wr.cell? ⟨g6, 2, none⟩ = some (.slice none 0 0) := (blk_cell K6.out 2).trans rfl
            have s3 : wr.cell? ⟨g6, 3, none⟩ = some (.int .i64 0) := (blk_cell K6.out 3).trans rfl
            have sf0 : wr.frozen? ⟨g6, 0, none⟩ = false := blk_frozen K6.out 0
            have sf1 : wr.frozen? ⟨g6, 1, none⟩ = false := blk_frozen K6.out 1
            have sf2 : wr.frozen? ⟨g6, 2, none⟩ = false := blk_frozen K6.out 2
            have sf3 : wr.frozen? ⟨g6, 3, none⟩ = false := blk_frozen K6.out 3
            have HP6 := Aside0.mk (HN.out.put4 K6.out (by decide) (by decide) (by have h1 := HG4.out; have h2 := HGG.out; omega) (.int .i64 t.f0) (.slice Av t.f1.length cv) (.slice AL l.length cL) (.int .i64 0))
            have HTZ : Aside0 (TV p ((((wr.setCell ⟨g6, 0, none⟩ (.int .i64 t.f0)).setCell ⟨g6, 1, none⟩ (.slice Av t.f1.length cv)).setCell ⟨g6, 2, none⟩ (.slice AL l.length cL)).setCell ⟨g6, 3, none⟩ (.int .i64 0)) B0 v3 ⟨t.f0, t.f1, l, 0⟩ (.slice Av t.f1.length cv) (.slice AL l.length cL)) := ⟨by (repeat refine TV.set ?_ (by have := HGO.out; omega) _ _); exact TX.out⟩
            go_wp2_with fail
            clear s0 sf0 s1 sf1 s2 sf2 s3 sf3
            obtain ⟨wf, hwf⟩ : ∃ wf : World, wf = ((((wr.setCell ⟨g6, 0, none⟩ (.int .i64 t.f0)).setCell ⟨g6, 1, none⟩ (.slice Av t.f1.length cv)).setCell ⟨g6, 2, none⟩ (.slice AL l.length cL)).setCell ⟨g6, 3, none⟩ (.int .i64 0)) := ⟨_, rfl⟩
            rw [← hwf] at HP6 HTZ ⊢
            clear hwf
            have s0 : wf.cell? ⟨g6, 0, none⟩ = some (.int .i64 t.f0) := (blk_cell HP6.out.2.1 0).trans rfl
            have s1 : wf.cell? ⟨g6, 1, none⟩ = some (.slice Av t.f1.length cv) := (blk_cell HP6.out.2.1 1).trans rfl
            have s2 : wf.cell? ⟨g6, 2, none⟩ = some (.slice AL l.length cL) := (blk_cell HP6.out.2.1 2).trans rfl
            have s3 : wf.cell? ⟨g6, 3, none⟩ = some (.int .i64 0) := (blk_cell HP6.out.2.1 3).trans rfl
            exact bodyPost_ret (v := .agg #[.int .i64 t.f0, .slice Av t.f1.length cv, .slice AL l.length cL, .int .i64 0]) (by simp [results, Try.results104, go_sem, *]) rfl ⟨v3, E3, res3, ⟨t.f0, t.f1, l, 0⟩, Av, cv, AL, cL, rfl, HP6.out.1, HTZ.out.lower (by have := HG4.out; have := HGO.out; omega), fun e => .mk (fun hh => by have hh' : t.f0 = 20 ∨ t.f0 = 21 := hh; omega) (GG.out e)⟩
  · have e1 : decide (E2 = 0) = false := decide_eq_false hE0
    have e2 : (E2 == 0) = false := beq_eq_false_iff_ne.mpr hE0
    have e3 : (E2 != 0) = true := bne_iff_ne.mpr hE0
    have HE0 := Aside0.mk hE0
    clear hE0
    have s0 : w2.cell? ⟨g6, 0, none⟩ = some (.int .i64 0) := (blk_cell K6b.out 0).trans rfl
    have s1 : w2.cell? ⟨g6, 1, none⟩ = some (.slice none 0 0) := (blk_cell K6b.out 1).trans rfl
    have s2 : w2.cell? ⟨g6, 2, none⟩ = some (.slice none 0 0) := (blk_cell K6b.out 2).trans rfl
    have s3 : w2.cell? ⟨g6, 3, none⟩ = some (.int .i64 0) := (blk_cell K6b.out 3).trans rfl
    have sf0 : w2.frozen? ⟨g6, 0, none⟩ = false := blk_frozen K6b.out 0
    have sf1 : w2.frozen? ⟨g6, 1, none⟩ = false := blk_frozen K6b.out 1
    have sf2 : w2.frozen? ⟨g6, 2, none⟩ = false := blk_frozen K6b.out 2
    have sf3 : w2.frozen? ⟨g6, 3, none⟩ = false := blk_frozen K6b.out 3
    have HP6 := Aside0.mk (HN2.out.put4 K6b.out (by decide) (by decide) (by have h1 := HG4.out; have h2 := HGG.out; omega) (.int .i64 0) (.slice none 0 0) (.slice none 0 0) (.int .i64 0))
    go_wp2_with fail
    clear s0 sf0 s1 sf1 s2 sf2 s3 sf3
    obtain ⟨wf, hwf⟩ : ∃ wf : World, wf = ((((w2.setCell ⟨g6, 0, none⟩ (.int .i64 0)).setCell ⟨g6, 1, none⟩ (.slice none 0 0)).setCell ⟨g6, 2, none⟩ (.slice none 0 0)).setCell ⟨g6, 3, none⟩ (.int .i64 0)) := ⟨_, rfl⟩
    rw [← hwf] at HP6 ⊢
    clear hwf
    have s0 : wf.cell? ⟨g6, 0, none⟩ = some (.int .i64 0) := (blk_cell HP6.out.2.1 0).trans rfl
    have s1 : wf.cell? ⟨g6, 1, none⟩ = some (.slice none 0 0) := (blk_cell HP6.out.2.1 1).trans rfl
    have s2 : wf.cell? ⟨g6, 2, none⟩ = some (.slice none 0 0) := (blk_cell HP6.out.2.1 2).trans rfl
    have s3 : wf.cell? ⟨g6, 3, none⟩ = some (.int .i64 0) := (blk_cell HP6.out.2.1 3).trans rfl
    exact bodyPost_ret (v := .agg #[.int .i64 0, .slice none 0 0, .slice none 0 0, .int .i64 0]) (by simp [results, Try.results104, go_sem, *]) rfl ⟨v, E2, res, PSubFits.z25, none, 0, none, 0, rfl, HP6.out.1, TV.zero _ _ _ _, fun h => absurd h HE0.out⟩
theorem type_all {h : Hd} (ok : h.Ok) (dp : Nat) (hn : NameC h dp) : ∀ (n : Nat) (t : S25), SizeOf.sizeOf t ≤ n → TypeC h dp t := by
  intro n
  induction n with
  | zero =>
    intro t ht
    cases t
    simp at ht
  | succ n ih =>
    intro t ht
    exact type_step ok dp hn t (fun y hy => ih y (by
      have h1 := List.sizeOf_lt_of_mem hy
      cases t
      simp at h1 ht ⊢
      omega))
theorem type_any {h : Hd} (ok : h.Ok) (dp : Nat) (hn : NameC h dp) (t : S25) : TypeC h dp t := type_all ok dp hn _ t (Nat.le_refl _)
end Go.Proofs.Ytmpmcffhlnlejaa.Mkr
end
