/- A part of the proof of the law that its last file names: texts of this seat's author and of the kit's printer, cut to what the theorem uses. Part 17: Mk9. -/
import Derived.Test.YtmpmcffhlnlejaaCs16
section
namespace Go.Proofs.Ytmpmcffhlnlejaa.Mkr
open Go.RowKit Go.Proofs.YtmpmcffhlnlejaaW.PrintWords Go.Proofs.YtmpmcffhlnlejaaW.PrintLast Go.Proofs.YtmpmcffhlnlejaaW.PrintMore
open Go.Proofs.Ytmpmcffhlnlejaa.PSubSelf Go.Proofs.Ytmpmcffhlnlejaa.Wld
set_option linter.unusedVariables false
set_option linter.unusedSimpArgs false
set_option maxHeartbeats 16000000 in
set_option maxRecDepth 100000 in
theorem stands_any {h : Hd} (ok : h.Ok) (dp : Nat) (hn : NameC h dp) (ht : ∀ t, TypeC h dp t) : StandsC h dp := by
  intro p w v vi vo E res m key at_ us U cU ds D cD out sc n
  have M := Aside0.mk m
  have OK := Aside0.mk ok
  have SC := Aside0.mk sc
  have HNC := Aside0.mk hn
  have HTC := Aside0.mk ht
  have hdl := sc.wf.dl
  have hul := sc.wf.ul
  clear m ok sc hn ht
  unfold scV
  go_enter Try.func112, Try.ntmps112
  go_wp2_with fail
  obtain ⟨wb, hwb⟩ : ∃ wb : World, wb = ((w.alloc (.cells #[.string key, .int .i64 (at_ : Int), .slice U us.length cU, .slice D ds.length cD, .bool out] 160)).alloc (.cells #[.int .i64 0, .slice none 0 0, .slice none 0 0, .int .i64 0] 25)) := ⟨_, rfl⟩
  have HNB : Aside0 (Nx h p vi vo dp w v E res wb v E res) := ⟨by rw [hwb]; obtain ⟨sz, m⟩ := M.out; exact (Nx.refl m).below (below_alloc (below_alloc (Below.refl _ _) _) _)⟩
  have K4 : Aside0 (wb.heap[w.heap.size]? = some (.cells #[.string key, .int .i64 (at_ : Int), .slice U us.length cU, .slice D ds.length cD, .bool out] 160 (0, 0))) := ⟨by rw [hwb]; exact blk_alloc (blk_new w _) _⟩
  have K6 : Aside0 (wb.heap[w.heap.size + 1]? = some (.cells #[.int .i64 0, .slice none 0 0, .slice none 0 0, .int .i64 0] 25 (0, 0))) := ⟨by rw [hwb]; have := blk_new (w.alloc (.cells #[.string key, .int .i64 (at_ : Int), .slice U us.length cU, .slice D ds.length cD, .bool out] 160)) (.cells #[.int .i64 0, .slice none 0 0, .slice none 0 0, .int .i64 0] 25); simp only [World.size_alloc] at this; exact this⟩
  have HG4 : Aside0 (w.heap.size ≤ w.heap.size ∧ w.heap.size < w.heap.size + 1) := ⟨by omega⟩
  rw [← hwb]
  clear hwb
  generalize w.heap.size + 1 = g6 at *
  generalize hg4 : w.heap.size = g4 at *
  replace HG4 : Aside0 (w.heap.size = g4 ∧ g4 < g6) := ⟨hg4, HG4.out.2⟩
  clear hg4
  go_loopw [8] (fun v8 wr => ∃ k : Nat, k ≤ ds.length ∧ v8 = .int .i64 k ∧ Aside0 (Nx h p vi vo dp w v E res wr v E res) ∧ Aside0 (wr.heap[g4]? = some (.cells #[.string key, .int .i64 (at_ : Int), .slice U us.length cU, .slice D ds.length cD, .bool out] 160 (0, 0))) ∧ Aside0 (wr.heap[g6]? = some (.cells #[.int .i64 0, .slice none 0 0, .slice none 0 0, .int .i64 0] 25 (0, 0)))) (fun v8 _ => ds.length - (intOf v8).toNat)
  case atStart => exact ⟨0, Nat.zero_le _, rfl, HNB, K4, K6⟩
  case round =>
    clear HNB K4 K6
    obtain ⟨k, hk, rfl, HN, K4, K6⟩ := hrel
    by_cases hlt : k < ds.length
    · obtain ⟨ad, A3, c3, A4, c4, A6, c6, hae, hx, l1, g1, l2, g2, l3, g3⟩ := el154 SC.out.hD hlt
      have b3 : wr.cell? ⟨g4, 3, none⟩ = some (.slice D ds.length cD) := (blk_cell K4.out 3).trans rfl
      rw [hae] at b3
      have HTA : Aside0 (TA h.W0 ds[k].f2 A3 c3 A4 c4) := ⟨⟨g1, l1, g2, l2⟩⟩
      have HME := Aside0.mk (List.getElem_mem hlt)
      have HWD := Aside0.mk (SC.out.wf.ds _ (List.getElem_mem hlt))
      obtain ⟨x0, x1, x2, x3, x4, x5, x6⟩ := hx wr HN.out.bl
      clear hx l1 g1 l2 g2 l3 g3 hae
      generalize ds[k] = d at *
      have HNd := Aside0.mk (HN.out.below (below_alloc (Below.refl _ _) (.cells #[.int .i64 d.f0, .string d.f1, .int .i64 d.f2.f0, .slice A3 d.f2.f1.length c3, .slice A4 d.f2.f2.length c4, .int .i64 d.f2.f3, .slice A6 d.f3.length c6] 154)))
      have K4d := Aside0.mk (blk_alloc K4.out (.cells #[.int .i64 d.f0, .string d.f1, .int .i64 d.f2.f0, .slice A3 d.f2.f1.length c3, .slice A4 d.f2.f2.length c4, .int .i64 d.f2.f3, .slice A6 d.f3.length c6] 154))
      have K6d := Aside0.mk (blk_alloc K6.out (.cells #[.int .i64 d.f0, .string d.f1, .int .i64 d.f2.f0, .slice A3 d.f2.f1.length c3, .slice A4 d.f2.f2.length c4, .int .i64 d.f2.f3, .slice A6 d.f3.length c6] 154))
      have K9d := Aside0.mk (blk_new wr (.cells #[.int .i64 d.f0, .string d.f1, .int .i64 d.f2.f0, .slice A3 d.f2.f1.length c3, .slice A4 d.f2.f2.length c4, .int .i64 d.f2.f3, .slice A6 d.f3.length c6] 154))
      have HN96 : Aside0 (wr.heap.size ≠ g6) := ⟨by have := blk_lt K6.out; omega⟩
      have q0 : (wr.alloc (.cells #[.int .i64 d.f0, .string d.f1, .int .i64 d.f2.f0, .slice A3 d.f2.f1.length c3, .slice A4 d.f2.f2.length c4, .int .i64 d.f2.f3, .slice A6 d.f3.length c6] 154)).cell? ⟨wr.heap.size, 0, none⟩ = some (.int .i64 d.f0) := (blk_cell K9d.out 0).trans rfl
      have q1 : (wr.alloc (.cells #[.int .i64 d.f0, .string d.f1, .int .i64 d.f2.f0, .slice A3 d.f2.f1.length c3, .slice A4 d.f2.f2.length c4, .int .i64 d.f2.f3, .slice A6 d.f3.length c6] 154)).cell? ⟨wr.heap.size, 1, none⟩ = some (.string d.f1) := (blk_cell K9d.out 1).trans rfl
      have q2 : (wr.alloc (.cells #[.int .i64 d.f0, .string d.f1, .int .i64 d.f2.f0, .slice A3 d.f2.f1.length c3, .slice A4 d.f2.f2.length c4, .int .i64 d.f2.f3, .slice A6 d.f3.length c6] 154)).cell? ⟨wr.heap.size, 2, none⟩ = some (.int .i64 d.f2.f0) := (blk_cell K9d.out 2).trans rfl
      have q3 : (wr.alloc (.cells #[.int .i64 d.f0, .string d.f1, .int .i64 d.f2.f0, .slice A3 d.f2.f1.length c3, .slice A4 d.f2.f2.length c4, .int .i64 d.f2.f3, .slice A6 d.f3.length c6] 154)).cell? ⟨wr.heap.size, 3, none⟩ = some (.slice A3 d.f2.f1.length c3) := (blk_cell K9d.out 3).trans rfl
      have q4 : (wr.alloc (.cells #[.int .i64 d.f0, .string d.f1, .int .i64 d.f2.f0, .slice A3 d.f2.f1.length c3, .slice A4 d.f2.f2.length c4, .int .i64 d.f2.f3, .slice A6 d.f3.length c6] 154)).cell? ⟨wr.heap.size, 4, none⟩ = some (.slice A4 d.f2.f2.length c4) := (blk_cell K9d.out 4).trans rfl
      have q5 : (wr.alloc (.cells #[.int .i64 d.f0, .string d.f1, .int .i64 d.f2.f0, .slice A3 d.f2.f1.length c3, .slice A4 d.f2.f2.length c4, .int .i64 d.f2.f3, .slice A6 d.f3.length c6] 154)).cell? ⟨wr.heap.size, 5, none⟩ = some (.int .i64 d.f2.f3) := (blk_cell K9d.out 5).trans rfl
      have q6 : (wr.alloc (.cells #[.int .i64 d.f0, .string d.f1, .int .i64 d.f2.f0, .slice A3 d.f2.f1.length c3, .slice A4 d.f2.f2.length c4, .int .i64 d.f2.f3, .slice A6 d.f3.length c6] 154)).cell? ⟨wr.heap.size, 6, none⟩ = some (.slice A6 d.f3.length c6) := (blk_cell K9d.out 6).trans rfl
      by_cases hd : d.f1.toList = n.toList
      · have t2 : (d.f1.toList == n.toList) = true := beq_iff_eq.mpr hd
        have t3 : (d.f1.toList != n.toList) = false := bne_eq_false_iff_eq.mpr hd
        have HDN := Aside0.mk (Go.Proofs.Ytmpmcffhlnlejaa.SubEq.bytes_ext hd)
        clear hd
        have HSD : Aside0 (g6 < (wr.alloc (.cells #[.int .i64 d.f0, .string d.f1, .int .i64 d.f2.f0, .slice A3 d.f2.f1.length c3, .slice A4 d.f2.f2.length c4, .int .i64 d.f2.f3, .slice A6 d.f3.length c6] 154)).heap.size) := ⟨blk_lt K6d.out⟩
        have b0 : (wr.alloc (.cells #[.int .i64 d.f0, .string d.f1, .int .i64 d.f2.f0, .slice A3 d.f2.f1.length c3, .slice A4 d.f2.f2.length c4, .int .i64 d.f2.f3, .slice A6 d.f3.length c6] 154)).cell? ⟨g4, 0, none⟩ = some (.string key) := (blk_cell K4d.out 0).trans rfl
        have b1 : (wr.alloc (.cells #[.int .i64 d.f0, .string d.f1, .int .i64 d.f2.f0, .slice A3 d.f2.f1.length c3, .slice A4 d.f2.f2.length c4, .int .i64 d.f2.f3, .slice A6 d.f3.length c6] 154)).cell? ⟨g4, 1, none⟩ = some (.int .i64 (at_ : Int)) := (blk_cell K4d.out 1).trans rfl
        have b2 : (wr.alloc (.cells #[.int .i64 d.f0, .string d.f1, .int .i64 d.f2.f0, .slice A3 d.f2.f1.length c3, .slice A4 d.f2.f2.length c4, .int .i64 d.f2.f3, .slice A6 d.f3.length c6] 154)).cell? ⟨g4, 2, none⟩ = some (.slice U us.length cU) := (blk_cell K4d.out 2).trans rfl
        have b3 : (wr.alloc (.cells #[.int .i64 d.f0, .string d.f1, .int .i64 d.f2.f0, .slice A3 d.f2.f1.length c3, .slice A4 d.f2.f2.length c4, .int .i64 d.f2.f3, .slice A6 d.f3.length c6] 154)).cell? ⟨g4, 3, none⟩ = some (.slice D ds.length cD) := (blk_cell K4d.out 3).trans rfl
        have b4 : (wr.alloc (.cells #[.int .i64 d.f0, .string d.f1, .int .i64 d.f2.f0, .slice A3 d.f2.f1.length c3, .slice A4 d.f2.f2.length c4, .int .i64 d.f2.f3, .slice A6 d.f3.length c6] 154)).cell? ⟨g4, 4, none⟩ = some (.bool out) := (blk_cell K4d.out 4).trans rfl
        by_cases h6 : d.f0 = 6
        · have e5 : decide (d.f0 = 6) = true := decide_eq_true h6
          have e6 : (d.f0 == 6) = true := beq_iff_eq.mpr h6
          clear h6
          go_wp2_with fail
          clear b0 b1 b2 b3 b4 q0 q1 q2 q3 q4 q5 q6
          refine (resource_any OK.out HNd.out.m1 cU cD out SC.out (n := n) (by rw [← HDN.out]; exact HWD.out.nm) ⟨d, HME.out, HDN.out⟩).mono ?_
          rintro e w3 ⟨v3, res3, i, rfl, hi, hn⟩
          have HN3 := Aside0.mk (HNd.out.trans hn)
          have K6c := Aside0.mk (hn.blk K6d.out (by decide) (by decide))
          have HI := Aside0.mk hi
          clear hn hi
          have s0 : w3.cell? ⟨g6, 0, none⟩ = some (.int .i64 0) := (blk_cell K6c.out 0).trans rfl
          have s1 : w3.cell? ⟨g6, 1, none⟩ = some (.slice none 0 0) := (blk_cell K6c.out 1).trans rfl
          have s2 : w3.cell? ⟨g6, 2, none⟩ = some (.slice none 0 0) := (blk_cell K6c.out 2).trans rfl
          have s3 : w3.cell? ⟨g6, 3, none⟩ = some (.int .i64 0) := (blk_cell K6c.out 3).trans rfl
          have sf0 : w3.frozen? ⟨g6, 0, none⟩ = false := blk_frozen K6c.out 0
          have sf1 : w3.frozen? ⟨g6, 1, none⟩ = false := blk_frozen K6c.out 1
          have sf2 : w3.frozen? ⟨g6, 2, none⟩ = false := blk_frozen K6c.out 2
          have sf3 : w3.frozen? ⟨g6, 3, none⟩ = false := blk_frozen K6c.out 3
          have HP6 := Aside0.mk (HN3.out.put4 K6c.out (by decide) (by decide) (by have h1 := HG4.out; omega) (.int .i64 0) (.slice none 0 0) (.slice none 0 0) (.int .i64 0))
          go_wp2_with fail
          clear s0 s1 s2 s3 sf0 sf1 sf2 sf3
          have HTZ : Aside0 (TV p ((((w3.setCell ⟨g6, 0, none⟩ (.int .i64 0)).setCell ⟨g6, 1, none⟩ (.slice none 0 0)).setCell ⟨g6, 2, none⟩ (.slice none 0 0)).setCell ⟨g6, 3, none⟩ (.int .i64 0)) w.heap.size v3 PSubFits.z25 (.slice none 0 0) (.slice none 0 0)) := ⟨TV.zero _ _ _ _⟩
          obtain ⟨wf, hwf⟩ : ∃ wf : World, wf = ((((w3.setCell ⟨g6, 0, none⟩ (.int .i64 0)).setCell ⟨g6, 1, none⟩ (.slice none 0 0)).setCell ⟨g6, 2, none⟩ (.slice none 0 0)).setCell ⟨g6, 3, none⟩ (.int .i64 0)) := ⟨_, rfl⟩
          rw [← hwf] at HP6 HTZ ⊢
          clear hwf
          have s0 : wf.cell? ⟨g6, 0, none⟩ = some (.int .i64 0) := (blk_cell HP6.out.2.1 0).trans rfl
          have s1 : wf.cell? ⟨g6, 1, none⟩ = some (.slice none 0 0) := (blk_cell HP6.out.2.1 1).trans rfl
          have s2 : wf.cell? ⟨g6, 2, none⟩ = some (.slice none 0 0) := (blk_cell HP6.out.2.1 2).trans rfl
          have s3 : wf.cell? ⟨g6, 3, none⟩ = some (.int .i64 0) := (blk_cell HP6.out.2.1 3).trans rfl
          exact bodyPost_ret (v := .tuple #[.agg #[.int .i64 0, .slice none 0 0, .slice none 0 0, .int .i64 0], .int .i64 (i : Int)]) (by simp [results, Try.results112, go_sem, *]) rfl ⟨v3, E, res3, PSubFits.z25, _, _, _, _, _, rfl, HP6.out.1, HTZ.out, fun _ => ⟨GoodT.zero _, by have := HI.out; omega⟩⟩
        · have e5 : decide (d.f0 = 6) = false := decide_eq_false h6
          have e6 : (d.f0 == 6) = false := beq_eq_false_iff_ne.mpr h6
          clear h6
          by_cases h22 : d.f2.f0 = 22
          · have e7 : decide (d.f2.f0 = 22) = true := decide_eq_true h22
            have e8 : (d.f2.f0 == 22) = true := beq_iff_eq.mpr h22
            have H22 := Aside0.mk h22
            clear h22
            go_wp2_with fail
            obtain ⟨wd, hwd⟩ : ∃ wd : World, wd = wr.alloc (.cells #[.int .i64 d.f0, .string d.f1, .int .i64 d.f2.f0, .slice A3 d.f2.f1.length c3, .slice A4 d.f2.f2.length c4, .int .i64 d.f2.f3, .slice A6 d.f3.length c6] 154) := ⟨_, rfl⟩
            rw [← hwd] at HNd K4d K6d K9d HSD b0 b1 b2 b3 b4 q0 q1 q2 q3 q4 q5 q6 ⊢
            clear hwd b3 x0 x1 x2 x3 x4 x5 x6 t2 t3 e5 e6 e7 e8
            generalize wr.heap.size = g9 at *
            have hn0 : 0 < d.f2.f1.length := Nat.pos_of_ne_zero (HWD.out.t.kd (by have := H22.out; omega))
            obtain ⟨ad1, hae1, hx1⟩ := str_at HTA.out.n hn0
            have HX1 := Aside0.mk hx1
            have HAE1 := Aside0.mk hae1
            clear hx1 hae1
            generalize d.f2.f1[0] = nm at *
            have HNd2 : Aside0 (Nx h p vi vo dp w v E res wd.drew v E res) := ⟨HNd.out.drewN 1⟩
            have K4e : Aside0 (wd.drew.heap[g4]? = some (.cells #[.string key, .int .i64 (at_ : Int), .slice U us.length cU, .slice D ds.length cD, .bool out] 160 (0, 0))) := ⟨K4d.out⟩
            have K6e : Aside0 (wd.drew.heap[g6]? = some (.cells #[.int .i64 0, .slice none 0 0, .slice none 0 0, .int .i64 0] 25 (0, 0))) := ⟨K6d.out⟩
            have K9e : Aside0 (wd.drew.heap[g9]? = some (.cells #[.int .i64 d.f0, .string d.f1, .int .i64 d.f2.f0, .slice (some ad1) d.f2.f1.length c3, .slice A4 d.f2.f2.length c4, .int .i64 d.f2.f3, .slice A6 d.f3.length c6] 154 (0, 0))) := ⟨by have := K9d.out; rw [HAE1.out] at this; exact this⟩
            have n46 : g4 ≠ g6 := by have := HG4.out; omega
            have n96 : g9 ≠ g6 := HN96.out
            have HSS : Aside0 (∀ w' : World, w'.heap[g4]? = some (.cells #[.string key, .int .i64 (at_ : Int), .slice U us.length cU, .slice D ds.length cD, .bool out] 160 (0, 0)) → w'.heap[g9]? = some (.cells #[.int .i64 d.f0, .string d.f1, .int .i64 d.f2.f0, .slice (some ad1) d.f2.f1.length c3, .slice A4 d.f2.f2.length c4, .int .i64 d.f2.f3, .slice A6 d.f3.length c6] 154 (0, 0)) → Below h.W0.heap.size h.W0 w' → w'.cell? ⟨g4, 0, none⟩ = some (.string key) ∧ w'.cell? ⟨g4, 1, none⟩ = some (.int .i64 (at_ : Int)) ∧ w'.cell? ⟨g4, 2, none⟩ = some (.slice U us.length cU) ∧ w'.cell? ⟨g4, 3, none⟩ = some (.slice D ds.length cD) ∧ w'.cell? ⟨g4, 4, none⟩ = some (.bool out) ∧ w'.cell? ⟨g9, 3, none⟩ = some (.slice (some ad1) d.f2.f1.length c3) ∧ w'.cell? (ad1.add 0) = some (.string nm) ∧ w'.cell? ad1 = some (.string nm)) :=
              ⟨fun w' h1 h2 h3 => ⟨(blk_cell h1 0).trans rfl, (blk_cell h1 1).trans rfl, (blk_cell h1 2).trans rfl, (blk_cell h1 3).trans rfl, (blk_cell h1 4).trans rfl, (blk_cell h2 3).trans rfl, HX1.out w' h3, by have := HX1.out w' h3; rw [add0] at this; exact this⟩⟩
            clear HNd K4d K6d K9d
            go_wp2_with fail
            clear b0 b1 b2 b3 b4 q0 q1 q2 q3 q4 q5 q6
            go_region_held3 (fun w' => w'.cell? ⟨g4, 0, none⟩ = some (.string key) ∧ w'.cell? ⟨g4, 1, none⟩ = some (.int .i64 (at_ : Int)) ∧ w'.cell? ⟨g4, 2, none⟩ = some (.slice U us.length cU) ∧ w'.cell? ⟨g4, 3, none⟩ = some (.slice D ds.length cD) ∧ w'.cell? ⟨g4, 4, none⟩ = some (.bool out) ∧ w'.cell? ⟨g9, 3, none⟩ = some (.slice (some ad1) d.f2.f1.length c3) ∧ w'.cell? (ad1.add 0) = some (.string nm) ∧ w'.cell? ad1 = some (.string nm))
              (first
                | with_reducible exact HSS.out _ K4e.out K9e.out HNd2.out.bl
                | with_reducible exact HSS.out _ K4c.out K9c.out HN3.out.bl
                | with_reducible exact HSS.out _ ((HP6.out.2.2 g4 n46).trans K4c.out) ((HP6.out.2.2 g9 n96).trans K9c.out) HP6.out.1.bl)
              ((go_at_call 111; refine (HNC.out p _ v vi vo E res ?hm key at_ us U cU ds D cD out SC.out nm).mono ?_; (case hm => with_reducible exact HNd2.out.m1); rintro e w3 ⟨v3, E3, res3, y, B1, d1, B2, d2, i, rfl, hn, htv, hgd⟩; have HN3 := Aside0.mk (Nx.trans HNd2.out hn); have K4c := Aside0.mk (hn.blk K4e.out (by decide) (by decide)); have K9c := Aside0.mk (hn.blk K9e.out (by decide) (by decide)); have K6c := Aside0.mk (hn.blk K6e.out (by decide) (by decide)); have HP6 := Aside0.mk (HN3.out.put4 K6c.out (by decide) (by decide) (by have h1 := HG4.out; omega) (.int .i64 y.f0) (.slice B1 y.f1.length d1) (.slice B2 y.f2.length d2) (.int .i64 y.f3)); have s0 : w3.cell? ⟨g6, 0, none⟩ = some (.int .i64 0) := (blk_cell K6c.out 0).trans rfl; have s1 : w3.cell? ⟨g6, 1, none⟩ = some (.slice none 0 0) := (blk_cell K6c.out 1).trans rfl; have s2 : w3.cell? ⟨g6, 2, none⟩ = some (.slice none 0 0) := (blk_cell K6c.out 2).trans rfl; have s3 : w3.cell? ⟨g6, 3, none⟩ = some (.int .i64 0) := (blk_cell K6c.out 3).trans rfl; have sf0 : w3.frozen? ⟨g6, 0, none⟩ = false := blk_frozen K6c.out 0; have sf1 : w3.frozen? ⟨g6, 1, none⟩ = false := blk_frozen K6c.out 1; have sf2 : w3.frozen? ⟨g6, 2, none⟩ = false := blk_frozen K6c.out 2; have sf3 : w3.frozen? ⟨g6, 3, none⟩ = false := blk_frozen K6c.out 3; have HTV := Aside0.mk htv; have HGD := Aside0.mk hgd; clear hn htv hgd))
            clear s0 s1 s2 s3 sf0 sf1 sf2 sf3
            go_wp2_with fail
            have HTZ : Aside0 (TV p ((((w3.setCell ⟨g6, 0, none⟩ (.int .i64 y.f0)).setCell ⟨g6, 1, none⟩ (.slice B1 y.f1.length d1)).setCell ⟨g6, 2, none⟩ (.slice B2 y.f2.length d2)).setCell ⟨g6, 3, none⟩ (.int .i64 y.f3)) w.heap.size v3 y (.slice B1 y.f1.length d1) (.slice B2 y.f2.length d2)) := ⟨TV.lower (by (repeat refine TV.set ?_ (by have := HSD.out; omega) _ _); exact HTV.out) (by have := HSD.out; have h1 := HG4.out; have h2 : wd.drew.heap.size = wd.heap.size := rfl; omega)⟩
            obtain ⟨wf, hwf⟩ : ∃ wf : World, wf = ((((w3.setCell ⟨g6, 0, none⟩ (.int .i64 y.f0)).setCell ⟨g6, 1, none⟩ (.slice B1 y.f1.length d1)).setCell ⟨g6, 2, none⟩ (.slice B2 y.f2.length d2)).setCell ⟨g6, 3, none⟩ (.int .i64 y.f3)) := ⟨_, rfl⟩
            rw [← hwf] at HP6 HTZ ⊢
            clear hwf
            have s0 : wf.cell? ⟨g6, 0, none⟩ = some (.int .i64 y.f0) := (blk_cell HP6.out.2.1 0).trans rfl
            have s1 : wf.cell? ⟨g6, 1, none⟩ = some (.slice B1 y.f1.length d1) := (blk_cell HP6.out.2.1 1).trans rfl
            have s2 : wf.cell? ⟨g6, 2, none⟩ = some (.slice B2 y.f2.length d2) := (blk_cell HP6.out.2.1 2).trans rfl
            have s3 : wf.cell? ⟨g6, 3, none⟩ = some (.int .i64 y.f3) := (blk_cell HP6.out.2.1 3).trans rfl
            exact bodyPost_ret (v := .tuple #[.agg #[.int .i64 y.f0, .slice B1 y.f1.length d1, .slice B2 y.f2.length d2, .int .i64 y.f3], .int .i64 i]) (by simp [results, Try.results112, go_sem, *]) rfl ⟨v3, E3, res3, y, _, _, _, _, _, rfl, HP6.out.1, HTZ.out, HGD.out⟩
          · have e7 : decide (d.f2.f0 = 22) = false := decide_eq_false h22
            have e8 : (d.f2.f0 == 22) = false := beq_eq_false_iff_ne.mpr h22
            clear h22
            go_wp2_with fail
            clear b0 b1 b2 b3 b4 q0 q1 q2 q3 q4 q5 q6
            refine (HTC.out d.f2 p _ v vi vo E res HNd.out.m1 key at_ us U cU ds D cD out SC.out A3 c3 A4 c4 HWD.out.t HTA.out).mono ?_
            rintro e w3 ⟨v3, E3, res3, y, B1, d1, B2, d2, rfl, hn, htv, hgd⟩
            have HN3 := Aside0.mk (HNd.out.trans hn)
            have K6c := Aside0.mk (hn.blk K6d.out (by decide) (by decide))
            have HTV := Aside0.mk htv
            have HGD := Aside0.mk (fun e => And.intro (hgd e) (show (-1 : Int) < res3.length by omega))
            clear hn htv hgd
            have s0 : w3.cell? ⟨g6, 0, none⟩ = some (.int .i64 0) := (blk_cell K6c.out 0).trans rfl
            have s1 : w3.cell? ⟨g6, 1, none⟩ = some (.slice none 0 0) := (blk_cell K6c.out 1).trans rfl
            have s2 : w3.cell? ⟨g6, 2, none⟩ = some (.slice none 0 0) := (blk_cell K6c.out 2).trans rfl
            have s3 : w3.cell? ⟨g6, 3, none⟩ = some (.int .i64 0) := (blk_cell K6c.out 3).trans rfl
            have sf0 : w3.frozen? ⟨g6, 0, none⟩ = false := blk_frozen K6c.out 0
            have sf1 : w3.frozen? ⟨g6, 1, none⟩ = false := blk_frozen K6c.out 1
            have sf2 : w3.frozen? ⟨g6, 2, none⟩ = false := blk_frozen K6c.out 2
            have sf3 : w3.frozen? ⟨g6, 3, none⟩ = false := blk_frozen K6c.out 3
            have HP6 := Aside0.mk (HN3.out.put4 K6c.out (by decide) (by decide) (by have h1 := HG4.out; omega) (.int .i64 y.f0) (.slice B1 y.f1.length d1) (.slice B2 y.f2.length d2) (.int .i64 y.f3))
            go_wp2_with fail
            clear s0 s1 s2 s3 sf0 sf1 sf2 sf3
            have HTZ : Aside0 (TV p ((((w3.setCell ⟨g6, 0, none⟩ (.int .i64 y.f0)).setCell ⟨g6, 1, none⟩ (.slice B1 y.f1.length d1)).setCell ⟨g6, 2, none⟩ (.slice B2 y.f2.length d2)).setCell ⟨g6, 3, none⟩ (.int .i64 y.f3)) w.heap.size v3 y (.slice B1 y.f1.length d1) (.slice B2 y.f2.length d2)) := ⟨TV.lower (by (repeat refine TV.set ?_ (by have := HSD.out; omega) _ _); exact HTV.out) (by have := HSD.out; have h1 := HG4.out; omega)⟩
            obtain ⟨wf, hwf⟩ : ∃ wf : World, wf = ((((w3.setCell ⟨g6, 0, none⟩ (.int .i64 y.f0)).setCell ⟨g6, 1, none⟩ (.slice B1 y.f1.length d1)).setCell ⟨g6, 2, none⟩ (.slice B2 y.f2.length d2)).setCell ⟨g6, 3, none⟩ (.int .i64 y.f3)) := ⟨_, rfl⟩
            rw [← hwf] at HP6 HTZ ⊢
            clear hwf
            have s0 : wf.cell? ⟨g6, 0, none⟩ = some (.int .i64 y.f0) := (blk_cell HP6.out.2.1 0).trans rfl
            have s1 : wf.cell? ⟨g6, 1, none⟩ = some (.slice B1 y.f1.length d1) := (blk_cell HP6.out.2.1 1).trans rfl
            have s2 : wf.cell? ⟨g6, 2, none⟩ = some (.slice B2 y.f2.length d2) := (blk_cell HP6.out.2.1 2).trans rfl
            have s3 : wf.cell? ⟨g6, 3, none⟩ = some (.int .i64 y.f3) := (blk_cell HP6.out.2.1 3).trans rfl
            exact bodyPost_ret (v := .tuple #[.agg #[.int .i64 y.f0, .slice B1 y.f1.length d1, .slice B2 y.f2.length d2, .int .i64 y.f3], .int .i64 (-1)]) (by simp [results, Try.results112, go_sem, *]) rfl ⟨v3, E3, res3, y, _, _, _, _, _, rfl, HP6.out.1, HTZ.out, HGD.out⟩
      · have t2 : (d.f1.toList == n.toList) = false := beq_eq_false_iff_ne.mpr hd
        have t3 : (d.f1.toList != n.toList) = true := bne_iff_ne.mpr hd
        clear hd
        go_wp2_with fail
        go_roundw
        case rel => exact ⟨k + 1, by omega, by go_num, HNd, K4d, K6d⟩
        case measure => simp [intOf]; omega
    · obtain rfl : k = ds.length := by omega
      have b3 : wr.cell? ⟨g4, 3, none⟩ = some (.slice D ds.length cD) := (blk_cell K4.out 3).trans rfl
      go_wp2_with fail
      clear b3
      go_loopw [10] (fun v10 wr => ∃ j : Nat, j ≤ us.length ∧ v10 = .int .i64 j ∧ Aside0 (Nx h p vi vo dp w v E res wr v E res) ∧ Aside0 (wr.heap[g4]? = some (.cells #[.string key, .int .i64 (at_ : Int), .slice U us.length cU, .slice D ds.length cD, .bool out] 160 (0, 0))) ∧ Aside0 (wr.heap[g6]? = some (.cells #[.int .i64 0, .slice none 0 0, .slice none 0 0, .int .i64 0] 25 (0, 0)))) (fun v10 _ => us.length - (intOf v10).toNat)
      case atStart => exact ⟨0, Nat.zero_le _, rfl, HN, K4, K6⟩
      case round =>
        clear HN K4 K6
        obtain ⟨j, hj, rfl, HN, K4, K6⟩ := hrel
        have b2 : wr.cell? ⟨g4, 2, none⟩ = some (.slice U us.length cU) := (blk_cell K4.out 2).trans rfl
        by_cases hjt : j < us.length
        · obtain ⟨ad, A3, c3, A4, c4, hae, hx, l1, g1, l2, g2⟩ := el151 SC.out.hU hjt
          rw [hae] at b2
          have HWU := SC.out.wf.us _ (List.getElem_mem hjt)
          have hnl := HWU.nl
          have HNA := Aside0.mk HWU.na
          have HCn := Aside0.mk g1
          have HCa := Aside0.mk g2
          obtain ⟨x0, x1, x2, x3, x4⟩ := hx wr HN.out.bl
          clear hx l1 g1 l2 g2 hae HWU
          generalize us[j] = u at *
          have HNu := Aside0.mk (HN.out.below (below_alloc (Below.refl _ _) (.cells #[.string u.f0.f0, .string u.f0.f1, .string u.f0.f2, .slice A3 u.f1.length c3, .slice A4 u.f2.length c4] 151)))
          have K4u := Aside0.mk (blk_alloc K4.out (.cells #[.string u.f0.f0, .string u.f0.f1, .string u.f0.f2, .slice A3 u.f1.length c3, .slice A4 u.f2.length c4] 151))
          have K6u := Aside0.mk (blk_alloc K6.out (.cells #[.string u.f0.f0, .string u.f0.f1, .string u.f0.f2, .slice A3 u.f1.length c3, .slice A4 u.f2.length c4] 151))
          have K11 := Aside0.mk (blk_new wr (.cells #[.string u.f0.f0, .string u.f0.f1, .string u.f0.f2, .slice A3 u.f1.length c3, .slice A4 u.f2.length c4] 151))
          have HN116 : Aside0 (wr.heap.size ≠ g6) := ⟨by have := blk_lt K6.out; omega⟩
          go_wp2_with fail
          obtain ⟨wu, hwu⟩ : ∃ wu : World, wu = wr.alloc (.cells #[.string u.f0.f0, .string u.f0.f1, .string u.f0.f2, .slice A3 u.f1.length c3, .slice A4 u.f2.length c4] 151) := ⟨_, rfl⟩
          rw [← hwu] at HNu K4u K6u K11 ⊢
          clear hwu b2 x0 x1 x2 x3 x4 HN K4 K6
          generalize wr.heap.size = g11 at *
          go_loopw [12] (fun v12 wr => ∃ l : Nat, l ≤ u.f1.length ∧ v12 = .int .i64 l ∧ Aside0 (Nx h p vi vo dp w v E res wr v E res) ∧ Aside0 (wr.heap[g4]? = some (.cells #[.string key, .int .i64 (at_ : Int), .slice U us.length cU, .slice D ds.length cD, .bool out] 160 (0, 0))) ∧ Aside0 (wr.heap[g6]? = some (.cells #[.int .i64 0, .slice none 0 0, .slice none 0 0, .int .i64 0] 25 (0, 0))) ∧ Aside0 (wr.heap[g11]? = some (.cells #[.string u.f0.f0, .string u.f0.f1, .string u.f0.f2, .slice A3 u.f1.length c3, .slice A4 u.f2.length c4] 151 (0, 0)))) (fun v12 _ => u.f1.length - (intOf v12).toNat)
          case atStart => exact ⟨0, Nat.zero_le _, rfl, HNu, K4u, K6u, K11⟩
          case round =>
            clear HNu K4u K6u K11
            obtain ⟨l, hl, rfl, HN, K4, K6, K11⟩ := hrel
            have y1 : wr.cell? ⟨g11, 3, none⟩ = some (.slice A3 u.f1.length c3) := (blk_cell K11.out 3).trans rfl
            have y2 : wr.cell? ⟨g11, 4, none⟩ = some (.slice A4 u.f2.length c4) := (blk_cell K11.out 4).trans rfl
            by_cases hlt2 : l < u.f1.length
            · obtain ⟨ad2, hae2, hx2⟩ := str_at HCa.out (k := l) (by rw [← HNA.out]; exact hlt2)
              obtain ⟨ad3, hae3, hx3⟩ := str_at HCn.out hlt2
              rw [hae2] at y2
              rw [hae3] at y1
              have HX3 := Aside0.mk hx3
              have HAE3 := Aside0.mk hae3
              have x2 := hx2 wr HN.out.bl
              have x3 := hx3 wr HN.out.bl
              have i0 : (0 : Int) ≤ (l : Int) := by omega
              have i1 : (l : Int) < (u.f1.length : Int) := by omega
              have i2 : (l : Int) < (u.f2.length : Int) := by have := HNA.out; omega
              clear hx2 hx3 hae2 hae3
              generalize u.f2[l]'(by have := HNA.out; omega) = a at *
              generalize u.f1[l] = nm at *
              by_cases ha : a.toList = []
              · have v1 : (a.toList == ([] : List UInt8)) = true := by rw [ha]; rfl
                have v2 : a.toList.isEmpty = true := by rw [ha]; rfl
                have v3 : (a.toList != ([] : List UInt8)) = false := by rw [ha]; rfl
                clear ha
                by_cases hn : nm.toList = n.toList
                · have t2 : (nm.toList == n.toList) = true := beq_iff_eq.mpr hn
                  have t3 : (nm.toList != n.toList) = false := bne_eq_false_iff_eq.mpr hn
                  clear hn
                  have yu0 : wr.cell? ⟨g11, 0, none⟩ = some (.string u.f0.f0) := (blk_cell K11.out 0).trans rfl
                  have yu1 : wr.cell? ⟨g11, 1, none⟩ = some (.string u.f0.f1) := (blk_cell K11.out 1).trans rfl
                  have yu2 : wr.cell? ⟨g11, 2, none⟩ = some (.string u.f0.f2) := (blk_cell K11.out 2).trans rfl
                  have b0 : wr.cell? ⟨g4, 0, none⟩ = some (.string key) := (blk_cell K4.out 0).trans rfl
                  have b1 : wr.cell? ⟨g4, 1, none⟩ = some (.int .i64 (at_ : Int)) := (blk_cell K4.out 1).trans rfl
                  have b4 : wr.cell? ⟨g4, 4, none⟩ = some (.bool out) := (blk_cell K4.out 4).trans rfl
                  cases out with
                  | true =>
                    go_wp2_with fail
                    clear t2 t3 v1 v2 v3 y1 y2 x2 x3 i0 i1 i2
                    refine (scope_any OK.out HN.out.m1 u.f0 at_ SC.out.pk _).mono ?_
                    rintro e w2 ⟨E2, hn, hcase⟩
                    have HN2 := Aside0.mk (HN.out.trans hn)
                    have K6c := Aside0.mk (hn.blk K6.out (by decide) (by decide))
                    have K11c := Aside0.mk (hn.blk K11.out (by decide) (by decide))
                    clear hn HN K4 K6 K11 yu0 yu1 yu2 b0 b1 b4
                    rcases hcase with ⟨rfl, hE⟩ | ⟨key2, at2, x, U2, cU2, D2, cD2, F2, cF2, b2, rfl, sc2, hF, hI⟩
                    · have HNn := Aside0.mk (HN2.out.below (below_alloc (below_alloc (Below.refl _ _) (.cells #[.string ⟨#[]⟩, .int .i64 0, .slice none 0 0, .slice none 0 0, .bool false] 160)) (.cells #[.string ⟨#[]⟩, .slice none 0 0, .slice none 0 0, .slice none 0 0] 142)))
                      have K6n := Aside0.mk (blk_alloc (blk_alloc K6c.out (.cells #[.string ⟨#[]⟩, .int .i64 0, .slice none 0 0, .slice none 0 0, .bool false] 160)) (.cells #[.string ⟨#[]⟩, .slice none 0 0, .slice none 0 0, .slice none 0 0] 142))
                      have HE := Aside0.mk hE
                      clear hE HN2 K6c K11c
                      have s0 : ((w2.alloc (.cells #[.string ⟨#[]⟩, .int .i64 0, .slice none 0 0, .slice none 0 0, .bool false] 160)).alloc (.cells #[.string ⟨#[]⟩, .slice none 0 0, .slice none 0 0, .slice none 0 0] 142)).cell? ⟨g6, 0, none⟩ = some (.int .i64 0) := (blk_cell K6n.out 0).trans rfl
                      have s1 : ((w2.alloc (.cells #[.string ⟨#[]⟩, .int .i64 0, .slice none 0 0, .slice none 0 0, .bool false] 160)).alloc (.cells #[.string ⟨#[]⟩, .slice none 0 0, .slice none 0 0, .slice none 0 0] 142)).cell? ⟨g6, 1, none⟩ = some (.slice none 0 0) := (blk_cell K6n.out 1).trans rfl
                      have s2 : ((w2.alloc (.cells #[.string ⟨#[]⟩, .int .i64 0, .slice none 0 0, .slice none 0 0, .bool false] 160)).alloc (.cells #[.string ⟨#[]⟩, .slice none 0 0, .slice none 0 0, .slice none 0 0] 142)).cell? ⟨g6, 2, none⟩ = some (.slice none 0 0) := (blk_cell K6n.out 2).trans rfl
                      have s3 : ((w2.alloc (.cells #[.string ⟨#[]⟩, .int .i64 0, .slice none 0 0, .slice none 0 0, .bool false] 160)).alloc (.cells #[.string ⟨#[]⟩, .slice none 0 0, .slice none 0 0, .slice none 0 0] 142)).cell? ⟨g6, 3, none⟩ = some (.int .i64 0) := (blk_cell K6n.out 3).trans rfl
                      have sf0 : ((w2.alloc (.cells #[.string ⟨#[]⟩, .int .i64 0, .slice none 0 0, .slice none 0 0, .bool false] 160)).alloc (.cells #[.string ⟨#[]⟩, .slice none 0 0, .slice none 0 0, .slice none 0 0] 142)).frozen? ⟨g6, 0, none⟩ = false := blk_frozen K6n.out 0
                      have sf1 : ((w2.alloc (.cells #[.string ⟨#[]⟩, .int .i64 0, .slice none 0 0, .slice none 0 0, .bool false] 160)).alloc (.cells #[.string ⟨#[]⟩, .slice none 0 0, .slice none 0 0, .slice none 0 0] 142)).frozen? ⟨g6, 1, none⟩ = false := blk_frozen K6n.out 1
                      have sf2 : ((w2.alloc (.cells #[.string ⟨#[]⟩, .int .i64 0, .slice none 0 0, .slice none 0 0, .bool false] 160)).alloc (.cells #[.string ⟨#[]⟩, .slice none 0 0, .slice none 0 0, .slice none 0 0] 142)).frozen? ⟨g6, 2, none⟩ = false := blk_frozen K6n.out 2
                      have sf3 : ((w2.alloc (.cells #[.string ⟨#[]⟩, .int .i64 0, .slice none 0 0, .slice none 0 0, .bool false] 160)).alloc (.cells #[.string ⟨#[]⟩, .slice none 0 0, .slice none 0 0, .slice none 0 0] 142)).frozen? ⟨g6, 3, none⟩ = false := blk_frozen K6n.out 3
                      have HP6 := Aside0.mk (HNn.out.put4 K6n.out (by decide) (by decide) (by have h1 := HG4.out; omega) (.int .i64 0) (.slice none 0 0) (.slice none 0 0) (.int .i64 0))
                      go_wp2_with fail
                      clear s0 s1 s2 s3 sf0 sf1 sf2 sf3
                      have HTZ : Aside0 (TV p ((((((w2.alloc (.cells #[.string ⟨#[]⟩, .int .i64 0, .slice none 0 0, .slice none 0 0, .bool false] 160)).alloc (.cells #[.string ⟨#[]⟩, .slice none 0 0, .slice none 0 0, .slice none 0 0] 142)).setCell ⟨g6, 0, none⟩ (.int .i64 0)).setCell ⟨g6, 1, none⟩ (.slice none 0 0)).setCell ⟨g6, 2, none⟩ (.slice none 0 0)).setCell ⟨g6, 3, none⟩ (.int .i64 0)) w.heap.size v PSubFits.z25 (.slice none 0 0) (.slice none 0 0)) := ⟨TV.zero _ _ _ _⟩
                      obtain ⟨wf, hwf⟩ : ∃ wf : World, wf = ((((((w2.alloc (.cells #[.string ⟨#[]⟩, .int .i64 0, .slice none 0 0, .slice none 0 0, .bool false] 160)).alloc (.cells #[.string ⟨#[]⟩, .slice none 0 0, .slice none 0 0, .slice none 0 0] 142)).setCell ⟨g6, 0, none⟩ (.int .i64 0)).setCell ⟨g6, 1, none⟩ (.slice none 0 0)).setCell ⟨g6, 2, none⟩ (.slice none 0 0)).setCell ⟨g6, 3, none⟩ (.int .i64 0)) := ⟨_, rfl⟩
                      rw [← hwf] at HP6 HTZ ⊢
                      clear hwf
                      have s0 : wf.cell? ⟨g6, 0, none⟩ = some (.int .i64 0) := (blk_cell HP6.out.2.1 0).trans rfl
                      have s1 : wf.cell? ⟨g6, 1, none⟩ = some (.slice none 0 0) := (blk_cell HP6.out.2.1 1).trans rfl
                      have s2 : wf.cell? ⟨g6, 2, none⟩ = some (.slice none 0 0) := (blk_cell HP6.out.2.1 2).trans rfl
                      have s3 : wf.cell? ⟨g6, 3, none⟩ = some (.int .i64 0) := (blk_cell HP6.out.2.1 3).trans rfl
                      exact bodyPost_ret (v := .tuple #[.agg #[.int .i64 0, .slice none 0 0, .slice none 0 0, .int .i64 0], .int .i64 (-1)]) (by simp [results, Try.results112, go_sem, *]) rfl ⟨v, E2, res, PSubFits.z25, _, _, _, _, _, rfl, HP6.out.1, HTZ.out, fun e => absurd e HE.out⟩
                    · have SC2 := Aside0.mk sc2
                      have HNd2 : Aside0 (Nx h p vi vo dp w v E res ((w2.alloc (.cells #[.string key2, .int .i64 (at2 : Int), .slice U2 x.f1.length cU2, .slice D2 x.f2.length cD2, .bool b2] 160)).alloc (.cells #[.string x.f0, .slice U2 x.f1.length cU2, .slice D2 x.f2.length cD2, .slice F2 x.f3.length cF2] 142)).drew v E2 res) := ⟨(HN2.out.below (below_alloc (below_alloc (Below.refl _ _) (.cells #[.string key2, .int .i64 (at2 : Int), .slice U2 x.f1.length cU2, .slice D2 x.f2.length cD2, .bool b2] 160)) (.cells #[.string x.f0, .slice U2 x.f1.length cU2, .slice D2 x.f2.length cD2, .slice F2 x.f3.length cF2] 142))).drewN 1⟩
                      have K14e : Aside0 (((w2.alloc (.cells #[.string key2, .int .i64 (at2 : Int), .slice U2 x.f1.length cU2, .slice D2 x.f2.length cD2, .bool b2] 160)).alloc (.cells #[.string x.f0, .slice U2 x.f1.length cU2, .slice D2 x.f2.length cD2, .slice F2 x.f3.length cF2] 142)).drew.heap[w2.heap.size]? = some (.cells #[.string key2, .int .i64 (at2 : Int), .slice U2 x.f1.length cU2, .slice D2 x.f2.length cD2, .bool b2] 160 (0, 0))) := ⟨blk_alloc (blk_new w2 (.cells #[.string key2, .int .i64 (at2 : Int), .slice U2 x.f1.length cU2, .slice D2 x.f2.length cD2, .bool b2] 160)) (.cells #[.string x.f0, .slice U2 x.f1.length cU2, .slice D2 x.f2.length cD2, .slice F2 x.f3.length cF2] 142)⟩
                      have K6e : Aside0 (((w2.alloc (.cells #[.string key2, .int .i64 (at2 : Int), .slice U2 x.f1.length cU2, .slice D2 x.f2.length cD2, .bool b2] 160)).alloc (.cells #[.string x.f0, .slice U2 x.f1.length cU2, .slice D2 x.f2.length cD2, .slice F2 x.f3.length cF2] 142)).drew.heap[g6]? = some (.cells #[.int .i64 0, .slice none 0 0, .slice none 0 0, .int .i64 0] 25 (0, 0))) := ⟨blk_alloc (blk_alloc K6c.out (.cells #[.string key2, .int .i64 (at2 : Int), .slice U2 x.f1.length cU2, .slice D2 x.f2.length cD2, .bool b2] 160)) (.cells #[.string x.f0, .slice U2 x.f1.length cU2, .slice D2 x.f2.length cD2, .slice F2 x.f3.length cF2] 142)⟩
                      have K11e : Aside0 (((w2.alloc (.cells #[.string key2, .int .i64 (at2 : Int), .slice U2 x.f1.length cU2, .slice D2 x.f2.length cD2, .bool b2] 160)).alloc (.cells #[.string x.f0, .slice U2 x.f1.length cU2, .slice D2 x.f2.length cD2, .slice F2 x.f3.length cF2] 142)).drew.heap[g11]? = some (.cells #[.string u.f0.f0, .string u.f0.f1, .string u.f0.f2, .slice (some ad3) u.f1.length c3, .slice A4 u.f2.length c4] 151 (0, 0))) := ⟨by have := blk_alloc (blk_alloc K11c.out (.cells #[.string key2, .int .i64 (at2 : Int), .slice U2 x.f1.length cU2, .slice D2 x.f2.length cD2, .bool b2] 160)) (.cells #[.string x.f0, .slice U2 x.f1.length cU2, .slice D2 x.f2.length cD2, .slice F2 x.f3.length cF2] 142); rw [HAE3.out] at this; exact this⟩
                      have HSD : Aside0 (g6 < w2.heap.size ∧ w2.heap.size ≤ ((w2.alloc (.cells #[.string key2, .int .i64 (at2 : Int), .slice U2 x.f1.length cU2, .slice D2 x.f2.length cD2, .bool b2] 160)).alloc (.cells #[.string x.f0, .slice U2 x.f1.length cU2, .slice D2 x.f2.length cD2, .slice F2 x.f3.length cF2] 142)).drew.heap.size) := ⟨blk_lt K6c.out, by show _ ≤ ((w2.alloc (.cells #[.string key2, .int .i64 (at2 : Int), .slice U2 x.f1.length cU2, .slice D2 x.f2.length cD2, .bool b2] 160)).alloc (.cells #[.string x.f0, .slice U2 x.f1.length cU2, .slice D2 x.f2.length cD2, .slice F2 x.f3.length cF2] 142)).heap.size; simp only [World.size_alloc]; omega⟩
                      have n146 : w2.heap.size ≠ g6 := by have := HSD.out; omega
                      have n116 : g11 ≠ g6 := HN116.out
                      clear sc2 hF hI HN2 K6c K11c
                      simp only [scV, ifV]
                      go_wp2_with fail
                      obtain ⟨wd, hwd⟩ : ∃ wd : World, wd = ((w2.alloc (.cells #[.string key2, .int .i64 (at2 : Int), .slice U2 x.f1.length cU2, .slice D2 x.f2.length cD2, .bool b2] 160)).alloc (.cells #[.string x.f0, .slice U2 x.f1.length cU2, .slice D2 x.f2.length cD2, .slice F2 x.f3.length cF2] 142)) := ⟨_, rfl⟩
                      rw [← hwd] at HNd2 K14e K6e K11e HSD ⊢
                      clear hwd
                      generalize w2.heap.size = g14 at *
                      have HSS : Aside0 (∀ w' : World, w'.heap[g14]? = some (.cells #[.string key2, .int .i64 (at2 : Int), .slice U2 x.f1.length cU2, .slice D2 x.f2.length cD2, .bool b2] 160 (0, 0)) → w'.heap[g11]? = some (.cells #[.string u.f0.f0, .string u.f0.f1, .string u.f0.f2, .slice (some ad3) u.f1.length c3, .slice A4 u.f2.length c4] 151 (0, 0)) → Below h.W0.heap.size h.W0 w' → w'.cell? ⟨g14, 0, none⟩ = some (.string key2) ∧ w'.cell? ⟨g14, 1, none⟩ = some (.int .i64 (at2 : Int)) ∧ w'.cell? ⟨g14, 2, none⟩ = some (.slice U2 x.f1.length cU2) ∧ w'.cell? ⟨g14, 3, none⟩ = some (.slice D2 x.f2.length cD2) ∧ w'.cell? ⟨g14, 4, none⟩ = some (.bool b2) ∧ w'.cell? ⟨g11, 3, none⟩ = some (.slice (some ad3) u.f1.length c3) ∧ w'.cell? (ad3.add l) = some (.string nm)) :=
                        ⟨fun w' h1 h2 h3 => ⟨(blk_cell h1 0).trans rfl, (blk_cell h1 1).trans rfl, (blk_cell h1 2).trans rfl, (blk_cell h1 3).trans rfl, (blk_cell h1 4).trans rfl, (blk_cell h2 3).trans rfl, HX3.out w' h3⟩⟩
                      go_region_held3 (fun w' => w'.cell? ⟨g14, 0, none⟩ = some (.string key2) ∧ w'.cell? ⟨g14, 1, none⟩ = some (.int .i64 (at2 : Int)) ∧ w'.cell? ⟨g14, 2, none⟩ = some (.slice U2 x.f1.length cU2) ∧ w'.cell? ⟨g14, 3, none⟩ = some (.slice D2 x.f2.length cD2) ∧ w'.cell? ⟨g14, 4, none⟩ = some (.bool b2) ∧ w'.cell? ⟨g11, 3, none⟩ = some (.slice (some ad3) u.f1.length c3) ∧ w'.cell? (ad3.add l) = some (.string nm))
                        (first
                          | with_reducible exact HSS.out _ K14e.out K11e.out HNd2.out.bl
                          | with_reducible exact HSS.out _ K14c.out K11c.out HN3.out.bl
                          | with_reducible exact HSS.out _ ((HP6.out.2.2 g14 n146).trans K14c.out) ((HP6.out.2.2 g11 n116).trans K11c.out) HP6.out.1.bl)
                        ((go_at_call 111; refine (HNC.out p _ v vi vo E2 res ?hm key2 at2 x.f1 U2 cU2 x.f2 D2 cD2 b2 SC2.out nm).mono ?_; (case hm => with_reducible exact HNd2.out.m1); rintro e w3 ⟨v3, E3, res3, y, B1, d1, B2, d2, i, rfl, hn, htv, hgd⟩; have HN3 := Aside0.mk (Nx.trans HNd2.out hn); have K14c := Aside0.mk (hn.blk K14e.out (by decide) (by decide)); have K11c := Aside0.mk (hn.blk K11e.out (by decide) (by decide)); have K6c := Aside0.mk (hn.blk K6e.out (by decide) (by decide)); have HP6 := Aside0.mk (HN3.out.put4 K6c.out (by decide) (by decide) (by have h1 := HG4.out; omega) (.int .i64 y.f0) (.slice B1 y.f1.length d1) (.slice B2 y.f2.length d2) (.int .i64 y.f3)); have s0 : w3.cell? ⟨g6, 0, none⟩ = some (.int .i64 0) := (blk_cell K6c.out 0).trans rfl; have s1 : w3.cell? ⟨g6, 1, none⟩ = some (.slice none 0 0) := (blk_cell K6c.out 1).trans rfl; have s2 : w3.cell? ⟨g6, 2, none⟩ = some (.slice none 0 0) := (blk_cell K6c.out 2).trans rfl; have s3 : w3.cell? ⟨g6, 3, none⟩ = some (.int .i64 0) := (blk_cell K6c.out 3).trans rfl; have sf0 : w3.frozen? ⟨g6, 0, none⟩ = false := blk_frozen K6c.out 0; have sf1 : w3.frozen? ⟨g6, 1, none⟩ = false := blk_frozen K6c.out 1; have sf2 : w3.frozen? ⟨g6, 2, none⟩ = false := blk_frozen K6c.out 2; have sf3 : w3.frozen? ⟨g6, 3, none⟩ = false := blk_frozen K6c.out 3; have HTV := Aside0.mk htv; have HGD := Aside0.mk hgd; clear hn htv hgd))
                      clear s0 s1 s2 s3 sf0 sf1 sf2 sf3
                      go_wp2_with fail
                      have HTZ : Aside0 (TV p ((((w3.setCell ⟨g6, 0, none⟩ (.int .i64 y.f0)).setCell ⟨g6, 1, none⟩ (.slice B1 y.f1.length d1)).setCell ⟨g6, 2, none⟩ (.slice B2 y.f2.length d2)).setCell ⟨g6, 3, none⟩ (.int .i64 y.f3)) w.heap.size v3 y (.slice B1 y.f1.length d1) (.slice B2 y.f2.length d2)) := ⟨TV.lower (base := wd.drew.heap.size) (by (repeat refine TV.set ?_ (by have := HSD.out; omega) _ _); exact HTV.out) (by have := HSD.out; have h1 := HG4.out; omega)⟩
                      obtain ⟨wf, hwf⟩ : ∃ wf : World, wf = ((((w3.setCell ⟨g6, 0, none⟩ (.int .i64 y.f0)).setCell ⟨g6, 1, none⟩ (.slice B1 y.f1.length d1)).setCell ⟨g6, 2, none⟩ (.slice B2 y.f2.length d2)).setCell ⟨g6, 3, none⟩ (.int .i64 y.f3)) := ⟨_, rfl⟩
                      rw [← hwf] at HP6 HTZ ⊢
                      clear hwf
                      have s0 : wf.cell? ⟨g6, 0, none⟩ = some (.int .i64 y.f0) := (blk_cell HP6.out.2.1 0).trans rfl
                      have s1 : wf.cell? ⟨g6, 1, none⟩ = some (.slice B1 y.f1.length d1) := (blk_cell HP6.out.2.1 1).trans rfl
                      have s2 : wf.cell? ⟨g6, 2, none⟩ = some (.slice B2 y.f2.length d2) := (blk_cell HP6.out.2.1 2).trans rfl
                      have s3 : wf.cell? ⟨g6, 3, none⟩ = some (.int .i64 y.f3) := (blk_cell HP6.out.2.1 3).trans rfl
                      exact bodyPost_ret (v := .tuple #[.agg #[.int .i64 y.f0, .slice B1 y.f1.length d1, .slice B2 y.f2.length d2, .int .i64 y.f3], .int .i64 i]) (by simp [results, Try.results112, go_sem, *]) rfl ⟨v3, E3, res3, y, _, _, _, _, _, rfl, HP6.out.1, HTZ.out, HGD.out⟩
                  | false =>
                    by_cases hke : key.toList = []
                    · have k1 : (key.toList == ([] : List UInt8)) = true := by rw [hke]; rfl
                      have k2 : key.toList.isEmpty = true := by rw [hke]; rfl
                      have k3 : (key.toList != ([] : List UInt8)) = false := by rw [hke]; rfl
                      clear hke
                      go_wp2_with fail
                      clear t2 t3 v1 v2 v3 y1 y2 x2 x3 i0 i1 i2 k1 k2 k3
                      refine (scope_any OK.out HN.out.m1 u.f0 at_ SC.out.pk _).mono ?_
                      rintro e w2 ⟨E2, hn, hcase⟩
                      have HN2 := Aside0.mk (HN.out.trans hn)
                      have K6c := Aside0.mk (hn.blk K6.out (by decide) (by decide))
                      have K11c := Aside0.mk (hn.blk K11.out (by decide) (by decide))
                      clear hn HN K4 K6 K11 yu0 yu1 yu2 b0 b1 b4
                      rcases hcase with ⟨rfl, hE⟩ | ⟨key2, at2, x, U2, cU2, D2, cD2, F2, cF2, b2, rfl, sc2, hF, hI⟩
                      · have HNn := Aside0.mk (HN2.out.below (below_alloc (below_alloc (Below.refl _ _) (.cells #[.string ⟨#[]⟩, .int .i64 0, .slice none 0 0, .slice none 0 0, .bool false] 160)) (.cells #[.string ⟨#[]⟩, .slice none 0 0, .slice none 0 0, .slice none 0 0] 142)))
                        have K6n := Aside0.mk (blk_alloc (blk_alloc K6c.out (.cells #[.string ⟨#[]⟩, .int .i64 0, .slice none 0 0, .slice none 0 0, .bool false] 160)) (.cells #[.string ⟨#[]⟩, .slice none 0 0, .slice none 0 0, .slice none 0 0] 142))
                        have HE := Aside0.mk hE
                        clear hE HN2 K6c K11c
                        have s0 : ((w2.alloc (.cells #[.string ⟨#[]⟩, .int .i64 0, .slice none 0 0, .slice none 0 0, .bool false] 160)).alloc (.cells #[.string ⟨#[]⟩, .slice none 0 0, .slice none 0 0, .slice none 0 0] 142)).cell? ⟨g6, 0, none⟩ = some (.int .i64 0) := (blk_cell K6n.out 0).trans rfl
                        have s1 : ((w2.alloc (.cells #[.string ⟨#[]⟩, .int .i64 0, .slice none 0 0, .slice none 0 0, .bool false] 160)).alloc (.cells #[.string ⟨#[]⟩, .slice none 0 0, .slice none 0 0, .slice none 0 0] 142)).cell? ⟨g6, 1, none⟩ = some (.slice none 0 0) := (blk_cell K6n.out 1).trans rfl
                        have s2 : ((w2.alloc (.cells #[.string ⟨#[]⟩, .int .i64 0, .slice none 0 0, .slice none 0 0, .bool false] 160)).alloc (.cells #[.string ⟨#[]⟩, .slice none 0 0, .slice none 0 0, .slice none 0 0] 142)).cell? ⟨g6, 2, none⟩ = some (.slice none 0 0) := (blk_cell K6n.out 2).trans rfl
                        have s3 : ((w2.alloc (.cells #[.string ⟨#[]⟩, .int .i64 0, .slice none 0 0, .slice none 0 0, .bool false] 160)).alloc (.cells #[.string ⟨#[]⟩, .slice none 0 0, .slice none 0 0, .slice none 0 0] 142)).cell? ⟨g6, 3, none⟩ = some (.int .i64 0) := (blk_cell K6n.out 3).trans rfl
                        have sf0 : ((w2.alloc (.cells #[.string ⟨#[]⟩, .int .i64 0, .slice none 0 0, .slice none 0 0, .bool false] 160)).alloc (.cells #[.string ⟨#[]⟩, .slice none 0 0, .slice none 0 0, .slice none 0 0] 142)).frozen? ⟨g6, 0, none⟩ = false := blk_frozen K6n.out 0
                        have sf1 : ((w2.alloc (.cells #[.string ⟨#[]⟩, .int .i64 0, .slice none 0 0, .slice none 0 0, .bool false] 160)).alloc (.cells #[.string ⟨#[]⟩, .slice none 0 0, .slice none 0 0, .slice none 0 0] 142)).frozen? ⟨g6, 1, none⟩ = false := blk_frozen K6n.out 1
                        have sf2 : ((w2.alloc (.cells #[.string ⟨#[]⟩, .int .i64 0, .slice none 0 0, .slice none 0 0, .bool false] 160)).alloc (.cells #[.string ⟨#[]⟩, .slice none 0 0, .slice none 0 0, .slice none 0 0] 142)).frozen? ⟨g6, 2, none⟩ = false := blk_frozen K6n.out 2
                        have sf3 : ((w2.alloc (.cells #[.string ⟨#[]⟩, .int .i64 0, .slice none 0 0, .slice none 0 0, .bool false] 160)).alloc (.cells #[.string ⟨#[]⟩, .slice none 0 0, .slice none 0 0, .slice none 0 0] 142)).frozen? ⟨g6, 3, none⟩ = false := blk_frozen K6n.out 3
                        have HP6 := Aside0.mk (HNn.out.put4 K6n.out (by decide) (by decide) (by have h1 := HG4.out; omega) (.int .i64 0) (.slice none 0 0) (.slice none 0 0) (.int .i64 0))
                        go_wp2_with fail
                        clear s0 s1 s2 s3 sf0 sf1 sf2 sf3
                        have HTZ : Aside0 (TV p ((((((w2.alloc (.cells #[.string ⟨#[]⟩, .int .i64 0, .slice none 0 0, .slice none 0 0, .bool false] 160)).alloc (.cells #[.string ⟨#[]⟩, .slice none 0 0, .slice none 0 0, .slice none 0 0] 142)).setCell ⟨g6, 0, none⟩ (.int .i64 0)).setCell ⟨g6, 1, none⟩ (.slice none 0 0)).setCell ⟨g6, 2, none⟩ (.slice none 0 0)).setCell ⟨g6, 3, none⟩ (.int .i64 0)) w.heap.size v PSubFits.z25 (.slice none 0 0) (.slice none 0 0)) := ⟨TV.zero _ _ _ _⟩
                        obtain ⟨wf, hwf⟩ : ∃ wf : World, wf = ((((((w2.alloc (.cells #[.string ⟨#[]⟩, .int .i64 0, .slice none 0 0, .slice none 0 0, .bool false] 160)).alloc (.cells #[.string ⟨#[]⟩, .slice none 0 0, .slice none 0 0, .slice none 0 0] 142)).setCell ⟨g6, 0, none⟩ (.int .i64 0)).setCell ⟨g6, 1, none⟩ (.slice none 0 0)).setCell ⟨g6, 2, none⟩ (.slice none 0 0)).setCell ⟨g6, 3, none⟩ (.int .i64 0)) := ⟨_, rfl⟩
                        rw [← hwf] at HP6 HTZ ⊢
                        clear hwf
                        have s0 : wf.cell? ⟨g6, 0, none⟩ = some (.int .i64 0) := (blk_cell HP6.out.2.1 0).trans rfl
                        have s1 : wf.cell? ⟨g6, 1, none⟩ = some (.slice none 0 0) := (blk_cell HP6.out.2.1 1).trans rfl
                        have s2 : wf.cell? ⟨g6, 2, none⟩ = some (.slice none 0 0) := (blk_cell HP6.out.2.1 2).trans rfl
                        have s3 : wf.cell? ⟨g6, 3, none⟩ = some (.int .i64 0) := (blk_cell HP6.out.2.1 3).trans rfl
                        exact bodyPost_ret (v := .tuple #[.agg #[.int .i64 0, .slice none 0 0, .slice none 0 0, .int .i64 0], .int .i64 (-1)]) (by simp [results, Try.results112, go_sem, *]) rfl ⟨v, E2, res, PSubFits.z25, _, _, _, _, _, rfl, HP6.out.1, HTZ.out, fun e => absurd e HE.out⟩
                      · have SC2 := Aside0.mk sc2
                        have HNd2 : Aside0 (Nx h p vi vo dp w v E res ((w2.alloc (.cells #[.string key2, .int .i64 (at2 : Int), .slice U2 x.f1.length cU2, .slice D2 x.f2.length cD2, .bool b2] 160)).alloc (.cells #[.string x.f0, .slice U2 x.f1.length cU2, .slice D2 x.f2.length cD2, .slice F2 x.f3.length cF2] 142)).drew v E2 res) := ⟨(HN2.out.below (below_alloc (below_alloc (Below.refl _ _) (.cells #[.string key2, .int .i64 (at2 : Int), .slice U2 x.f1.length cU2, .slice D2 x.f2.length cD2, .bool b2] 160)) (.cells #[.string x.f0, .slice U2 x.f1.length cU2, .slice D2 x.f2.length cD2, .slice F2 x.f3.length cF2] 142))).drewN 1⟩
                        have K14e : Aside0 (((w2.alloc (.cells #[.string key2, .int .i64 (at2 : Int), .slice U2 x.f1.length cU2, .slice D2 x.f2.length cD2, .bool b2] 160)).alloc (.cells #[.string x.f0, .slice U2 x.f1.length cU2, .slice D2 x.f2.length cD2, .slice F2 x.f3.length cF2] 142)).drew.heap[w2.heap.size]? = some (.cells #[.string key2, .int .i64 (at2 : Int), .slice U2 x.f1.length cU2, .slice D2 x.f2.length cD2, .bool b2] 160 (0, 0))) := ⟨blk_alloc (blk_new w2 (.cells #[.string key2, .int .i64 (at2 : Int), .slice U2 x.f1.length cU2, .slice D2 x.f2.length cD2, .bool b2] 160)) (.cells #[.string x.f0, .slice U2 x.f1.length cU2, .slice D2 x.f2.length cD2, .slice F2 x.f3.length cF2] 142)⟩
                        have K6e : Aside0 (((w2.alloc (.cells #[.string key2, .int .i64 (at2 : Int), .slice U2 x.f1.length cU2, .slice D2 x.f2.length cD2, .bool b2] 160)).alloc (.cells #[.string x.f0, .slice U2 x.f1.length cU2, .slice D2 x.f2.length cD2, .slice F2 x.f3.length cF2] 142)).drew.heap[g6]? = some (.cells #[.int .i64 0, .slice none 0 0, .slice none 0 0, .int .i64 0] 25 (0, 0))) := ⟨blk_alloc (blk_alloc K6c.out (.cells #[.string key2, .int .i64 (at2 : Int), .slice U2 x.f1.length cU2, .slice D2 x.f2.length cD2, .bool b2] 160)) (.cells #[.string x.f0, .slice U2 x.f1.length cU2, .slice D2 x.f2.length cD2, .slice F2 x.f3.length cF2] 142)⟩
                        have K11e : Aside0 (((w2.alloc (.cells #[.string key2, .int .i64 (at2 : Int), .slice U2 x.f1.length cU2, .slice D2 x.f2.length cD2, .bool b2] 160)).alloc (.cells #[.string x.f0, .slice U2 x.f1.length cU2, .slice D2 x.f2.length cD2, .slice F2 x.f3.length cF2] 142)).drew.heap[g11]? = some (.cells #[.string u.f0.f0, .string u.f0.f1, .string u.f0.f2, .slice (some ad3) u.f1.length c3, .slice A4 u.f2.length c4] 151 (0, 0))) := ⟨by have := blk_alloc (blk_alloc K11c.out (.cells #[.string key2, .int .i64 (at2 : Int), .slice U2 x.f1.length cU2, .slice D2 x.f2.length cD2, .bool b2] 160)) (.cells #[.string x.f0, .slice U2 x.f1.length cU2, .slice D2 x.f2.length cD2, .slice F2 x.f3.length cF2] 142); rw [HAE3.out] at this; exact this⟩
                        have HSD : Aside0 (g6 < w2.heap.size ∧ w2.heap.size ≤ ((w2.alloc (.cells #[.string key2, .int .i64 (at2 : Int), .slice U2 x.f1.length cU2, .slice D2 x.f2.length cD2, .bool b2] 160)).alloc (.cells #[.string x.f0, .slice U2 x.f1.length cU2, .slice D2 x.f2.length cD2, .slice F2 x.f3.length cF2] 142)).drew.heap.size) := ⟨blk_lt K6c.out, by show _ ≤ ((w2.alloc (.cells #[.string key2, .int .i64 (at2 : Int), .slice U2 x.f1.length cU2, .slice D2 x.f2.length cD2, .bool b2] 160)).alloc (.cells #[.string x.f0, .slice U2 x.f1.length cU2, .slice D2 x.f2.length cD2, .slice F2 x.f3.length cF2] 142)).heap.size; simp only [World.size_alloc]; omega⟩
                        have n146 : w2.heap.size ≠ g6 := by have := HSD.out; omega
                        have n116 : g11 ≠ g6 := HN116.out
                        clear sc2 hF hI HN2 K6c K11c
                        simp only [scV, ifV]
                        go_wp2_with fail
                        obtain ⟨wd, hwd⟩ : ∃ wd : World, wd = ((w2.alloc (.cells #[.string key2, .int .i64 (at2 : Int), .slice U2 x.f1.length cU2, .slice D2 x.f2.length cD2, .bool b2] 160)).alloc (.cells #[.string x.f0, .slice U2 x.f1.length cU2, .slice D2 x.f2.length cD2, .slice F2 x.f3.length cF2] 142)) := ⟨_, rfl⟩
                        rw [← hwd] at HNd2 K14e K6e K11e HSD ⊢
                        clear hwd
                        generalize w2.heap.size = g14 at *
                        have HSS : Aside0 (∀ w' : World, w'.heap[g14]? = some (.cells #[.string key2, .int .i64 (at2 : Int), .slice U2 x.f1.length cU2, .slice D2 x.f2.length cD2, .bool b2] 160 (0, 0)) → w'.heap[g11]? = some (.cells #[.string u.f0.f0, .string u.f0.f1, .string u.f0.f2, .slice (some ad3) u.f1.length c3, .slice A4 u.f2.length c4] 151 (0, 0)) → Below h.W0.heap.size h.W0 w' → w'.cell? ⟨g14, 0, none⟩ = some (.string key2) ∧ w'.cell? ⟨g14, 1, none⟩ = some (.int .i64 (at2 : Int)) ∧ w'.cell? ⟨g14, 2, none⟩ = some (.slice U2 x.f1.length cU2) ∧ w'.cell? ⟨g14, 3, none⟩ = some (.slice D2 x.f2.length cD2) ∧ w'.cell? ⟨g14, 4, none⟩ = some (.bool b2) ∧ w'.cell? ⟨g11, 3, none⟩ = some (.slice (some ad3) u.f1.length c3) ∧ w'.cell? (ad3.add l) = some (.string nm)) :=
                          ⟨fun w' h1 h2 h3 => ⟨(blk_cell h1 0).trans rfl, (blk_cell h1 1).trans rfl, (blk_cell h1 2).trans rfl, (blk_cell h1 3).trans rfl, (blk_cell h1 4).trans rfl, (blk_cell h2 3).trans rfl, HX3.out w' h3⟩⟩
                        go_region_held3 (fun w' => w'.cell? ⟨g14, 0, none⟩ = some (.string key2) ∧ w'.cell? ⟨g14, 1, none⟩ = some (.int .i64 (at2 : Int)) ∧ w'.cell? ⟨g14, 2, none⟩ = some (.slice U2 x.f1.length cU2) ∧ w'.cell? ⟨g14, 3, none⟩ = some (.slice D2 x.f2.length cD2) ∧ w'.cell? ⟨g14, 4, none⟩ = some (.bool b2) ∧ w'.cell? ⟨g11, 3, none⟩ = some (.slice (some ad3) u.f1.length c3) ∧ w'.cell? (ad3.add l) = some (.string nm))
                          (first
                            | with_reducible exact HSS.out _ K14e.out K11e.out HNd2.out.bl
                            | with_reducible exact HSS.out _ K14c.out K11c.out HN3.out.bl
                            | with_reducible exact HSS.out _ ((HP6.out.2.2 g14 n146).trans K14c.out) ((HP6.out.2.2 g11 n116).trans K11c.out) HP6.out.1.bl)
                          ((go_at_call 111; refine (HNC.out p _ v vi vo E2 res ?hm key2 at2 x.f1 U2 cU2 x.f2 D2 cD2 b2 SC2.out nm).mono ?_; (case hm => with_reducible exact HNd2.out.m1); rintro e w3 ⟨v3, E3, res3, y, B1, d1, B2, d2, i, rfl, hn, htv, hgd⟩; have HN3 := Aside0.mk (Nx.trans HNd2.out hn); have K14c := Aside0.mk (hn.blk K14e.out (by decide) (by decide)); have K11c := Aside0.mk (hn.blk K11e.out (by decide) (by decide)); have K6c := Aside0.mk (hn.blk K6e.out (by decide) (by decide)); have HP6 := Aside0.mk (HN3.out.put4 K6c.out (by decide) (by decide) (by have h1 := HG4.out; omega) (.int .i64 y.f0) (.slice B1 y.f1.length d1) (.slice B2 y.f2.length d2) (.int .i64 y.f3)); have s0 : w3.cell? ⟨g6, 0, none⟩ = some (.int .i64 0) := (blk_cell K6c.out 0).trans rfl; have s1 : w3.cell? ⟨g6, 1, none⟩ = some (.slice none 0 0) := (blk_cell K6c.out 1).trans rfl; have s2 : w3.cell? ⟨g6, 2, none⟩ = some (.slice none 0 0) := (blk_cell K6c.out 2).trans rfl; have s3 : w3.cell? ⟨g6, 3, none⟩ = some (.int .i64 0) := (blk_cell K6c.out 3).trans rfl; have sf0 : w3.frozen? ⟨g6, 0, none⟩ = false := blk_frozen K6c.out 0; have sf1 : w3.frozen? ⟨g6, 1, none⟩ = false := blk_frozen K6c.out 1; have sf2 : w3.frozen? ⟨g6, 2, none⟩ = false := blk_frozen K6c.out 2; have sf3 : w3.frozen? ⟨g6, 3, none⟩ = false := blk_frozen K6c.out 3; have HTV := Aside0.mk htv; have HGD := Aside0.mk hgd; clear hn htv hgd))
                        clear s0 s1 s2 s3 sf0 sf1 sf2 sf3
                        go_wp2_with fail
                        have HTZ : Aside0 (TV p ((((w3.setCell ⟨g6, 0, none⟩ (.int .i64 y.f0)).setCell ⟨g6, 1, none⟩ (.slice B1 y.f1.length d1)).setCell ⟨g6, 2, none⟩ (.slice B2 y.f2.length d2)).setCell ⟨g6, 3, none⟩ (.int .i64 y.f3)) w.heap.size v3 y (.slice B1 y.f1.length d1) (.slice B2 y.f2.length d2)) := ⟨TV.lower (base := wd.drew.heap.size) (by (repeat refine TV.set ?_ (by have := HSD.out; omega) _ _); exact HTV.out) (by have := HSD.out; have h1 := HG4.out; omega)⟩
                        obtain ⟨wf, hwf⟩ : ∃ wf : World, wf = ((((w3.setCell ⟨g6, 0, none⟩ (.int .i64 y.f0)).setCell ⟨g6, 1, none⟩ (.slice B1 y.f1.length d1)).setCell ⟨g6, 2, none⟩ (.slice B2 y.f2.length d2)).setCell ⟨g6, 3, none⟩ (.int .i64 y.f3)) := ⟨_, rfl⟩
                        rw [← hwf] at HP6 HTZ ⊢
                        clear hwf
                        have s0 : wf.cell? ⟨g6, 0, none⟩ = some (.int .i64 y.f0) := (blk_cell HP6.out.2.1 0).trans rfl
                        have s1 : wf.cell? ⟨g6, 1, none⟩ = some (.slice B1 y.f1.length d1) := (blk_cell HP6.out.2.1 1).trans rfl
                        have s2 : wf.cell? ⟨g6, 2, none⟩ = some (.slice B2 y.f2.length d2) := (blk_cell HP6.out.2.1 2).trans rfl
                        have s3 : wf.cell? ⟨g6, 3, none⟩ = some (.int .i64 y.f3) := (blk_cell HP6.out.2.1 3).trans rfl
                        exact bodyPost_ret (v := .tuple #[.agg #[.int .i64 y.f0, .slice B1 y.f1.length d1, .slice B2 y.f2.length d2, .int .i64 y.f3], .int .i64 i]) (by simp [results, Try.results112, go_sem, *]) rfl ⟨v3, E3, res3, y, _, _, _, _, _, rfl, HP6.out.1, HTZ.out, HGD.out⟩
                    · have k1 : (key.toList == ([] : List UInt8)) = false := by rw [beq_eq_false_iff_ne]; exact hke
                      have k2 : key.toList.isEmpty = false := by rw [List.isEmpty_eq_false_iff]; exact hke
                      have k3 : (key.toList != ([] : List UInt8)) = true := by rw [bne_iff_ne]; exact hke
                      clear hke
                      go_wp2_with fail
                      clear t2 t3 v1 v2 v3 y1 y2 x2 x3 i0 i1 i2 k1 k2 k3
                      refine (scope_any OK.out HN.out.m1 u.f0 at_ SC.out.pk _).mono ?_
                      rintro e w2 ⟨E2, hn, hcase⟩
                      have HN2 := Aside0.mk (HN.out.trans hn)
                      have K6c := Aside0.mk (hn.blk K6.out (by decide) (by decide))
                      have K11c := Aside0.mk (hn.blk K11.out (by decide) (by decide))
                      clear hn HN K4 K6 K11 yu0 yu1 yu2 b0 b1 b4
                      rcases hcase with ⟨rfl, hE⟩ | ⟨key2, at2, x, U2, cU2, D2, cD2, F2, cF2, b2, rfl, sc2, hF, hI⟩
                      · have HNn := Aside0.mk (HN2.out.below (below_alloc (below_alloc (Below.refl _ _) (.cells #[.string ⟨#[]⟩, .int .i64 0, .slice none 0 0, .slice none 0 0, .bool false] 160)) (.cells #[.string ⟨#[]⟩, .slice none 0 0, .slice none 0 0, .slice none 0 0] 142)))
                        have K6n := Aside0.mk (blk_alloc (blk_alloc K6c.out (.cells #[.string ⟨#[]⟩, .int .i64 0, .slice none 0 0, .slice none 0 0, .bool false] 160)) (.cells #[.string ⟨#[]⟩, .slice none 0 0, .slice none 0 0, .slice none 0 0] 142))
                        have HE := Aside0.mk hE
                        clear hE HN2 K6c K11c
                        have s0 : ((w2.alloc (.cells #[.string ⟨#[]⟩, .int .i64 0, .slice none 0 0, .slice none 0 0, .bool false] 160)).alloc (.cells #[.string ⟨#[]⟩, .slice none 0 0, .slice none 0 0, .slice none 0 0] 142)).cell? ⟨g6, 0, none⟩ = some (.int .i64 0) := (blk_cell K6n.out 0).trans rfl
                        have s1 : ((w2.alloc (.cells #[.string ⟨#[]⟩, .int .i64 0, .slice none 0 0, .slice none 0 0, .bool false] 160)).alloc (.cells #[.string ⟨#[]⟩, .slice none 0 0, .slice none 0 0, .slice none 0 0] 142)).cell? ⟨g6, 1, none⟩ = some (.slice none 0 0) := (blk_cell K6n.out 1).trans rfl
                        have s2 : ((w2.alloc (.cells #[.string ⟨#[]⟩, .int .i64 0, .slice none 0 0, .slice none 0 0, .bool false] 160)).alloc (.cells #[.string ⟨#[]⟩, .slice none 0 0, .slice none 0 0, .slice none 0 0] 142)).cell? ⟨g6, 2, none⟩ = some (.slice none 0 0) := (blk_cell K6n.out 2).trans rfl
                        have s3 : ((w2.alloc (.cells #[.string ⟨#[]⟩, .int .i64 0, .slice none 0 0, .slice none 0 0, .bool false] 160)).alloc (.cells #[.string ⟨#[]⟩, .slice none 0 0, .slice none 0 0, .slice none 0 0] 142)).cell? ⟨g6, 3, none⟩ = some (.int .i64 0) := (blk_cell K6n.out 3).trans rfl
                        have sf0 : ((w2.alloc (.cells #[.string ⟨#[]⟩, .int .i64 0, .slice none 0 0, .slice none 0 0, .bool false] 160)).alloc (.cells #[.string ⟨#[]⟩, .slice none 0 0, .slice none 0 0, .slice none 0 0] 142)).frozen? ⟨g6, 0, none⟩ = false := blk_frozen K6n.out 0
                        have sf1 : ((w2.alloc (.cells #[.string ⟨#[]⟩, .int .i64 0, .slice none 0 0, .slice none 0 0, .bool false] 160)).alloc (.cells #[.string ⟨#[]⟩, .slice none 0 0, .slice none 0 0, .slice none 0 0] 142)).frozen? ⟨g6, 1, none⟩ = false := blk_frozen K6n.out 1
                        have sf2 : ((w2.alloc (.cells #[.string ⟨#[]⟩, .int .i64 0, .slice none 0 0, .slice none 0 0, .bool false] 160)).alloc (.cells #[.string ⟨#[]⟩, .slice none 0 0, .slice none 0 0, .slice none 0 0] 142)).frozen? ⟨g6, 2, none⟩ = false := blk_frozen K6n.out 2
                        have sf3 : ((w2.alloc (.cells #[.string ⟨#[]⟩, .int .i64 0, .slice none 0 0, .slice none 0 0, .bool false] 160)).alloc (.cells #[.string ⟨#[]⟩, .slice none 0 0, .slice none 0 0, .slice none 0 0] 142)).frozen? ⟨g6, 3, none⟩ = false := blk_frozen K6n.out 3
                        have HP6 := Aside0.mk (HNn.out.put4 K6n.out (by decide) (by decide) (by have h1 := HG4.out; omega) (.int .i64 0) (.slice none 0 0) (.slice none 0 0) (.int .i64 0))
                        go_wp2_with fail
                        clear s0 s1 s2 s3 sf0 sf1 sf2 sf3
                        have HTZ : Aside0 (TV p ((((((w2.alloc (.cells #[.string ⟨#[]⟩, .int .i64 0, .slice none 0 0, .slice none 0 0, .bool false] 160)).alloc (.cells #[.string ⟨#[]⟩, .slice none 0 0, .slice none 0 0, .slice none 0 0] 142)).setCell ⟨g6, 0, none⟩ (.int .i64 0)).setCell ⟨g6, 1, none⟩ (.slice none 0 0)).setCell ⟨g6, 2, none⟩ (.slice none 0 0)).setCell ⟨g6, 3, none⟩ (.int .i64 0)) w.heap.size v PSubFits.z25 (.slice none 0 0) (.slice none 0 0)) := ⟨TV.zero _ _ _ _⟩
                        obtain ⟨wf, hwf⟩ : ∃ wf : World, wf = ((((((w2.alloc (.cells #[.string ⟨#[]⟩, .int .i64 0, .slice none 0 0, .slice none 0 0, .bool false] 160)).alloc (.cells #[.string ⟨#[]⟩, .slice none 0 0, .slice none 0 0, .slice none 0 0] 142)).setCell ⟨g6, 0, none⟩ (.int .i64 0)).setCell ⟨g6, 1, none⟩ (.slice none 0 0)).setCell ⟨g6, 2, none⟩ (.slice none 0 0)).setCell ⟨g6, 3, none⟩ (.int .i64 0)) := ⟨_, rfl⟩
                        rw [← hwf] at HP6 HTZ ⊢
                        clear hwf
                        have s0 : wf.cell? ⟨g6, 0, none⟩ = some (.int .i64 0) := (blk_cell HP6.out.2.1 0).trans rfl
                        have s1 : wf.cell? ⟨g6, 1, none⟩ = some (.slice none 0 0) := (blk_cell HP6.out.2.1 1).trans rfl
                        have s2 : wf.cell? ⟨g6, 2, none⟩ = some (.slice none 0 0) := (blk_cell HP6.out.2.1 2).trans rfl
                        have s3 : wf.cell? ⟨g6, 3, none⟩ = some (.int .i64 0) := (blk_cell HP6.out.2.1 3).trans rfl
                        exact bodyPost_ret (v := .tuple #[.agg #[.int .i64 0, .slice none 0 0, .slice none 0 0, .int .i64 0], .int .i64 (-1)]) (by simp [results, Try.results112, go_sem, *]) rfl ⟨v, E2, res, PSubFits.z25, _, _, _, _, _, rfl, HP6.out.1, HTZ.out, fun e => absurd e HE.out⟩
                      · have SC2 := Aside0.mk sc2
                        have HNd2 : Aside0 (Nx h p vi vo dp w v E res ((w2.alloc (.cells #[.string key2, .int .i64 (at2 : Int), .slice U2 x.f1.length cU2, .slice D2 x.f2.length cD2, .bool b2] 160)).alloc (.cells #[.string x.f0, .slice U2 x.f1.length cU2, .slice D2 x.f2.length cD2, .slice F2 x.f3.length cF2] 142)).drew v E2 res) := ⟨(HN2.out.below (below_alloc (below_alloc (Below.refl _ _) (.cells #[.string key2, .int .i64 (at2 : Int), .slice U2 x.f1.length cU2, .slice D2 x.f2.length cD2, .bool b2] 160)) (.cells #[.string x.f0, .slice U2 x.f1.length cU2, .slice D2 x.f2.length cD2, .slice F2 x.f3.length cF2] 142))).drewN 1⟩
                        have K14e : Aside0 (((w2.alloc (.cells #[.string key2, .int .i64 (at2 : Int), .slice U2 x.f1.length cU2, .slice D2 x.f2.length cD2, .bool b2] 160)).alloc (.cells #[.string x.f0, .slice U2 x.f1.length cU2, .slice D2 x.f2.length cD2, .slice F2 x.f3.length cF2] 142)).drew.heap[w2.heap.size]? = some (.cells #[.string key2, .int .i64 (at2 : Int), .slice U2 x.f1.length cU2, .slice D2 x.f2.length cD2, .bool b2] 160 (0, 0))) := ⟨blk_alloc (blk_new w2 (.cells #[.string key2, .int .i64 (at2 : Int), .slice U2 x.f1.length cU2, .slice D2 x.f2.length cD2, .bool b2] 160)) (.cells #[.string x.f0, .slice U2 x.f1.length cU2, .slice D2 x.f2.length cD2, .slice F2 x.f3.length cF2] 142)⟩
                        have K6e : Aside0 (((w2.alloc (.cells #[.string key2, .int .i64 (at2 : Int), .slice U2 x.f1.length cU2, .slice D2 x.f2.length cD2, .bool b2] 160)).alloc (.cells #[.string x.f0, .slice U2 x.f1.length cU2, .slice D2 x.f2.length cD2, .slice F2 x.f3.length cF2] 142)).drew.heap[g6]? = some (.cells #[.int .i64 0, .slice none 0 0, .slice none 0 0, .int .i64 0] 25 (0, 0))) := ⟨blk_alloc (blk_alloc K6c.out (.cells #[.string key2, .int .i64 (at2 : Int), .slice U2 x.f1.length cU2, .slice D2 x.f2.length cD2, .bool b2] 160)) (.cells #[.string x.f0, .slice U2 x.f1.length cU2, .slice D2 x.f2.length cD2, .slice F2 x.f3.length cF2] 142)⟩
                        have K11e : Aside0 (((w2.alloc (.cells #[.string key2, .int .i64 (at2 : Int), .slice U2 x.f1.length cU2, .slice D2 x.f2.length cD2, .bool b2] 160)).alloc (.cells #[.string x.f0, .slice U2 x.f1.length cU2, .slice D2 x.f2.length cD2, .slice F2 x.f3.length cF2] 142)).drew.heap[g11]? = some (.cells #[.string u.f0.f0, .string u.f0.f1, .string u.f0.f2, .slice (some ad3) u.f1.length c3, .slice A4 u.f2.length c4] 151 (0, 0))) := ⟨by have := blk_alloc (blk_alloc K11c.out (.cells #[.string key2, .int .i64 (at2 : Int), .slice U2 x.f1.length cU2, .slice D2 x.f2.length cD2, .bool b2] 160)) (.cells #[.string x.f0, .slice U2 x.f1.length cU2, .slice D2 x.f2.length cD2, .slice F2 x.f3.length cF2] 142); rw [HAE3.out] at this; exact this⟩
                        have HSD : Aside0 (g6 < w2.heap.size ∧ w2.heap.size ≤ ((w2.alloc (.cells #[.string key2, .int .i64 (at2 : Int), .slice U2 x.f1.length cU2, .slice D2 x.f2.length cD2, .bool b2] 160)).alloc (.cells #[.string x.f0, .slice U2 x.f1.length cU2, .slice D2 x.f2.length cD2, .slice F2 x.f3.length cF2] 142)).drew.heap.size) := ⟨blk_lt K6c.out, by show _ ≤ ((w2.alloc (.cells #[.string key2, .int .i64 (at2 : Int), .slice U2 x.f1.length cU2, .slice D2 x.f2.length cD2, .bool b2] 160)).alloc (.cells #[.string x.f0, .slice U2 x.f1.length cU2, .slice D2 x.f2.length cD2, .slice F2 x.f3.length cF2] 142)).heap.size; simp only [World.size_alloc]; omega⟩
                        have n146 : w2.heap.size ≠ g6 := by have := HSD.out; omega
                        have n116 : g11 ≠ g6 := HN116.out
                        clear sc2 hF hI HN2 K6c K11c
                        simp only [scV, ifV]
                        go_wp2_with fail
                        obtain ⟨wd, hwd⟩ : ∃ wd : World, wd = ((w2.alloc (.cells #[.string key2, .int .i64 (at2 : Int), .slice U2 x.f1.length cU2, .slice D2 x.f2.length cD2, .bool b2] 160)).alloc (.cells #[.string x.f0, .slice U2 x.f1.length cU2, .slice D2 x.f2.length cD2, .slice F2 x.f3.length cF2] 142)) := ⟨_, rfl⟩
                        rw [← hwd] at HNd2 K14e K6e K11e HSD ⊢
                        clear hwd
                        generalize w2.heap.size = g14 at *
                        have HSS : Aside0 (∀ w' : World, w'.heap[g14]? = some (.cells #[.string key2, .int .i64 (at2 : Int), .slice U2 x.f1.length cU2, .slice D2 x.f2.length cD2, .bool b2] 160 (0, 0)) → w'.heap[g11]? = some (.cells #[.string u.f0.f0, .string u.f0.f1, .string u.f0.f2, .slice (some ad3) u.f1.length c3, .slice A4 u.f2.length c4] 151 (0, 0)) → Below h.W0.heap.size h.W0 w' → w'.cell? ⟨g14, 0, none⟩ = some (.string key2) ∧ w'.cell? ⟨g14, 1, none⟩ = some (.int .i64 (at2 : Int)) ∧ w'.cell? ⟨g14, 2, none⟩ = some (.slice U2 x.f1.length cU2) ∧ w'.cell? ⟨g14, 3, none⟩ = some (.slice D2 x.f2.length cD2) ∧ w'.cell? ⟨g14, 4, none⟩ = some (.bool b2) ∧ w'.cell? ⟨g11, 3, none⟩ = some (.slice (some ad3) u.f1.length c3) ∧ w'.cell? (ad3.add l) = some (.string nm)) :=
                          ⟨fun w' h1 h2 h3 => ⟨(blk_cell h1 0).trans rfl, (blk_cell h1 1).trans rfl, (blk_cell h1 2).trans rfl, (blk_cell h1 3).trans rfl, (blk_cell h1 4).trans rfl, (blk_cell h2 3).trans rfl, HX3.out w' h3⟩⟩
                        go_region_held3 (fun w' => w'.cell? ⟨g14, 0, none⟩ = some (.string key2) ∧ w'.cell? ⟨g14, 1, none⟩ = some (.int .i64 (at2 : Int)) ∧ w'.cell? ⟨g14, 2, none⟩ = some (.slice U2 x.f1.length cU2) ∧ w'.cell? ⟨g14, 3, none⟩ = some (.slice D2 x.f2.length cD2) ∧ w'.cell? ⟨g14, 4, none⟩ = some (.bool b2) ∧ w'.cell? ⟨g11, 3, none⟩ = some (.slice (some ad3) u.f1.length c3) ∧ w'.cell? (ad3.add l) = some (.string nm))
                          (first
                            | with_reducible exact HSS.out _ K14e.out K11e.out HNd2.out.bl
                            | with_reducible exact HSS.out _ K14c.out K11c.out HN3.out.bl
                            | with_reducible exact HSS.out _ ((HP6.out.2.2 g14 n146).trans K14c.out) ((HP6.out.2.2 g11 n116).trans K11c.out) HP6.out.1.bl)
                          ((go_at_call 111; refine (HNC.out p _ v vi vo E2 res ?hm key2 at2 x.f1 U2 cU2 x.f2 D2 cD2 b2 SC2.out nm).mono ?_; (case hm => with_reducible exact HNd2.out.m1); rintro e w3 ⟨v3, E3, res3, y, B1, d1, B2, d2, i, rfl, hn, htv, hgd⟩; have HN3 := Aside0.mk (Nx.trans HNd2.out hn); have K14c := Aside0.mk (hn.blk K14e.out (by decide) (by decide)); have K11c := Aside0.mk (hn.blk K11e.out (by decide) (by decide)); have K6c := Aside0.mk (hn.blk K6e.out (by decide) (by decide)); have HP6 := Aside0.mk (HN3.out.put4 K6c.out (by decide) (by decide) (by have h1 := HG4.out; omega) (.int .i64 y.f0) (.slice B1 y.f1.length d1) (.slice B2 y.f2.length d2) (.int .i64 y.f3)); have s0 : w3.cell? ⟨g6, 0, none⟩ = some (.int .i64 0) := (blk_cell K6c.out 0).trans rfl; have s1 : w3.cell? ⟨g6, 1, none⟩ = some (.slice none 0 0) := (blk_cell K6c.out 1).trans rfl; have s2 : w3.cell? ⟨g6, 2, none⟩ = some (.slice none 0 0) := (blk_cell K6c.out 2).trans rfl; have s3 : w3.cell? ⟨g6, 3, none⟩ = some (.int .i64 0) := (blk_cell K6c.out 3).trans rfl; have sf0 : w3.frozen? ⟨g6, 0, none⟩ = false := blk_frozen K6c.out 0; have sf1 : w3.frozen? ⟨g6, 1, none⟩ = false := blk_frozen K6c.out 1; have sf2 : w3.frozen? ⟨g6, 2, none⟩ = false := blk_frozen K6c.out 2; have sf3 : w3.frozen? ⟨g6, 3, none⟩ = false := blk_frozen K6c.out 3; have HTV := Aside0.mk htv; have HGD := Aside0.mk hgd; clear hn htv hgd))
                        clear s0 s1 s2 s3 sf0 sf1 sf2 sf3
                        go_wp2_with fail
                        have HTZ : Aside0 (TV p ((((w3.setCell ⟨g6, 0, none⟩ (.int .i64 y.f0)).setCell ⟨g6, 1, none⟩ (.slice B1 y.f1.length d1)).setCell ⟨g6, 2, none⟩ (.slice B2 y.f2.length d2)).setCell ⟨g6, 3, none⟩ (.int .i64 y.f3)) w.heap.size v3 y (.slice B1 y.f1.length d1) (.slice B2 y.f2.length d2)) := ⟨TV.lower (base := wd.drew.heap.size) (by (repeat refine TV.set ?_ (by have := HSD.out; omega) _ _); exact HTV.out) (by have := HSD.out; have h1 := HG4.out; omega)⟩
                        obtain ⟨wf, hwf⟩ : ∃ wf : World, wf = ((((w3.setCell ⟨g6, 0, none⟩ (.int .i64 y.f0)).setCell ⟨g6, 1, none⟩ (.slice B1 y.f1.length d1)).setCell ⟨g6, 2, none⟩ (.slice B2 y.f2.length d2)).setCell ⟨g6, 3, none⟩ (.int .i64 y.f3)) := ⟨_, rfl⟩
                        rw [← hwf] at HP6 HTZ ⊢
                        clear hwf
                        have s0 : wf.cell? ⟨g6, 0, none⟩ = some (.int .i64 y.f0) := (blk_cell HP6.out.2.1 0).trans rfl
                        have s1 : wf.cell? ⟨g6, 1, none⟩ = some (.slice B1 y.f1.length d1) := (blk_cell HP6.out.2.1 1).trans rfl
                        have s2 : wf.cell? ⟨g6, 2, none⟩ = some (.slice B2 y.f2.length d2) := (blk_cell HP6.out.2.1 2).trans rfl
                        have s3 : wf.cell? ⟨g6, 3, none⟩ = some (.int .i64 y.f3) := (blk_cell HP6.out.2.1 3).trans rfl
                        exact bodyPost_ret (v := .tuple #[.agg #[.int .i64 y.f0, .slice B1 y.f1.length d1, .slice B2 y.f2.length d2, .int .i64 y.f3], .int .i64 i]) (by simp [results, Try.results112, go_sem, *]) rfl ⟨v3, E3, res3, y, _, _, _, _, _, rfl, HP6.out.1, HTZ.out, HGD.out⟩
                · have t2 : (nm.toList == n.toList) = false := beq_eq_false_iff_ne.mpr hn
                  have t3 : (nm.toList != n.toList) = true := bne_iff_ne.mpr hn
                  clear hn
                  go_wp2_with fail
                  go_roundw
                  case rel => exact ⟨l + 1, by omega, by go_num, HN, K4, K6, K11⟩
                  case measure => simp [intOf]; omega
              · have v1 : (a.toList == ([] : List UInt8)) = false := by rw [beq_eq_false_iff_ne]; exact ha
                have v2 : a.toList.isEmpty = false := by rw [List.isEmpty_eq_false_iff]; exact ha
                have v3 : (a.toList != ([] : List UInt8)) = true := by rw [bne_iff_ne]; exact ha
                clear ha
                by_cases hn : a.toList = n.toList
                · have t2 : (a.toList == n.toList) = true := beq_iff_eq.mpr hn
                  have t3 : (a.toList != n.toList) = false := bne_eq_false_iff_eq.mpr hn
                  clear hn
                  have yu0 : wr.cell? ⟨g11, 0, none⟩ = some (.string u.f0.f0) := (blk_cell K11.out 0).trans rfl
                  have yu1 : wr.cell? ⟨g11, 1, none⟩ = some (.string u.f0.f1) := (blk_cell K11.out 1).trans rfl
                  have yu2 : wr.cell? ⟨g11, 2, none⟩ = some (.string u.f0.f2) := (blk_cell K11.out 2).trans rfl
                  have b0 : wr.cell? ⟨g4, 0, none⟩ = some (.string key) := (blk_cell K4.out 0).trans rfl
                  have b1 : wr.cell? ⟨g4, 1, none⟩ = some (.int .i64 (at_ : Int)) := (blk_cell K4.out 1).trans rfl
                  have b4 : wr.cell? ⟨g4, 4, none⟩ = some (.bool out) := (blk_cell K4.out 4).trans rfl
                  cases out with
                  | true =>
                    go_wp2_with fail
                    clear t2 t3 v1 v2 v3 y1 y2 x2 x3 i0 i1 i2
                    refine (scope_any OK.out HN.out.m1 u.f0 at_ SC.out.pk _).mono ?_
                    rintro e w2 ⟨E2, hn, hcase⟩
                    have HN2 := Aside0.mk (HN.out.trans hn)
                    have K6c := Aside0.mk (hn.blk K6.out (by decide) (by decide))
                    have K11c := Aside0.mk (hn.blk K11.out (by decide) (by decide))
                    clear hn HN K4 K6 K11 yu0 yu1 yu2 b0 b1 b4
                    rcases hcase with ⟨rfl, hE⟩ | ⟨key2, at2, x, U2, cU2, D2, cD2, F2, cF2, b2, rfl, sc2, hF, hI⟩
                    · have HNn := Aside0.mk (HN2.out.below (below_alloc (below_alloc (Below.refl _ _) (.cells #[.string ⟨#[]⟩, .int .i64 0, .slice none 0 0, .slice none 0 0, .bool false] 160)) (.cells #[.string ⟨#[]⟩, .slice none 0 0, .slice none 0 0, .slice none 0 0] 142)))
                      have K6n := Aside0.mk (blk_alloc (blk_alloc K6c.out (.cells #[.string ⟨#[]⟩, .int .i64 0, .slice none 0 0, .slice none 0 0, .bool false] 160)) (.cells #[.string ⟨#[]⟩, .slice none 0 0, .slice none 0 0, .slice none 0 0] 142))
                      have HE := Aside0.mk hE
                      clear hE HN2 K6c K11c
                      have s0 : ((w2.alloc (.cells #[.string ⟨#[]⟩, .int .i64 0, .slice none 0 0, .slice none 0 0, .bool false] 160)).alloc (.cells #[.string ⟨#[]⟩, .slice none 0 0, .slice none 0 0, .slice none 0 0] 142)).cell? ⟨g6, 0, none⟩ = some (.int .i64 0) := (blk_cell K6n.out 0).trans rfl
                      have s1 : ((w2.alloc (.cells #[.string ⟨#[]⟩, .int .i64 0, .slice none 0 0, .slice none 0 0, .bool false] 160)).alloc (.cells #[.string ⟨#[]⟩, .slice none 0 0, .slice none 0 0, .slice none 0 0] 142)).cell? ⟨g6, 1, none⟩ = some (.slice none 0 0) := (blk_cell K6n.out 1).trans rfl
                      have s2 : ((w2.alloc (.cells #[.string ⟨#[]⟩, .int .i64 0, .slice none 0 0, .slice none 0 0, .bool false] 160)).alloc (.cells #[.string ⟨#[]⟩, .slice none 0 0, .slice none 0 0, .slice none 0 0] 142)).cell? ⟨g6, 2, none⟩ = some (.slice none 0 0) := (blk_cell K6n.out 2).trans rfl
                      have s3 : ((w2.alloc (.cells #[.string ⟨#[]⟩, .int .i64 0, .slice none 0 0, .slice none 0 0, .bool false] 160)).alloc (.cells #[.string ⟨#[]⟩, .slice none 0 0, .slice none 0 0, .slice none 0 0] 142)).cell? ⟨g6, 3, none⟩ = some (.int .i64 0) := (blk_cell K6n.out 3).trans rfl
                      have sf0 : ((w2.alloc (.cells #[.string ⟨#[]⟩, .int .i64 0, .slice none 0 0, .slice none 0 0, .bool false] 160)).alloc (.cells #[.string ⟨#[]⟩, .slice none 0 0, .slice none 0 0, .slice none 0 0] 142)).frozen? ⟨g6, 0, none⟩ = false := blk_frozen K6n.out 0
                      have sf1 : ((w2.alloc (.cells #[.string ⟨#[]⟩, .int .i64 0, .slice none 0 0, .slice none 0 0, .bool false] 160)).alloc (.cells #[.string ⟨#[]⟩, .slice none 0 0, .slice none 0 0, .slice none 0 0] 142)).frozen? ⟨g6, 1, none⟩ = false := blk_frozen K6n.out 1
                      have sf2 : ((w2.alloc (.cells #[.string ⟨#[]⟩, .int .i64 0, .slice none 0 0, .slice none 0 0, .bool false] 160)).alloc (.cells #[.string ⟨#[]⟩, .slice none 0 0, .slice none 0 0, .slice none 0 0] 142)).frozen? ⟨g6, 2, none⟩ = false := blk_frozen K6n.out 2
                      have sf3 : ((w2.alloc (.cells #[.string ⟨#[]⟩, .int .i64 0, .slice none 0 0, .slice none 0 0, .bool false] 160)).alloc (.cells #[.string ⟨#[]⟩, .slice none 0 0, .slice none 0 0, .slice none 0 0] 142)).frozen? ⟨g6, 3, none⟩ = false := blk_frozen K6n.out 3
                      have HP6 := Aside0.mk (HNn.out.put4 K6n.out (by decide) (by decide) (by have h1 := HG4.out; omega) (.int .i64 0) (.slice none 0 0) (.slice none 0 0) (.int .i64 0))
                      go_wp2_with fail
                      clear s0 s1 s2 s3 sf0 sf1 sf2 sf3
                      have HTZ : Aside0 (TV p ((((((w2.alloc (.cells #[.string ⟨#[]⟩, .int .i64 0, .slice none 0 0, .slice none 0 0, .bool false] 160)).alloc (.cells #[.string ⟨#[]⟩, .slice none 0 0, .slice none 0 0, .slice none 0 0] 142)).setCell ⟨g6, 0, none⟩ (.int .i64 0)).setCell ⟨g6, 1, none⟩ (.slice none 0 0)).setCell ⟨g6, 2, none⟩ (.slice none 0 0)).setCell ⟨g6, 3, none⟩ (.int .i64 0)) w.heap.size v PSubFits.z25 (.slice none 0 0) (.slice none 0 0)) := ⟨TV.zero _ _ _ _⟩
                      obtain ⟨wf, hwf⟩ : ∃ wf : World, wf = ((((((w2.alloc (.cells #[.string ⟨#[]⟩, .int .i64 0, .slice none 0 0, .slice none 0 0, .bool false] 160)).alloc (.cells #[.string ⟨#[]⟩, .slice none 0 0, .slice none 0 0, .slice none 0 0] 142)).setCell ⟨g6, 0, none⟩ (.int .i64 0)).setCell ⟨g6, 1, none⟩ (.slice none 0 0)).setCell ⟨g6, 2, none⟩ (.slice none 0 0)).setCell ⟨g6, 3, none⟩ (.int .i64 0)) := ⟨_, rfl⟩
                      rw [← hwf] at HP6 HTZ ⊢
                      clear hwf
                      have s0 : wf.cell? ⟨g6, 0, none⟩ = some (.int .i64 0) := (blk_cell HP6.out.2.1 0).trans rfl
                      have s1 : wf.cell? ⟨g6, 1, none⟩ = some (.slice none 0 0) := (blk_cell HP6.out.2.1 1).trans rfl
                      have s2 : wf.cell? ⟨g6, 2, none⟩ = some (.slice none 0 0) := (blk_cell HP6.out.2.1 2).trans rfl
                      have s3 : wf.cell? ⟨g6, 3, none⟩ = some (.int .i64 0) := (blk_cell HP6.out.2.1 3).trans rfl
                      exact bodyPost_ret (v := .tuple #[.agg #[.int .i64 0, .slice none 0 0, .slice none 0 0, .int .i64 0], .int .i64 (-1)]) (by simp [results, Try.results112, go_sem, *]) rfl ⟨v, E2, res, PSubFits.z25, _, _, _, _, _, rfl, HP6.out.1, HTZ.out, fun e => absurd e HE.out⟩
                    · have SC2 := Aside0.mk sc2
                      have HNd2 : Aside0 (Nx h p vi vo dp w v E res ((w2.alloc (.cells #[.string key2, .int .i64 (at2 : Int), .slice U2 x.f1.length cU2, .slice D2 x.f2.length cD2, .bool b2] 160)).alloc (.cells #[.string x.f0, .slice U2 x.f1.length cU2, .slice D2 x.f2.length cD2, .slice F2 x.f3.length cF2] 142)).drew v E2 res) := ⟨(HN2.out.below (below_alloc (below_alloc (Below.refl _ _) (.cells #[.string key2, .int .i64 (at2 : Int), .slice U2 x.f1.length cU2, .slice D2 x.f2.length cD2, .bool b2] 160)) (.cells #[.string x.f0, .slice U2 x.f1.length cU2, .slice D2 x.f2.length cD2, .slice F2 x.f3.length cF2] 142))).drewN 1⟩
                      have K14e : Aside0 (((w2.alloc (.cells #[.string key2, .int .i64 (at2 : Int), .slice U2 x.f1.length cU2, .slice D2 x.f2.length cD2, .bool b2] 160)).alloc (.cells #[.string x.f0, .slice U2 x.f1.length cU2, .slice D2 x.f2.length cD2, .slice F2 x.f3.length cF2] 142)).drew.heap[w2.heap.size]? = some (.cells #[.string key2, .int .i64 (at2 : Int), .slice U2 x.f1.length cU2, .slice D2 x.f2.length cD2, .bool b2] 160 (0, 0))) := ⟨blk_alloc (blk_new w2 (.cells #[.string key2, .int .i64 (at2 : Int), .slice U2 x.f1.length cU2, .slice D2 x.f2.length cD2, .bool b2] 160)) (.cells #[.string x.f0, .slice U2 x.f1.length cU2, .slice D2 x.f2.length cD2, .slice F2 x.f3.length cF2] 142)⟩
                      have K6e : Aside0 (((w2.alloc (.cells #[.string key2, .int .i64 (at2 : Int), .slice U2 x.f1.length cU2, .slice D2 x.f2.length cD2, .bool b2] 160)).alloc (.cells #[.string x.f0, .slice U2 x.f1.length cU2, .slice D2 x.f2.length cD2, .slice F2 x.f3.length cF2] 142)).drew.heap[g6]? = some (.cells #[.int .i64 0, .slice none 0 0, .slice none 0 0, .int .i64 0] 25 (0, 0))) := ⟨blk_alloc (blk_alloc K6c.out (.cells #[.string key2, .int .i64 (at2 : Int), .slice U2 x.f1.length cU2, .slice D2 x.f2.length cD2, .bool b2] 160)) (.cells #[.string x.f0, .slice U2 x.f1.length cU2, .slice D2 x.f2.length cD2, .slice F2 x.f3.length cF2] 142)⟩
                      have K11e : Aside0 (((w2.alloc (.cells #[.string key2, .int .i64 (at2 : Int), .slice U2 x.f1.length cU2, .slice D2 x.f2.length cD2, .bool b2] 160)).alloc (.cells #[.string x.f0, .slice U2 x.f1.length cU2, .slice D2 x.f2.length cD2, .slice F2 x.f3.length cF2] 142)).drew.heap[g11]? = some (.cells #[.string u.f0.f0, .string u.f0.f1, .string u.f0.f2, .slice (some ad3) u.f1.length c3, .slice A4 u.f2.length c4] 151 (0, 0))) := ⟨by have := blk_alloc (blk_alloc K11c.out (.cells #[.string key2, .int .i64 (at2 : Int), .slice U2 x.f1.length cU2, .slice D2 x.f2.length cD2, .bool b2] 160)) (.cells #[.string x.f0, .slice U2 x.f1.length cU2, .slice D2 x.f2.length cD2, .slice F2 x.f3.length cF2] 142); rw [HAE3.out] at this; exact this⟩
                      have HSD : Aside0 (g6 < w2.heap.size ∧ w2.heap.size ≤ ((w2.alloc (.cells #[.string key2, .int .i64 (at2 : Int), .slice U2 x.f1.length cU2, .slice D2 x.f2.length cD2, .bool b2] 160)).alloc (.cells #[.string x.f0, .slice U2 x.f1.length cU2, .slice D2 x.f2.length cD2, .slice F2 x.f3.length cF2] 142)).drew.heap.size) := ⟨blk_lt K6c.out, by show _ ≤ ((w2.alloc (.cells #[.string key2, .int .i64 (at2 : Int), .slice U2 x.f1.length cU2, .slice D2 x.f2.length cD2, .bool b2] 160)).alloc (.cells #[.string x.f0, .slice U2 x.f1.length cU2, .slice D2 x.f2.length cD2, .slice F2 x.f3.length cF2] 142)).heap.size; simp only [World.size_alloc]; omega⟩
                      have n146 : w2.heap.size ≠ g6 := by have := HSD.out; omega
                      have n116 : g11 ≠ g6 := HN116.out
                      clear sc2 hF hI HN2 K6c K11c
                      simp only [scV, ifV]
                      go_wp2_with fail
                      obtain ⟨wd, hwd⟩ : ∃ wd : World, wd = ((w2.alloc (.cells #[.string key2, .int .i64 (at2 : Int), .slice U2 x.f1.length cU2, .slice D2 x.f2.length cD2, .bool b2] 160)).alloc (.cells #[.string x.f0, .slice U2 x.f1.length cU2, .slice D2 x.f2.length cD2, .slice F2 x.f3.length cF2] 142)) := ⟨_, rfl⟩
                      rw [← hwd] at HNd2 K14e K6e K11e HSD ⊢
                      clear hwd
                      generalize w2.heap.size = g14 at *
                      have HSS : Aside0 (∀ w' : World, w'.heap[g14]? = some (.cells #[.string key2, .int .i64 (at2 : Int), .slice U2 x.f1.length cU2, .slice D2 x.f2.length cD2, .bool b2] 160 (0, 0)) → w'.heap[g11]? = some (.cells #[.string u.f0.f0, .string u.f0.f1, .string u.f0.f2, .slice (some ad3) u.f1.length c3, .slice A4 u.f2.length c4] 151 (0, 0)) → Below h.W0.heap.size h.W0 w' → w'.cell? ⟨g14, 0, none⟩ = some (.string key2) ∧ w'.cell? ⟨g14, 1, none⟩ = some (.int .i64 (at2 : Int)) ∧ w'.cell? ⟨g14, 2, none⟩ = some (.slice U2 x.f1.length cU2) ∧ w'.cell? ⟨g14, 3, none⟩ = some (.slice D2 x.f2.length cD2) ∧ w'.cell? ⟨g14, 4, none⟩ = some (.bool b2) ∧ w'.cell? ⟨g11, 3, none⟩ = some (.slice (some ad3) u.f1.length c3) ∧ w'.cell? (ad3.add l) = some (.string nm)) :=
                        ⟨fun w' h1 h2 h3 => ⟨(blk_cell h1 0).trans rfl, (blk_cell h1 1).trans rfl, (blk_cell h1 2).trans rfl, (blk_cell h1 3).trans rfl, (blk_cell h1 4).trans rfl, (blk_cell h2 3).trans rfl, HX3.out w' h3⟩⟩
                      go_region_held3 (fun w' => w'.cell? ⟨g14, 0, none⟩ = some (.string key2) ∧ w'.cell? ⟨g14, 1, none⟩ = some (.int .i64 (at2 : Int)) ∧ w'.cell? ⟨g14, 2, none⟩ = some (.slice U2 x.f1.length cU2) ∧ w'.cell? ⟨g14, 3, none⟩ = some (.slice D2 x.f2.length cD2) ∧ w'.cell? ⟨g14, 4, none⟩ = some (.bool b2) ∧ w'.cell? ⟨g11, 3, none⟩ = some (.slice (some ad3) u.f1.length c3) ∧ w'.cell? (ad3.add l) = some (.string nm))
                        (first
                          | with_reducible exact HSS.out _ K14e.out K11e.out HNd2.out.bl
                          | with_reducible exact HSS.out _ K14c.out K11c.out HN3.out.bl
                          | with_reducible exact HSS.out _ ((HP6.out.2.2 g14 n146).trans K14c.out) ((HP6.out.2.2 g11 n116).trans K11c.out) HP6.out.1.bl)
                        ((go_at_call 111; refine (HNC.out p _ v vi vo E2 res ?hm key2 at2 x.f1 U2 cU2 x.f2 D2 cD2 b2 SC2.out nm).mono ?_; (case hm => with_reducible exact HNd2.out.m1); rintro e w3 ⟨v3, E3, res3, y, B1, d1, B2, d2, i, rfl, hn, htv, hgd⟩; have HN3 := Aside0.mk (Nx.trans HNd2.out hn); have K14c := Aside0.mk (hn.blk K14e.out (by decide) (by decide)); have K11c := Aside0.mk (hn.blk K11e.out (by decide) (by decide)); have K6c := Aside0.mk (hn.blk K6e.out (by decide) (by decide)); have HP6 := Aside0.mk (HN3.out.put4 K6c.out (by decide) (by decide) (by have h1 := HG4.out; omega) (.int .i64 y.f0) (.slice B1 y.f1.length d1) (.slice B2 y.f2.length d2) (.int .i64 y.f3)); have s0 : w3.cell? ⟨g6, 0, none⟩ = some (.int .i64 0) := (blk_cell K6c.out 0).trans rfl; have s1 : w3.cell? ⟨g6, 1, none⟩ = some (.slice none 0 0) := (blk_cell K6c.out 1).trans rfl; have s2 : w3.cell? ⟨g6, 2, none⟩ = some (.slice none 0 0) := (blk_cell K6c.out 2).trans rfl; have s3 : w3.cell? ⟨g6, 3, none⟩ = some (.int .i64 0) := (blk_cell K6c.out 3).trans rfl; have sf0 : w3.frozen? ⟨g6, 0, none⟩ = false := blk_frozen K6c.out 0; have sf1 : w3.frozen? ⟨g6, 1, none⟩ = false := blk_frozen K6c.out 1; have sf2 : w3.frozen? ⟨g6, 2, none⟩ = false := blk_frozen K6c.out 2; have sf3 : w3.frozen? ⟨g6, 3, none⟩ = false := blk_frozen K6c.out 3; have HTV := Aside0.mk htv; have HGD := Aside0.mk hgd; clear hn htv hgd))
                      clear s0 s1 s2 s3 sf0 sf1 sf2 sf3
                      go_wp2_with fail
                      have HTZ : Aside0 (TV p ((((w3.setCell ⟨g6, 0, none⟩ (.int .i64 y.f0)).setCell ⟨g6, 1, none⟩ (.slice B1 y.f1.length d1)).setCell ⟨g6, 2, none⟩ (.slice B2 y.f2.length d2)).setCell ⟨g6, 3, none⟩ (.int .i64 y.f3)) w.heap.size v3 y (.slice B1 y.f1.length d1) (.slice B2 y.f2.length d2)) := ⟨TV.lower (base := wd.drew.heap.size) (by (repeat refine TV.set ?_ (by have := HSD.out; omega) _ _); exact HTV.out) (by have := HSD.out; have h1 := HG4.out; omega)⟩
                      obtain ⟨wf, hwf⟩ : ∃ wf : World, wf = ((((w3.setCell ⟨g6, 0, none⟩ (.int .i64 y.f0)).setCell ⟨g6, 1, none⟩ (.slice B1 y.f1.length d1)).setCell ⟨g6, 2, none⟩ (.slice B2 y.f2.length d2)).setCell ⟨g6, 3, none⟩ (.int .i64 y.f3)) := ⟨_, rfl⟩
                      rw [← hwf] at HP6 HTZ ⊢
                      clear hwf
                      have s0 : wf.cell? ⟨g6, 0, none⟩ = some (.int .i64 y.f0) := (blk_cell HP6.out.2.1 0).trans rfl
                      have s1 : wf.cell? ⟨g6, 1, none⟩ = some (.slice B1 y.f1.length d1) := (blk_cell HP6.out.2.1 1).trans rfl
                      have s2 : wf.cell? ⟨g6, 2, none⟩ = some (.slice B2 y.f2.length d2) := (blk_cell HP6.out.2.1 2).trans rfl
                      have s3 : wf.cell? ⟨g6, 3, none⟩ = some (.int .i64 y.f3) := (blk_cell HP6.out.2.1 3).trans rfl
                      exact bodyPost_ret (v := .tuple #[.agg #[.int .i64 y.f0, .slice B1 y.f1.length d1, .slice B2 y.f2.length d2, .int .i64 y.f3], .int .i64 i]) (by simp [results, Try.results112, go_sem, *]) rfl ⟨v3, E3, res3, y, _, _, _, _, _, rfl, HP6.out.1, HTZ.out, HGD.out⟩
                  | false =>
                    by_cases hke : key.toList = []
                    · have k1 : (key.toList == ([] : List UInt8)) = true := by rw [hke]; rfl
                      have k2 : key.toList.isEmpty = true := by rw [hke]; rfl
                      have k3 : (key.toList != ([] : List UInt8)) = false := by rw [hke]; rfl
                      clear hke
                      go_wp2_with fail
                      clear t2 t3 v1 v2 v3 y1 y2 x2 x3 i0 i1 i2 k1 k2 k3
                      refine (scope_any OK.out HN.out.m1 u.f0 at_ SC.out.pk _).mono ?_
                      rintro e w2 ⟨E2, hn, hcase⟩
                      have HN2 := Aside0.mk (HN.out.trans hn)
                      have K6c := Aside0.mk (hn.blk K6.out (by decide) (by decide))
                      have K11c := Aside0.mk (hn.blk K11.out (by decide) (by decide))
                      clear hn HN K4 K6 K11 yu0 yu1 yu2 b0 b1 b4
                      rcases hcase with ⟨rfl, hE⟩ | ⟨key2, at2, x, U2, cU2, D2, cD2, F2, cF2, b2, rfl, sc2, hF, hI⟩
                      · have HNn := Aside0.mk (HN2.out.below (below_alloc (below_alloc (Below.refl _ _) (.cells #[.string ⟨#[]⟩, .int .i64 0, .slice none 0 0, .slice none 0 0, .bool false] 160)) (.cells #[.string ⟨#[]⟩, .slice none 0 0, .slice none 0 0, .slice none 0 0] 142)))
                        have K6n := Aside0.mk (blk_alloc (blk_alloc K6c.out (.cells #[.string ⟨#[]⟩, .int .i64 0, .slice none 0 0, .slice none 0 0, .bool false] 160)) (.cells #[.string ⟨#[]⟩, .slice none 0 0, .slice none 0 0, .slice none 0 0] 142))
                        have HE := Aside0.mk hE
                        clear hE HN2 K6c K11c
                        have s0 : ((w2.alloc (.cells #[.string ⟨#[]⟩, .int .i64 0, .slice none 0 0, .slice none 0 0, .bool false] 160)).alloc (.cells #[.string ⟨#[]⟩, .slice none 0 0, .slice none 0 0, .slice none 0 0] 142)).cell? ⟨g6, 0, none⟩ = some (.int .i64 0) := (blk_cell K6n.out 0).trans rfl
                        have s1 : ((w2.alloc (.cells #[.string ⟨#[]⟩, .int .i64 0, .slice none 0 0, .slice none 0 0, .bool false] 160)).alloc (.cells #[.string ⟨#[]⟩, .slice none 0 0, .slice none 0 0, .slice none 0 0] 142)).cell? ⟨g6, 1, none⟩ = some (.slice none 0 0) := (blk_cell K6n.out 1).trans rfl
                        have s2 : ((w2.alloc (.cells #[.string ⟨#[]⟩, .int .i64 0, .slice none 0 0, .slice none 0 0, .bool false] 160)).alloc (.cells #[.string ⟨#[]⟩, .slice none 0 0, .slice none 0 0, .slice none 0 0] 142)).cell? ⟨g6, 2, none⟩ = some (.slice none 0 0) := (blk_cell K6n.out 2).trans rfl
                        have s3 : ((w2.alloc (.cells #[.string ⟨#[]⟩, .int .i64 0, .slice none 0 0, .slice none 0 0, .bool false] 160)).alloc (.cells #[.string ⟨#[]⟩, .slice none 0 0, .slice none 0 0, .slice none 0 0] 142)).cell? ⟨g6, 3, none⟩ = some (.int .i64 0) := (blk_cell K6n.out 3).trans rfl
                        have sf0 : ((w2.alloc (.cells #[.string ⟨#[]⟩, .int .i64 0, .slice none 0 0, .slice none 0 0, .bool false] 160)).alloc (.cells #[.string ⟨#[]⟩, .slice none 0 0, .slice none 0 0, .slice none 0 0] 142)).frozen? ⟨g6, 0, none⟩ = false := blk_frozen K6n.out 0
                        have sf1 : ((w2.alloc (.cells #[.string ⟨#[]⟩, .int .i64 0, .slice none 0 0, .slice none 0 0, .bool false] 160)).alloc (.cells #[.string ⟨#[]⟩, .slice none 0 0, .slice none 0 0, .slice none 0 0] 142)).frozen? ⟨g6, 1, none⟩ = false := blk_frozen K6n.out 1
                        have sf2 : ((w2.alloc (.cells #[.string ⟨#[]⟩, .int .i64 0, .slice none 0 0, .slice none 0 0, .bool false] 160)).alloc (.cells #[.string ⟨#[]⟩, .slice none 0 0, .slice none 0 0, .slice none 0 0] 142)).frozen? ⟨g6, 2, none⟩ = false := blk_frozen K6n.out 2
                        have sf3 : ((w2.alloc (.cells #[.string ⟨#[]⟩, .int .i64 0, .slice none 0 0, .slice none 0 0, .bool false] 160)).alloc (.cells #[.string ⟨#[]⟩, .slice none 0 0, .slice none 0 0, .slice none 0 0] 142)).frozen? ⟨g6, 3, none⟩ = false := blk_frozen K6n.out 3
                        have HP6 := Aside0.mk (HNn.out.put4 K6n.out (by decide) (by decide) (by have h1 := HG4.out; omega) (.int .i64 0) (.slice none 0 0) (.slice none 0 0) (.int .i64 0))
                        go_wp2_with fail
                        clear s0 s1 s2 s3 sf0 sf1 sf2 sf3
                        have HTZ : Aside0 (TV p ((((((w2.alloc (.cells #[.string ⟨#[]⟩, .int .i64 0, .slice none 0 0, .slice none 0 0, .bool false] 160)).alloc (.cells #[.string ⟨#[]⟩, .slice none 0 0, .slice none 0 0, .slice none 0 0] 142)).setCell ⟨g6, 0, none⟩ (.int .i64 0)).setCell ⟨g6, 1, none⟩ (.slice none 0 0)).setCell ⟨g6, 2, none⟩ (.slice none 0 0)).setCell ⟨g6, 3, none⟩ (.int .i64 0)) w.heap.size v PSubFits.z25 (.slice none 0 0) (.slice none 0 0)) := ⟨TV.zero _ _ _ _⟩
                        obtain ⟨wf, hwf⟩ : ∃ wf : World, wf = ((((((w2.alloc (.cells #[.string ⟨#[]⟩, .int .i64 0, .slice none 0 0, .slice none 0 0, .bool false] 160)).alloc (.cells #[.string ⟨#[]⟩, .slice none 0 0, .slice none 0 0, .slice none 0 0] 142)).setCell ⟨g6, 0, none⟩ (.int .i64 0)).setCell ⟨g6, 1, none⟩ (.slice none 0 0)).setCell ⟨g6, 2, none⟩ (.slice none 0 0)).setCell ⟨g6, 3, none⟩ (.int .i64 0)) := ⟨_, rfl⟩
                        rw [← hwf] at HP6 HTZ ⊢
                        clear hwf
                        have s0 : wf.cell? ⟨g6, 0, none⟩ = some (.int .i64 0) := (blk_cell HP6.out.2.1 0).trans rfl
                        have s1 : wf.cell? ⟨g6, 1, none⟩ = some (.slice none 0 0) := (blk_cell HP6.out.2.1 1).trans rfl
                        have s2 : wf.cell? ⟨g6, 2, none⟩ = some (.slice none 0 0) := (blk_cell HP6.out.2.1 2).trans rfl
                        have s3 : wf.cell? ⟨g6, 3, none⟩ = some (.int .i64 0) := (blk_cell HP6.out.2.1 3).trans rfl
                        exact bodyPost_ret (v := .tuple #[.agg #[.int .i64 0, .slice none 0 0, .slice none 0 0, .int .i64 0], .int .i64 (-1)]) (by simp [results, Try.results112, go_sem, *]) rfl ⟨v, E2, res, PSubFits.z25, _, _, _, _, _, rfl, HP6.out.1, HTZ.out, fun e => absurd e HE.out⟩
                      · have SC2 := Aside0.mk sc2
                        have HNd2 : Aside0 (Nx h p vi vo dp w v E res ((w2.alloc (.cells #[.string key2, .int .i64 (at2 : Int), .slice U2 x.f1.length cU2, .slice D2 x.f2.length cD2, .bool b2] 160)).alloc (.cells #[.string x.f0, .slice U2 x.f1.length cU2, .slice D2 x.f2.length cD2, .slice F2 x.f3.length cF2] 142)).drew v E2 res) := ⟨(HN2.out.below (below_alloc (below_alloc (Below.refl _ _) (.cells #[.string key2, .int .i64 (at2 : Int), .slice U2 x.f1.length cU2, .slice D2 x.f2.length cD2, .bool b2] 160)) (.cells #[.string x.f0, .slice U2 x.f1.length cU2, .slice D2 x.f2.length cD2, .slice F2 x.f3.length cF2] 142))).drewN 1⟩
                        have K14e : Aside0 (((w2.alloc (.cells #[.string key2, .int .i64 (at2 : Int), .slice U2 x.f1.length cU2, .slice D2 x.f2.length cD2, .bool b2] 160)).alloc (.cells #[.string x.f0, .slice U2 x.f1.length cU2, .slice D2 x.f2.length cD2, .slice F2 x.f3.length cF2] 142)).drew.heap[w2.heap.size]? = some (.cells #[.string key2, .int .i64 (at2 : Int), .slice U2 x.f1.length cU2, .slice D2 x.f2.length cD2, .bool b2] 160 (0, 0))) := ⟨blk_alloc (blk_new w2 (.cells #[.string key2, .int .i64 (at2 : Int), .slice U2 x.f1.length cU2, .slice D2 x.f2.length cD2, .bool b2] 160)) (.cells #[.string x.f0, .slice U2 x.f1.length cU2, .slice D2 x.f2.length cD2, .slice F2 x.f3.length cF2] 142)⟩
                        have K6e : Aside0 (((w2.alloc (.cells #[.string key2, .int .i64 (at2 : Int), .slice U2 x.f1.length cU2, .slice D2 x.f2.length cD2, .bool b2] 160)).alloc (.cells #[.string x.f0, .slice U2 x.f1.length cU2, .slice D2 x.f2.length cD2, .slice F2 x.f3.length cF2] 142)).drew.heap[g6]? = some (.cells #[.int .i64 0, .slice none 0 0, .slice none 0 0, .int .i64 0] 25 (0, 0))) := ⟨blk_alloc (blk_alloc K6c.out (.cells #[.string key2, .int .i64 (at2 : Int), .slice U2 x.f1.length cU2, .slice D2 x.f2.length cD2, .bool b2] 160)) (.cells #[.string x.f0, .slice U2 x.f1.length cU2, .slice D2 x.f2.length cD2, .slice F2 x.f3.length cF2] 142)⟩
                        have K11e : Aside0 (((w2.alloc (.cells #[.string key2, .int .i64 (at2 : Int), .slice U2 x.f1.length cU2, .slice D2 x.f2.length cD2, .bool b2] 160)).alloc (.cells #[.string x.f0, .slice U2 x.f1.length cU2, .slice D2 x.f2.length cD2, .slice F2 x.f3.length cF2] 142)).drew.heap[g11]? = some (.cells #[.string u.f0.f0, .string u.f0.f1, .string u.f0.f2, .slice (some ad3) u.f1.length c3, .slice A4 u.f2.length c4] 151 (0, 0))) := ⟨by have := blk_alloc (blk_alloc K11c.out (.cells #[.string key2, .int .i64 (at2 : Int), .slice U2 x.f1.length cU2, .slice D2 x.f2.length cD2, .bool b2] 160)) (.cells #[.string x.f0, .slice U2 x.f1.length cU2, .slice D2 x.f2.length cD2, .slice F2 x.f3.length cF2] 142); rw [HAE3.out] at this; exact this⟩
                        have HSD : Aside0 (g6 < w2.heap.size ∧ w2.heap.size ≤ ((w2.alloc (.cells #[.string key2, .int .i64 (at2 : Int), .slice U2 x.f1.length cU2, .slice D2 x.f2.length cD2, .bool b2] 160)).alloc (.cells #[.string x.f0, .slice U2 x.f1.length cU2, .slice D2 x.f2.length cD2, .slice F2 x.f3.length cF2] 142)).drew.heap.size) := ⟨blk_lt K6c.out, by show _ ≤ ((w2.alloc (.cells #[.string key2, .int .i64 (at2 : Int), .slice U2 x.f1.length cU2, .slice D2 x.f2.length cD2, .bool b2] 160)).alloc (.cells #[.string x.f0, .slice U2 x.f1.length cU2, .slice D2 x.f2.length cD2, .slice F2 x.f3.length cF2] 142)).heap.size; simp only [World.size_alloc]; omega⟩
                        have n146 : w2.heap.size ≠ g6 := by have := HSD.out; omega
                        have n116 : g11 ≠ g6 := HN116.out
                        clear sc2 hF hI HN2 K6c K11c
                        simp only [scV, ifV]
                        go_wp2_with fail
                        obtain ⟨wd, hwd⟩ : ∃ wd : World, wd = ((w2.alloc (.cells #[.string key2, .int .i64 (at2 : Int), .slice U2 x.f1.length cU2, .slice D2 x.f2.length cD2, .bool b2] 160)).alloc (.cells #[.string x.f0, .slice U2 x.f1.length cU2, .slice D2 x.f2.length cD2, .slice F2 x.f3.length cF2] 142)) := ⟨_, rfl⟩
                        rw [← hwd] at HNd2 K14e K6e K11e HSD ⊢
                        clear hwd
                        generalize w2.heap.size = g14 at *
                        have HSS : Aside0 (∀ w' : World, w'.heap[g14]? = some (.cells #[.string key2, .int .i64 (at2 : Int), .slice U2 x.f1.length cU2, .slice D2 x.f2.length cD2, .bool b2] 160 (0, 0)) → w'.heap[g11]? = some (.cells #[.string u.f0.f0, .string u.f0.f1, .string u.f0.f2, .slice (some ad3) u.f1.length c3, .slice A4 u.f2.length c4] 151 (0, 0)) → Below h.W0.heap.size h.W0 w' → w'.cell? ⟨g14, 0, none⟩ = some (.string key2) ∧ w'.cell? ⟨g14, 1, none⟩ = some (.int .i64 (at2 : Int)) ∧ w'.cell? ⟨g14, 2, none⟩ = some (.slice U2 x.f1.length cU2) ∧ w'.cell? ⟨g14, 3, none⟩ = some (.slice D2 x.f2.length cD2) ∧ w'.cell? ⟨g14, 4, none⟩ = some (.bool b2) ∧ w'.cell? ⟨g11, 3, none⟩ = some (.slice (some ad3) u.f1.length c3) ∧ w'.cell? (ad3.add l) = some (.string nm)) :=
                          ⟨fun w' h1 h2 h3 => ⟨(blk_cell h1 0).trans rfl, (blk_cell h1 1).trans rfl, (blk_cell h1 2).trans rfl, (blk_cell h1 3).trans rfl, (blk_cell h1 4).trans rfl, (blk_cell h2 3).trans rfl, HX3.out w' h3⟩⟩
                        go_region_held3 (fun w' => w'.cell? ⟨g14, 0, none⟩ = some (.string key2) ∧ w'.cell? ⟨g14, 1, none⟩ = some (.int .i64 (at2 : Int)) ∧ w'.cell? ⟨g14, 2, none⟩ = some (.slice U2 x.f1.length cU2) ∧ w'.cell? ⟨g14, 3, none⟩ = some (.slice D2 x.f2.length cD2) ∧ w'.cell? ⟨g14, 4, none⟩ = some (.bool b2) ∧ w'.cell? ⟨g11, 3, none⟩ = some (.slice (some ad3) u.f1.length c3) ∧ w'.cell? (ad3.add l) = some (.string nm))
                          (first
                            | with_reducible exact HSS.out _ K14e.out K11e.out HNd2.out.bl
                            | with_reducible exact HSS.out _ K14c.out K11c.out HN3.out.bl
                            | with_reducible exact HSS.out _ ((HP6.out.2.2 g14 n146).trans K14c.out) ((HP6.out.2.2 g11 n116).trans K11c.out) HP6.out.1.bl)
                          ((go_at_call 111; refine (HNC.out p _ v vi vo E2 res ?hm key2 at2 x.f1 U2 cU2 x.f2 D2 cD2 b2 SC2.out nm).mono ?_; (case hm => with_reducible exact HNd2.out.m1); rintro e w3 ⟨v3, E3, res3, y, B1, d1, B2, d2, i, rfl, hn, htv, hgd⟩; have HN3 := Aside0.mk (Nx.trans HNd2.out hn); have K14c := Aside0.mk (hn.blk K14e.out (by decide) (by decide)); have K11c := Aside0.mk (hn.blk K11e.out (by decide) (by decide)); have K6c := Aside0.mk (hn.blk K6e.out (by decide) (by decide)); have HP6 := Aside0.mk (HN3.out.put4 K6c.out (by decide) (by decide) (by have h1 := HG4.out; omega) (.int .i64 y.f0) (.slice B1 y.f1.length d1) (.slice B2 y.f2.length d2) (.int .i64 y.f3)); have s0 : w3.cell? ⟨g6, 0, none⟩ = some (.int .i64 0) := (blk_cell K6c.out 0).trans rfl; have s1 : w3.cell? ⟨g6, 1, none⟩ = some (.slice none 0 0) := (blk_cell K6c.out 1).trans rfl; have s2 : w3.cell? ⟨g6, 2, none⟩ = some (.slice none 0 0) := (blk_cell K6c.out 2).trans rfl; have s3 : w3.cell? ⟨g6, 3, none⟩ = some (.int .i64 0) := (blk_cell K6c.out 3).trans rfl; have sf0 : w3.frozen? ⟨g6, 0, none⟩ = false := blk_frozen K6c.out 0; have sf1 : w3.frozen? ⟨g6, 1, none⟩ = false := blk_frozen K6c.out 1; have sf2 : w3.frozen? ⟨g6, 2, none⟩ = false := blk_frozen K6c.out 2; have sf3 : w3.frozen? ⟨g6, 3, none⟩ = false := blk_frozen K6c.out 3; have HTV := Aside0.mk htv; have HGD := Aside0.mk hgd; clear hn htv hgd))
                        clear s0 s1 s2 s3 sf0 sf1 sf2 sf3
                        go_wp2_with fail
                        have HTZ : Aside0 (TV p ((((w3.setCell ⟨g6, 0, none⟩ (.int .i64 y.f0)).setCell ⟨g6, 1, none⟩ (.slice B1 y.f1.length d1)).setCell ⟨g6, 2, none⟩ (.slice B2 y.f2.length d2)).setCell ⟨g6, 3, none⟩ (.int .i64 y.f3)) w.heap.size v3 y (.slice B1 y.f1.length d1) (.slice B2 y.f2.length d2)) := ⟨TV.lower (base := wd.drew.heap.size) (by (repeat refine TV.set ?_ (by have := HSD.out; omega) _ _); exact HTV.out) (by have := HSD.out; have h1 := HG4.out; omega)⟩
                        obtain ⟨wf, hwf⟩ : ∃ wf : World, wf = ((((w3.setCell ⟨g6, 0, none⟩ (.int .i64 y.f0)).setCell ⟨g6, 1, none⟩ (.slice B1 y.f1.length d1)).setCell ⟨g6, 2, none⟩ (.slice B2 y.f2.length d2)).setCell ⟨g6, 3, none⟩ (.int .i64 y.f3)) := ⟨_, rfl⟩
                        rw [← hwf] at HP6 HTZ ⊢
                        clear hwf
                        have s0 : wf.cell? ⟨g6, 0, none⟩ = some (.int .i64 y.f0) := (blk_cell HP6.out.2.1 0).trans rfl
                        have s1 : wf.cell? ⟨g6, 1, none⟩ = some (.slice B1 y.f1.length d1) := (blk_cell HP6.out.2.1 1).trans rfl
                        have s2 : wf.cell? ⟨g6, 2, none⟩ = some (.slice B2 y.f2.length d2) := (blk_cell HP6.out.2.1 2).trans rfl
                        have s3 : wf.cell? ⟨g6, 3, none⟩ = some (.int .i64 y.f3) := (blk_cell HP6.out.2.1 3).trans rfl
                        exact bodyPost_ret (v := .tuple #[.agg #[.int .i64 y.f0, .slice B1 y.f1.length d1, .slice B2 y.f2.length d2, .int .i64 y.f3], .int .i64 i]) (by simp [results, Try.results112, go_sem, *]) rfl ⟨v3, E3, res3, y, _, _, _, _, _, rfl, HP6.out.1, HTZ.out, HGD.out⟩
                    · have k1 : (key.toList == ([] : List UInt8)) = false := by rw [beq_eq_false_iff_ne]; exact hke
                      have k2 : key.toList.isEmpty = false := by rw [List.isEmpty_eq_false_iff]; exact hke
                      have k3 : (key.toList != ([] : List UInt8)) = true := by rw [bne_iff_ne]; exact hke
                      clear hke
                      go_wp2_with fail
                      clear t2 t3 v1 v2 v3 y1 y2 x2 x3 i0 i1 i2 k1 k2 k3
                      refine (scope_any OK.out HN.out.m1 u.f0 at_ SC.out.pk _).mono ?_
                      rintro e w2 ⟨E2, hn, hcase⟩
                      have HN2 := Aside0.mk (HN.out.trans hn)
                      have K6c := Aside0.mk (hn.blk K6.out (by decide) (by decide))
                      have K11c := Aside0.mk (hn.blk K11.out (by decide) (by decide))
                      clear hn HN K4 K6 K11 yu0 yu1 yu2 b0 b1 b4
                      rcases hcase with ⟨rfl, hE⟩ | ⟨key2, at2, x, U2, cU2, D2, cD2, F2, cF2, b2, rfl, sc2, hF, hI⟩
                      · have HNn := Aside0.mk (HN2.out.below (below_alloc (below_alloc (Below.refl _ _) (.cells #[.string ⟨#[]⟩, .int .i64 0, .slice none 0 0, .slice none 0 0, .bool false] 160)) (.cells #[.string ⟨#[]⟩, .slice none 0 0, .slice none 0 0, .slice none 0 0] 142)))
                        have K6n := Aside0.mk (blk_alloc (blk_alloc K6c.out (.cells #[.string ⟨#[]⟩, .int .i64 0, .slice none 0 0, .slice none 0 0, .bool false] 160)) (.cells #[.string ⟨#[]⟩, .slice none 0 0, .slice none 0 0, .slice none 0 0] 142))
                        have HE := Aside0.mk hE
                        clear hE HN2 K6c K11c
                        have s0 : ((w2.alloc (.cells #[.string ⟨#[]⟩, .int .i64 0, .slice none 0 0, .slice none 0 0, .bool false] 160)).alloc (.cells #[.string ⟨#[]⟩, .slice none 0 0, .slice none 0 0, .slice none 0 0] 142)).cell? ⟨g6, 0, none⟩ = some (.int .i64 0) := (blk_cell K6n.out 0).trans rfl
                        have s1 : ((w2.alloc (.cells #[.string ⟨#[]⟩, .int .i64 0, .slice none 0 0, .slice none 0 0, .bool false] 160)).alloc (.cells #[.string ⟨#[]⟩, .slice none 0 0, .slice none 0 0, .slice none 0 0] 142)).cell? ⟨g6, 1, none⟩ = some (.slice none 0 0) := (blk_cell K6n.out 1).trans rfl
                        have s2 : ((w2.alloc (.cells #[.string ⟨#[]⟩, .int .i64 0, .slice none 0 0, .slice none 0 0, .bool false] 160)).alloc (.cells #[.string ⟨#[]⟩, .slice none 0 0, .slice none 0 0, .slice none 0 0] 142)).cell? ⟨g6, 2, none⟩ = some (.slice none 0 0) := (blk_cell K6n.out 2).trans rfl
                        have s3 : ((w2.alloc (.cells #[.string ⟨#[]⟩, .int .i64 0, .slice none 0 0, .slice none 0 0, .bool false] 160)).alloc (.cells #[.string ⟨#[]⟩, .slice none 0 0, .slice none 0 0, .slice none 0 0] 142)).cell? ⟨g6, 3, none⟩ = some (.int .i64 0) := (blk_cell K6n.out 3).trans rfl
                        have sf0 : ((w2.alloc (.cells #[.string ⟨#[]⟩, .int .i64 0, .slice none 0 0, .slice none 0 0, .bool false] 160)).alloc (.cells #[.string ⟨#[]⟩, .slice none 0 0, .slice none 0 0, .slice none 0 0] 142)).frozen? ⟨g6, 0, none⟩ = false := blk_frozen K6n.out 0
                        have sf1 : ((w2.alloc (.cells #[.string ⟨#[]⟩, .int .i64 0, .slice none 0 0, .slice none 0 0, .bool false] 160)).alloc (.cells #[.string ⟨#[]⟩, .slice none 0 0, .slice none 0 0, .slice none 0 0] 142)).frozen? ⟨g6, 1, none⟩ = false := blk_frozen K6n.out 1
                        have sf2 : ((w2.alloc (.cells #[.string ⟨#[]⟩, .int .i64 0, .slice none 0 0, .slice none 0 0, .bool false] 160)).alloc (.cells #[.string ⟨#[]⟩, .slice none 0 0, .slice none 0 0, .slice none 0 0] 142)).frozen? ⟨g6, 2, none⟩ = false := blk_frozen K6n.out 2
                        have sf3 : ((w2.alloc (.cells #[.string ⟨#[]⟩, .int .i64 0, .slice none 0 0, .slice none 0 0, .bool false] 160)).alloc (.cells #[.string ⟨#[]⟩, .slice none 0 0, .slice none 0 0, .slice none 0 0] 142)).frozen? ⟨g6, 3, none⟩ = false := blk_frozen K6n.out 3
                        have HP6 := Aside0.mk (HNn.out.put4 K6n.out (by decide) (by decide) (by have h1 := HG4.out; omega) (.int .i64 0) (.slice none 0 0) (.slice none 0 0) (.int .i64 0))
                        go_wp2_with fail
                        clear s0 s1 s2 s3 sf0 sf1 sf2 sf3
                        have HTZ : Aside0 (TV p ((((((w2.alloc (.cells #[.string ⟨#[]⟩, .int .i64 0, .slice none 0 0, .slice none 0 0, .bool false] 160)).alloc (.cells #[.string ⟨#[]⟩, .slice none 0 0, .slice none 0 0, .slice none 0 0] 142)).setCell ⟨g6, 0, none⟩ (.int .i64 0)).setCell ⟨g6, 1, none⟩ (.slice none 0 0)).setCell ⟨g6, 2, none⟩ (.slice none 0 0)).setCell ⟨g6, 3, none⟩ (.int .i64 0)) w.heap.size v PSubFits.z25 (.slice none 0 0) (.slice none 0 0)) := ⟨TV.zero _ _ _ _⟩
                        obtain ⟨wf, hwf⟩ : ∃ wf : World, wf = ((((((w2.alloc (.cells #[.string ⟨#[]⟩, .int .i64 0, .slice none 0 0, .slice none 0 0, .bool false] 160)).alloc (.cells #[.string ⟨#[]⟩, .slice none 0 0, .slice none 0 0, .slice none 0 0] 142)).setCell ⟨g6, 0, none⟩ (.int .i64 0)).setCell ⟨g6, 1, none⟩ (.slice none 0 0)).setCell ⟨g6, 2, none⟩ (.slice none 0 0)).setCell ⟨g6, 3, none⟩ (.int .i64 0)) := ⟨_, rfl⟩
                        rw [← hwf] at HP6 HTZ ⊢
                        clear hwf
                        have s0 : wf.cell? ⟨g6, 0, none⟩ = some (.int .i64 0) := (blk_cell HP6.out.2.1 0).trans rfl
                        have s1 : wf.cell? ⟨g6, 1, none⟩ = some (.slice none 0 0) := (blk_cell HP6.out.2.1 1).trans rfl
                        have s2 : wf.cell? ⟨g6, 2, none⟩ = some (.slice none 0 0) := (blk_cell HP6.out.2.1 2).trans rfl
                        have s3 : wf.cell? ⟨g6, 3, none⟩ = some (.int .i64 0) := (blk_cell HP6.out.2.1 3).trans rfl
                        exact bodyPost_ret (v := .tuple #[.agg #[.int .i64 0, .slice none 0 0, .slice none 0 0, .int .i64 0], .int .i64 (-1)]) (by simp [results, Try.results112, go_sem, *]) rfl ⟨v, E2, res, PSubFits.z25, _, _, _, _, _, rfl, HP6.out.1, HTZ.out, fun e => absurd e HE.out⟩
                      · have SC2 := Aside0.mk sc2
                        have HNd2 : Aside0 (Nx h p vi vo dp w v E res ((w2.alloc (.cells #[.string key2, .int .i64 (at2 : Int), .slice U2 x.f1.length cU2, .slice D2 x.f2.length cD2, .bool b2] 160)).alloc (.cells #[.string x.f0, .slice U2 x.f1.length cU2, .slice D2 x.f2.length cD2, .slice F2 x.f3.length cF2] 142)).drew v E2 res) := ⟨(HN2.out.below (below_alloc (below_alloc (Below.refl _ _) (.cells #[.string key2, .int .i64 (at2 : Int), .slice U2 x.f1.length cU2, .slice D2 x.f2.length cD2, .bool b2] 160)) (.cells #[.string x.f0, .slice U2 x.f1.length cU2, .slice D2 x.f2.length cD2, .slice F2 x.f3.length cF2] 142))).drewN 1⟩
                        have K14e : Aside0 (((w2.alloc (.cells #[.string key2, .int .i64 (at2 : Int), .slice U2 x.f1.length cU2, .slice D2 x.f2.length cD2, .bool b2] 160)).alloc (.cells #[.string x.f0, .slice U2 x.f1.length cU2, .slice D2 x.f2.length cD2, .slice F2 x.f3.length cF2] 142)).drew.heap[w2.heap.size]? = some (.cells #[.string key2, .int .i64 (at2 : Int), .slice U2 x.f1.length cU2, .slice D2 x.f2.length cD2, .bool b2] 160 (0, 0))) := ⟨blk_alloc (blk_new w2 (.cells #[.string key2, .int .i64 (at2 : Int), .slice U2 x.f1.length cU2, .slice D2 x.f2.length cD2, .bool b2] 160)) (.cells #[.string x.f0, .slice U2 x.f1.length cU2, .slice D2 x.f2.length cD2, .slice F2 x.f3.length cF2] 142)⟩
                        have K6e : Aside0 (((w2.alloc (.cells #[.string key2, .int .i64 (at2 : Int), .slice U2 x.f1.length cU2, .slice D2 x.f2.length cD2, .bool b2] 160)).alloc (.cells #[.string x.f0, .slice U2 x.f1.length cU2, .slice D2 x.f2.length cD2, .slice F2 x.f3.length cF2] 142)).drew.heap[g6]? = some (.cells #[.int .i64 0, .slice none 0 0, .slice none 0 0, .int .i64 0] 25 (0, 0))) := ⟨blk_alloc (blk_alloc K6c.out (.cells #[.string key2, .int .i64 (at2 : Int), .slice U2 x.f1.length cU2, .slice D2 x.f2.length cD2, .bool b2] 160)) (.cells #[.string x.f0, .slice U2 x.f1.length cU2, .slice D2 x.f2.length cD2, .slice F2 x.f3.length cF2] 142)⟩
                        have K11e : Aside0 (((w2.alloc (.cells #[.string key2, .int .i64 (at2 : Int), .slice U2 x.f1.length cU2, .slice D2 x.f2.length cD2, .bool b2] 160)).alloc (.cells #[.string x.f0, .slice U2 x.f1.length cU2, .slice D2 x.f2.length cD2, .slice F2 x.f3.length cF2] 142)).drew.heap[g11]? = some (.cells #[.string u.f0.f0, .string u.f0.f1, .string u.f0.f2, .slice (some ad3) u.f1.length c3, .slice A4 u.f2.length c4] 151 (0, 0))) := ⟨by have := blk_alloc (blk_alloc K11c.out (.cells #[.string key2, .int .i64 (at2 : Int), .slice U2 x.f1.length cU2, .slice D2 x.f2.length cD2, .bool b2] 160)) (.cells #[.string x.f0, .slice U2 x.f1.length cU2, .slice D2 x.f2.length cD2, .slice F2 x.f3.length cF2] 142); rw [HAE3.out] at this; exact this⟩
                        have HSD : Aside0 (g6 < w2.heap.size ∧ w2.heap.size ≤ ((w2.alloc (.cells #[.string key2, .int .i64 (at2 : Int), .slice U2 x.f1.length cU2, .slice D2 x.f2.length cD2, .bool b2] 160)).alloc (.cells #[.string x.f0, .slice U2 x.f1.length cU2, .slice D2 x.f2.length cD2, .slice F2 x.f3.length cF2] 142)).drew.heap.size) := ⟨blk_lt K6c.out, by show _ ≤ ((w2.alloc (.cells #[.string key2, .int .i64 (at2 : Int), .slice U2 x.f1.length cU2, .slice D2 x.f2.length cD2, .bool b2] 160)).alloc (.cells #[.string x.f0, .slice U2 x.f1.length cU2, .slice D2 x.f2.length cD2, .slice F2 x.f3.length cF2] 142)).heap.size; simp only [World.size_alloc]; omega⟩
                        have n146 : w2.heap.size ≠ g6 := by have := HSD.out; omega
                        have n116 : g11 ≠ g6 := HN116.out
                        clear sc2 hF hI HN2 K6c K11c
                        simp only [scV, ifV]
                        go_wp2_with fail
                        obtain ⟨wd, hwd⟩ : ∃ wd : World, wd = ((w2.alloc (.cells #[.string key2, .int .i64 (at2 : Int), .slice U2 x.f1.length cU2, .slice D2 x.f2.length cD2, .bool b2] 160)).alloc (.cells #[.string x.f0, .slice U2 x.f1.length cU2, .slice D2 x.f2.length cD2, .slice F2 x.f3.length cF2] 142)) := ⟨_, rfl⟩
                        rw [← hwd] at HNd2 K14e K6e K11e HSD ⊢
                        clear hwd
                        generalize w2.heap.size = g14 at *
                        have HSS : Aside0 (∀ w' : World, w'.heap[g14]? = some (.cells #[.string key2, .int .i64 (at2 : Int), .slice U2 x.f1.length cU2, .slice D2 x.f2.length cD2, .bool b2] 160 (0, 0)) → w'.heap[g11]? = some (.cells #[.string u.f0.f0, .string u.f0.f1, .string u.f0.f2, .slice (some ad3) u.f1.length c3, .slice A4 u.f2.length c4] 151 (0, 0)) → Below h.W0.heap.size h.W0 w' → w'.cell? ⟨g14, 0, none⟩ = some (.string key2) ∧ w'.cell? ⟨g14, 1, none⟩ = some (.int .i64 (at2 : Int)) ∧ w'.cell? ⟨g14, 2, none⟩ = some (.slice U2 x.f1.length cU2) ∧ w'.cell? ⟨g14, 3, none⟩ = some (.slice D2 x.f2.length cD2) ∧ w'.cell? ⟨g14, 4, none⟩ = some (.bool b2) ∧ w'.cell? ⟨g11, 3, none⟩ = some (.slice (some ad3) u.f1.length c3) ∧ w'.cell? (ad3.add l) = some (.string nm)) :=
                          ⟨fun w' h1 h2 h3 => ⟨(blk_cell h1 0).trans rfl, (blk_cell h1 1).trans rfl, (blk_cell h1 2).trans rfl, (blk_cell h1 3).trans rfl, (blk_cell h1 4).trans rfl, (blk_cell h2 3).trans rfl, HX3.out w' h3⟩⟩
                        go_region_held3 (fun w' => w'.cell? ⟨g14, 0, none⟩ = some (.string key2) ∧ w'.cell? ⟨g14, 1, none⟩ = some (.int .i64 (at2 : Int)) ∧ w'.cell? ⟨g14, 2, none⟩ = some (.slice U2 x.f1.length cU2) ∧ w'.cell? ⟨g14, 3, none⟩ = some (.slice D2 x.f2.length cD2) ∧ w'.cell? ⟨g14, 4, none⟩ = some (.bool b2) ∧ w'.cell? ⟨g11, 3, none⟩ = some (.slice (some ad3) u.f1.length c3) ∧ w'.cell? (ad3.add l) = some (.string nm))
                          (first
                            | with_reducible exact HSS.out _ K14e.out K11e.out HNd2.out.bl
                            | with_reducible exact HSS.out _ K14c.out K11c.out HN3.out.bl
                            | with_reducible exact HSS.out _ ((HP6.out.2.2 g14 n146).trans K14c.out) ((HP6.out.2.2 g11 n116).trans K11c.out) HP6.out.1.bl)
                          ((go_at_call 111; refine (HNC.out p _ v vi vo E2 res ?hm key2 at2 x.f1 U2 cU2 x.f2 D2 cD2 b2 SC2.out nm).mono ?_; (case hm => with_reducible exact HNd2.out.m1); rintro e w3 ⟨v3, E3, res3, y, B1, d1, B2, d2, i, rfl, hn, htv, hgd⟩; have HN3 := Aside0.mk (Nx.trans HNd2.out hn); have K14c := Aside0.mk (hn.blk K14e.out (by decide) (by decide)); have K11c := Aside0.mk (hn.blk K11e.out (by decide) (by decide)); have K6c := Aside0.mk (hn.blk K6e.out (by decide) (by decide)); have HP6 := Aside0.mk (HN3.out.put4 K6c.out (by decide) (by decide) (by have h1 := HG4.out; omega) (.int .i64 y.f0) (.slice B1 y.f1.length d1) (.slice B2 y.f2.length d2) (.int .i64 y.f3)); have s0 : w3.cell? ⟨g6, 0, none⟩ = some (.int .i64 0) := (blk_cell K6c.out 0).trans rfl; have s1 : w3.cell? ⟨g6, 1, none⟩ = some (.slice none 0 0) := (blk_cell K6c.out 1).trans rfl; have s2 : w3.cell? ⟨g6, 2, none⟩ = some (.slice none 0 0) := (blk_cell K6c.out 2).trans rfl; have s3 : w3.cell? ⟨g6, 3, none⟩ = some (.int .i64 0) := (blk_cell K6c.out 3).trans rfl; have sf0 : w3.frozen? ⟨g6, 0, none⟩ = false := blk_frozen K6c.out 0; have sf1 : w3.frozen? ⟨g6, 1, none⟩ = false := blk_frozen K6c.out 1; have sf2 : w3.frozen? ⟨g6, 2, none⟩ = false := blk_frozen K6c.out 2; have sf3 : w3.frozen? ⟨g6, 3, none⟩ = false := blk_frozen K6c.out 3; have HTV := Aside0.mk htv; have HGD := Aside0.mk hgd; clear hn htv hgd))
                        clear s0 s1 s2 s3 sf0 sf1 sf2 sf3
                        go_wp2_with fail
                        have HTZ : Aside0 (TV p ((((w3.setCell ⟨g6, 0, none⟩ (.int .i64 y.f0)).setCell ⟨g6, 1, none⟩ (.slice B1 y.f1.length d1)).setCell ⟨g6, 2, none⟩ (.slice B2 y.f2.length d2)).setCell ⟨g6, 3, none⟩ (.int .i64 y.f3)) w.heap.size v3 y (.slice B1 y.f1.length d1) (.slice B2 y.f2.length d2)) := ⟨TV.lower (base := wd.drew.heap.size) (by (repeat refine TV.set ?_ (by have := HSD.out; omega) _ _); exact HTV.out) (by have := HSD.out; have h1 := HG4.out; omega)⟩
                        obtain ⟨wf, hwf⟩ : ∃ wf : World, wf = ((((w3.setCell ⟨g6, 0, none⟩ (.int .i64 y.f0)).setCell ⟨g6, 1, none⟩ (.slice B1 y.f1.length d1)).setCell ⟨g6, 2, none⟩ (.slice B2 y.f2.length d2)).setCell ⟨g6, 3, none⟩ (.int .i64 y.f3)) := ⟨_, rfl⟩
                        rw [← hwf] at HP6 HTZ ⊢
                        clear hwf
                        have s0 : wf.cell? ⟨g6, 0, none⟩ = some (.int .i64 y.f0) := (blk_cell HP6.out.2.1 0).trans rfl
                        have s1 : wf.cell? ⟨g6, 1, none⟩ = some (.slice B1 y.f1.length d1) := (blk_cell HP6.out.2.1 1).trans rfl
                        have s2 : wf.cell? ⟨g6, 2, none⟩ = some (.slice B2 y.f2.length d2) := (blk_cell HP6.out.2.1 2).trans rfl
                        have s3 : wf.cell? ⟨g6, 3, none⟩ = some (.int .i64 y.f3) := (blk_cell HP6.out.2.1 3).trans rfl
                        exact bodyPost_ret (v := .tuple #[.agg #[.int .i64 y.f0, .slice B1 y.f1.length d1, .slice B2 y.f2.length d2, .int .i64 y.f3], .int .i64 i]) (by simp [results, Try.results112, go_sem, *]) rfl ⟨v3, E3, res3, y, _, _, _, _, _, rfl, HP6.out.1, HTZ.out, HGD.out⟩
                · have t2 : (a.toList == n.toList) = false := beq_eq_false_iff_ne.mpr hn
                  have t3 : (a.toList != n.toList) = true := bne_iff_ne.mpr hn
                  clear hn
                  go_wp2_with fail
                  go_roundw
                  case rel => exact ⟨l + 1, by omega, by go_num, HN, K4, K6, K11⟩
                  case measure => simp [intOf]; omega
            · obtain rfl : l = u.f1.length := by omega
              go_wp2_with fail
              go_roundw
              case rel => exact ⟨j + 1, by omega, by go_num, HN, K4, K6⟩
              case measure => simp [intOf]; omega
        · obtain rfl : j = us.length := by omega
          go_wp2_with fail
          clear b2
          refine (fault_any HN.out.m1 _ 11 (by decide)).mono ?_
          rintro e w2 ⟨rfl, E2, hE, hn⟩
          have HN2 := Aside0.mk (HN.out.trans hn)
          have K6c := Aside0.mk (hn.blk K6.out (by decide) (by decide))
          have HE : Aside0 (E2 ≠ 0) := ⟨fun e => by cases hE e⟩
          clear hn hE HN K4 K6
          have s0 : w2.cell? ⟨g6, 0, none⟩ = some (.int .i64 0) := (blk_cell K6c.out 0).trans rfl
          have s1 : w2.cell? ⟨g6, 1, none⟩ = some (.slice none 0 0) := (blk_cell K6c.out 1).trans rfl
          have s2 : w2.cell? ⟨g6, 2, none⟩ = some (.slice none 0 0) := (blk_cell K6c.out 2).trans rfl
          have s3 : w2.cell? ⟨g6, 3, none⟩ = some (.int .i64 0) := (blk_cell K6c.out 3).trans rfl
          have sf0 : w2.frozen? ⟨g6, 0, none⟩ = false := blk_frozen K6c.out 0
          have sf1 : w2.frozen? ⟨g6, 1, none⟩ = false := blk_frozen K6c.out 1
          have sf2 : w2.frozen? ⟨g6, 2, none⟩ = false := blk_frozen K6c.out 2
          have sf3 : w2.frozen? ⟨g6, 3, none⟩ = false := blk_frozen K6c.out 3
          have HP6 := Aside0.mk (HN2.out.put4 K6c.out (by decide) (by decide) (by have h1 := HG4.out; omega) (.int .i64 0) (.slice none 0 0) (.slice none 0 0) (.int .i64 0))
          go_wp2_with fail
          clear s0 s1 s2 s3 sf0 sf1 sf2 sf3
          have HTZ : Aside0 (TV p ((((w2.setCell ⟨g6, 0, none⟩ (.int .i64 0)).setCell ⟨g6, 1, none⟩ (.slice none 0 0)).setCell ⟨g6, 2, none⟩ (.slice none 0 0)).setCell ⟨g6, 3, none⟩ (.int .i64 0)) w.heap.size v PSubFits.z25 (.slice none 0 0) (.slice none 0 0)) := ⟨TV.zero _ _ _ _⟩
          obtain ⟨wf, hwf⟩ : ∃ wf : World, wf = ((((w2.setCell ⟨g6, 0, none⟩ (.int .i64 0)).setCell ⟨g6, 1, none⟩ (.slice none 0 0)).setCell ⟨g6, 2, none⟩ (.slice none 0 0)).setCell ⟨g6, 3, none⟩ (.int .i64 0)) := ⟨_, rfl⟩
          rw [← hwf] at HP6 HTZ ⊢
          clear hwf
          have s0 : wf.cell? ⟨g6, 0, none⟩ = some (.int .i64 0) := (blk_cell HP6.out.2.1 0).trans rfl
          have s1 : wf.cell? ⟨g6, 1, none⟩ = some (.slice none 0 0) := (blk_cell HP6.out.2.1 1).trans rfl
          have s2 : wf.cell? ⟨g6, 2, none⟩ = some (.slice none 0 0) := (blk_cell HP6.out.2.1 2).trans rfl
          have s3 : wf.cell? ⟨g6, 3, none⟩ = some (.int .i64 0) := (blk_cell HP6.out.2.1 3).trans rfl
          exact bodyPost_ret (v := .tuple #[.agg #[.int .i64 0, .slice none 0 0, .slice none 0 0, .int .i64 0], .int .i64 (-1)]) (by simp [results, Try.results112, go_sem, *]) rfl ⟨v, E2, res, PSubFits.z25, _, _, _, _, _, rfl, HP6.out.1, HTZ.out, fun e => absurd e HE.out⟩
theorem name_all {h : Hd} (ok : h.Ok) : ∀ (k dp : Nat), dp ≤ 64 → 64 - dp ≤ k → NameC h dp := by
  intro k
  induction k with
  | zero => exact fun dp hdp hk => name_any2 ok dp hdp (fun hlt => by omega)
  | succ k ih => exact fun dp hdp hk => name_any2 ok dp hdp (fun hlt => stands_any ok (dp + 1) (ih (dp + 1) (by omega) (by omega)) (fun t => type_any ok (dp + 1) (ih (dp + 1) (by omega) (by omega)) t))
theorem type_zero {h : Hd} (ok : h.Ok) (t : S25) : TypeC h 0 t := type_any ok 0 (name_all ok 64 0 (by omega) (by omega)) t
end Go.Proofs.Ytmpmcffhlnlejaa.Mkr
end
