/- A part of the proof of the law that its last file names: texts of this seat's author and of the kit's printer, cut to what the theorem uses. Part 12: Mk4. -/
import Derived.Test.YtmpmcffhlnlejaaCs11
section
namespace Go.Proofs.Ytmpmcffhlnlejaa.Mkr
open Go.RowKit Go.Proofs.YtmpmcffhlnlejaaW.PrintWords Go.Proofs.YtmpmcffhlnlejaaW.PrintLast Go.Proofs.YtmpmcffhlnlejaaW.PrintMore
open Go.Proofs.Ytmpmcffhlnlejaa.PSubSelf Go.Proofs.Ytmpmcffhlnlejaa.Wld
set_option linter.unusedVariables false
set_option linter.unusedSimpArgs false
set_option maxHeartbeats 8000000 in
set_option maxRecDepth 100000 in
theorem scope_any {h : Hd} (ok : h.Ok) {p : Nat} {w : World} {v vi vo : Value} {dp : Nat} {E : Int} {res : List ByteArray} (m : ∃ sz, Mk h p w v vi vo dp sz E res)
    (q : S149) (from_ : Nat) (hfrom : from_ < h.P.length) (out : Bool) :
    Calls Try.prog 93 #[.pointer (some ⟨p, 0, none⟩), .agg #[.string q.f0, .string q.f1, .string q.f2], .int .i64 (from_ : Int), .bool out] w (ScopeOk h p vi vo dp w v E res) := by
  have M := Aside0.mk m
  have OK := Aside0.mk ok
  have HFR := Aside0.mk hfrom
  clear m ok hfrom
  go_enter Try.func93, Try.ntmps93
  go_wp2_with fail
  obtain ⟨wb, hwb⟩ : ∃ wb : World, wb = (((w.alloc (.cells #[.string q.f0, .string q.f1, .string q.f2] 149)).alloc (.cells #[.string ⟨#[]⟩, .int .i64 0, .slice none 0 0, .slice none 0 0, .bool false] 160)).alloc (.cells #[.string ⟨#[]⟩, .slice none 0 0, .slice none 0 0, .slice none 0 0] 142)) := ⟨_, rfl⟩
  have K5 : Aside0 (wb.heap[w.heap.size]? = some (.cells #[.string q.f0, .string q.f1, .string q.f2] 149 (0, 0))) := ⟨by rw [hwb]; exact blk_alloc (blk_alloc (blk_new w _) _) _⟩
  have K8 : Aside0 (wb.heap[w.heap.size + 1]? = some (.cells #[.string ⟨#[]⟩, .int .i64 0, .slice none 0 0, .slice none 0 0, .bool false] 160 (0, 0))) := ⟨by rw [hwb]; have := blk_alloc (blk_new (w.alloc (.cells #[.string q.f0, .string q.f1, .string q.f2] 149)) (.cells #[.string ⟨#[]⟩, .int .i64 0, .slice none 0 0, .slice none 0 0, .bool false] 160)) (.cells #[.string ⟨#[]⟩, .slice none 0 0, .slice none 0 0, .slice none 0 0] 142); simp only [World.size_alloc] at this; exact this⟩
  have K9 : Aside0 (wb.heap[w.heap.size + 1 + 1]? = some (.cells #[.string ⟨#[]⟩, .slice none 0 0, .slice none 0 0, .slice none 0 0] 142 (0, 0))) := ⟨by rw [hwb]; have := blk_new ((w.alloc (.cells #[.string q.f0, .string q.f1, .string q.f2] 149)).alloc (.cells #[.string ⟨#[]⟩, .int .i64 0, .slice none 0 0, .slice none 0 0, .bool false] 160)) (.cells #[.string ⟨#[]⟩, .slice none 0 0, .slice none 0 0, .slice none 0 0] 142); simp only [World.size_alloc] at this; exact this⟩
  have HN : Aside0 (Nx h p vi vo dp w v E res wb v E res) := ⟨by rw [hwb]; obtain ⟨sz, m⟩ := M.out; exact (Nx.refl m).below (below_alloc (below_alloc (below_alloc (Below.refl _ _) _) _) _)⟩
  have HG : Aside0 (w.heap.size ≤ w.heap.size + 1 ∧ w.heap.size ≤ w.heap.size + 1 + 1) := ⟨by omega, by omega⟩
  rw [← hwb]
  clear hwb M
  generalize w.heap.size + 1 + 1 = g9 at *
  generalize w.heap.size + 1 = g8 at *
  generalize hg5 : w.heap.size = g5 at *
  have HG5 := Aside0.mk hg5
  clear hg5
  refine (place_any OK.out HN.out.m1 q from_ HFR.out).mono ?_
  rintro e w1 ⟨⟨i, rfl, hi⟩, hb⟩
  have HN1 := Aside0.mk (HN.out.below hb)
  have K5a := Aside0.mk (blk_below K5.out hb)
  have K8a := Aside0.mk (blk_below K8.out hb)
  have K9a := Aside0.mk (blk_below K9.out hb)
  clear HN K5 K8 K9 hb
  have q0 : w1.cell? ⟨g5, 0, none⟩ = some (.string q.f0) := (blk_cell K5a.out 0).trans rfl
  have q1 : w1.cell? ⟨g5, 1, none⟩ = some (.string q.f1) := (blk_cell K5a.out 1).trans rfl
  have q2 : w1.cell? ⟨g5, 2, none⟩ = some (.string q.f2) := (blk_cell K5a.out 2).trans rfl
  rcases hi with rfl | ⟨a, rfl, ha⟩
  · go_wp2_with fail
    refine (find_no q.f2 (h := h)).mono ?_
    rintro e w2 ⟨rfl, rfl⟩
    have HN2 := HN1
    have K8b := K8a
    have K9b := K9a
    clear q0 q1 q2
    go_wp2_with fail
    refine (fault_any HN2.out.m1 true 11 (by decide)).mono ?_
    rintro e w4 ⟨rfl, E2, hE, hn⟩
    have HN3 := Aside0.mk (HN2.out.trans hn)
    have HE := Aside0.mk hE
    have J8 := Aside0.mk (hn.blk K8b.out (by decide) (by decide))
    have J9 := Aside0.mk (hn.blk K9b.out (by decide) (by decide))
    clear hn hE
    have r0 : w4.cell? ⟨g8, 0, none⟩ = some (.string ⟨#[]⟩) := (blk_cell J8.out 0).trans rfl
    have r1 : w4.cell? ⟨g8, 1, none⟩ = some (.int .i64 0) := (blk_cell J8.out 1).trans rfl
    have r2 : w4.cell? ⟨g8, 2, none⟩ = some (.slice none 0 0) := (blk_cell J8.out 2).trans rfl
    have r3 : w4.cell? ⟨g8, 3, none⟩ = some (.slice none 0 0) := (blk_cell J8.out 3).trans rfl
    have r4 : w4.cell? ⟨g8, 4, none⟩ = some (.bool false) := (blk_cell J8.out 4).trans rfl
    have rf0 : w4.frozen? ⟨g8, 0, none⟩ = false := blk_frozen J8.out 0
    have rf1 : w4.frozen? ⟨g8, 1, none⟩ = false := blk_frozen J8.out 1
    have rf2 : w4.frozen? ⟨g8, 2, none⟩ = false := blk_frozen J8.out 2
    have rf3 : w4.frozen? ⟨g8, 3, none⟩ = false := blk_frozen J8.out 3
    have rf4 : w4.frozen? ⟨g8, 4, none⟩ = false := blk_frozen J8.out 4
    have s0 : w4.cell? ⟨g9, 0, none⟩ = some (.string ⟨#[]⟩) := (blk_cell J9.out 0).trans rfl
    have s1 : w4.cell? ⟨g9, 1, none⟩ = some (.slice none 0 0) := (blk_cell J9.out 1).trans rfl
    have s2 : w4.cell? ⟨g9, 2, none⟩ = some (.slice none 0 0) := (blk_cell J9.out 2).trans rfl
    have s3 : w4.cell? ⟨g9, 3, none⟩ = some (.slice none 0 0) := (blk_cell J9.out 3).trans rfl
    have sf0 : w4.frozen? ⟨g9, 0, none⟩ = false := blk_frozen J9.out 0
    have sf1 : w4.frozen? ⟨g9, 1, none⟩ = false := blk_frozen J9.out 1
    have sf2 : w4.frozen? ⟨g9, 2, none⟩ = false := blk_frozen J9.out 2
    have sf3 : w4.frozen? ⟨g9, 3, none⟩ = false := blk_frozen J9.out 3
    have hne := blk_ne J8.out J9.out (by decide)
    have hne2 := hne.symm
    have HP8 := Aside0.mk (HN3.out.put5 J8.out (by decide) (by decide) (by rw [HG5.out]; exact HG.out.1) (.string ⟨#[]⟩) (.int .i64 0) (.slice none 0 0) (.slice none 0 0) (.bool false))
    have HP9 := Aside0.mk (HP8.out.1.put4 ((HP8.out.2.2 g9 hne2).trans J9.out) (by decide) (by decide) (by rw [HG5.out]; exact HG.out.2) (.string ⟨#[]⟩) (.slice none 0 0) (.slice none 0 0) (.slice none 0 0))
    have HQ8 := Aside0.mk ((HP9.out.2.2 g8 hne).trans HP8.out.2.1)
    go_wp2_with fail
    clear r0 rf0 r1 rf1 r2 rf2 r3 rf3 r4 rf4
    clear s0 sf0 s1 sf1 s2 sf2 s3 sf3
    obtain ⟨wf, hwf⟩ : ∃ wf : World, wf = (((((((((w4.setCell ⟨g8, 0, none⟩ (.string ⟨#[]⟩)).setCell ⟨g8, 1, none⟩ (.int .i64 0)).setCell ⟨g8, 2, none⟩ (.slice none 0 0)).setCell ⟨g8, 3, none⟩ (.slice none 0 0)).setCell ⟨g8, 4, none⟩ (.bool false)).setCell ⟨g9, 0, none⟩ (.string ⟨#[]⟩)).setCell ⟨g9, 1, none⟩ (.slice none 0 0)).setCell ⟨g9, 2, none⟩ (.slice none 0 0)).setCell ⟨g9, 3, none⟩ (.slice none 0 0)) := ⟨_, rfl⟩
    rw [← hwf] at HP9 HQ8 ⊢
    clear hwf HP8
    have r0 : wf.cell? ⟨g8, 0, none⟩ = some (.string ⟨#[]⟩) := (blk_cell HQ8.out 0).trans rfl
    have r1 : wf.cell? ⟨g8, 1, none⟩ = some (.int .i64 0) := (blk_cell HQ8.out 1).trans rfl
    have r2 : wf.cell? ⟨g8, 2, none⟩ = some (.slice none 0 0) := (blk_cell HQ8.out 2).trans rfl
    have r3 : wf.cell? ⟨g8, 3, none⟩ = some (.slice none 0 0) := (blk_cell HQ8.out 3).trans rfl
    have r4 : wf.cell? ⟨g8, 4, none⟩ = some (.bool false) := (blk_cell HQ8.out 4).trans rfl
    have s0 : wf.cell? ⟨g9, 0, none⟩ = some (.string ⟨#[]⟩) := (blk_cell HP9.out.2.1 0).trans rfl
    have s1 : wf.cell? ⟨g9, 1, none⟩ = some (.slice none 0 0) := (blk_cell HP9.out.2.1 1).trans rfl
    have s2 : wf.cell? ⟨g9, 2, none⟩ = some (.slice none 0 0) := (blk_cell HP9.out.2.1 2).trans rfl
    have s3 : wf.cell? ⟨g9, 3, none⟩ = some (.slice none 0 0) := (blk_cell HP9.out.2.1 3).trans rfl
    exact bodyPost_ret (v := .tuple #[.agg #[.string ⟨#[]⟩, .int .i64 0, .slice none 0 0, .slice none 0 0, .bool false], .agg #[.string ⟨#[]⟩, .slice none 0 0, .slice none 0 0, .slice none 0 0], .bool false]) (by simp [results, Try.results93, go_sem, *]) rfl ⟨E2, HP9.out.1, .inl ⟨rfl, fun h => by cases HE.out h⟩⟩
  · go_wp2_with fail
    refine (find_any OK.out HN1.out.m1 a ha q.f2).mono ?_
    rintro e w2 ⟨⟨i, rfl, hi⟩, hb⟩
    have HN2 := Aside0.mk (HN1.out.below hb)
    have K8b := Aside0.mk (blk_below K8a.out hb)
    have K9b := Aside0.mk (blk_below K9a.out hb)
    clear HN1 K5a K8a K9a hb
    clear q0 q1 q2
    rcases hi with rfl | ⟨k, rfl, hk⟩
    · go_wp2_with fail
      refine (fault_any HN2.out.m1 true 11 (by decide)).mono ?_
      rintro e w4 ⟨rfl, E2, hE, hn⟩
      have HN3 := Aside0.mk (HN2.out.trans hn)
      have HE := Aside0.mk hE
      have J8 := Aside0.mk (hn.blk K8b.out (by decide) (by decide))
      have J9 := Aside0.mk (hn.blk K9b.out (by decide) (by decide))
      clear hn hE
      have r0 : w4.cell? ⟨g8, 0, none⟩ = some (.string ⟨#[]⟩) := (blk_cell J8.out 0).trans rfl
      have r1 : w4.cell? ⟨g8, 1, none⟩ = some (.int .i64 0) := (blk_cell J8.out 1).trans rfl
      have r2 : w4.cell? ⟨g8, 2, none⟩ = some (.slice none 0 0) := (blk_cell J8.out 2).trans rfl
      have r3 : w4.cell? ⟨g8, 3, none⟩ = some (.slice none 0 0) := (blk_cell J8.out 3).trans rfl
      have r4 : w4.cell? ⟨g8, 4, none⟩ = some (.bool false) := (blk_cell J8.out 4).trans rfl
      have rf0 : w4.frozen? ⟨g8, 0, none⟩ = false := blk_frozen J8.out 0
      have rf1 : w4.frozen? ⟨g8, 1, none⟩ = false := blk_frozen J8.out 1
      have rf2 : w4.frozen? ⟨g8, 2, none⟩ = false := blk_frozen J8.out 2
      have rf3 : w4.frozen? ⟨g8, 3, none⟩ = false := blk_frozen J8.out 3
      have rf4 : w4.frozen? ⟨g8, 4, none⟩ = false := blk_frozen J8.out 4
      have s0 : w4.cell? ⟨g9, 0, none⟩ = some (.string ⟨#[]⟩) := (blk_cell J9.out 0).trans rfl
      have s1 : w4.cell? ⟨g9, 1, none⟩ = some (.slice none 0 0) := (blk_cell J9.out 1).trans rfl
      have s2 : w4.cell? ⟨g9, 2, none⟩ = some (.slice none 0 0) := (blk_cell J9.out 2).trans rfl
      have s3 : w4.cell? ⟨g9, 3, none⟩ = some (.slice none 0 0) := (blk_cell J9.out 3).trans rfl
      have sf0 : w4.frozen? ⟨g9, 0, none⟩ = false := blk_frozen J9.out 0
      have sf1 : w4.frozen? ⟨g9, 1, none⟩ = false := blk_frozen J9.out 1
      have sf2 : w4.frozen? ⟨g9, 2, none⟩ = false := blk_frozen J9.out 2
      have sf3 : w4.frozen? ⟨g9, 3, none⟩ = false := blk_frozen J9.out 3
      have hne := blk_ne J8.out J9.out (by decide)
      have hne2 := hne.symm
      have HP8 := Aside0.mk (HN3.out.put5 J8.out (by decide) (by decide) (by rw [HG5.out]; exact HG.out.1) (.string ⟨#[]⟩) (.int .i64 0) (.slice none 0 0) (.slice none 0 0) (.bool false))
      have HP9 := Aside0.mk (HP8.out.1.put4 ((HP8.out.2.2 g9 hne2).trans J9.out) (by decide) (by decide) (by rw [HG5.out]; exact HG.out.2) (.string ⟨#[]⟩) (.slice none 0 0) (.slice none 0 0) (.slice none 0 0))
      have HQ8 := Aside0.mk ((HP9.out.2.2 g8 hne).trans HP8.out.2.1)
      go_wp2_with fail
      clear r0 rf0 r1 rf1 r2 rf2 r3 rf3 r4 rf4
      clear s0 sf0 s1 sf1 s2 sf2 s3 sf3
      obtain ⟨wf, hwf⟩ : ∃ wf : World, wf = (((((((((w4.setCell ⟨g8, 0, none⟩ (.string ⟨#[]⟩)).setCell ⟨g8, 1, none⟩ (.int .i64 0)).setCell ⟨g8, 2, none⟩ (.slice none 0 0)).setCell ⟨g8, 3, none⟩ (.slice none 0 0)).setCell ⟨g8, 4, none⟩ (.bool false)).setCell ⟨g9, 0, none⟩ (.string ⟨#[]⟩)).setCell ⟨g9, 1, none⟩ (.slice none 0 0)).setCell ⟨g9, 2, none⟩ (.slice none 0 0)).setCell ⟨g9, 3, none⟩ (.slice none 0 0)) := ⟨_, rfl⟩
      rw [← hwf] at HP9 HQ8 ⊢
      clear hwf HP8
      have r0 : wf.cell? ⟨g8, 0, none⟩ = some (.string ⟨#[]⟩) := (blk_cell HQ8.out 0).trans rfl
      have r1 : wf.cell? ⟨g8, 1, none⟩ = some (.int .i64 0) := (blk_cell HQ8.out 1).trans rfl
      have r2 : wf.cell? ⟨g8, 2, none⟩ = some (.slice none 0 0) := (blk_cell HQ8.out 2).trans rfl
      have r3 : wf.cell? ⟨g8, 3, none⟩ = some (.slice none 0 0) := (blk_cell HQ8.out 3).trans rfl
      have r4 : wf.cell? ⟨g8, 4, none⟩ = some (.bool false) := (blk_cell HQ8.out 4).trans rfl
      have s0 : wf.cell? ⟨g9, 0, none⟩ = some (.string ⟨#[]⟩) := (blk_cell HP9.out.2.1 0).trans rfl
      have s1 : wf.cell? ⟨g9, 1, none⟩ = some (.slice none 0 0) := (blk_cell HP9.out.2.1 1).trans rfl
      have s2 : wf.cell? ⟨g9, 2, none⟩ = some (.slice none 0 0) := (blk_cell HP9.out.2.1 2).trans rfl
      have s3 : wf.cell? ⟨g9, 3, none⟩ = some (.slice none 0 0) := (blk_cell HP9.out.2.1 3).trans rfl
      exact bodyPost_ret (v := .tuple #[.agg #[.string ⟨#[]⟩, .int .i64 0, .slice none 0 0, .slice none 0 0, .bool false], .agg #[.string ⟨#[]⟩, .slice none 0 0, .slice none 0 0, .slice none 0 0], .bool false]) (by simp [results, Try.results93, go_sem, *]) rfl ⟨E2, HP9.out.1, .inl ⟨rfl, fun h => by cases HE.out h⟩⟩
    · have i2 : decide ((k : Int) < 0) = false := decide_eq_false (by omega)
      have i3 : (0 : Int) ≤ (k : Int) := by omega
      have i5 : (0 : Int) ≤ (a : Int) := by omega
      have i6 : (a : Int) < (h.P.length : Int) := by omega
      have hn5 := OK.out.n5
      obtain ⟨ad, A3, c3, A4, c4, hae, hx, l1, g1, l2, g2⟩ := el120 OK.out.hP ha
      have HX := Aside0.mk hx
      have HRP := Aside0.mk (OK.out.right h.P[a] (List.getElem_mem ha))
      have hil := HRP.out.il
      obtain ⟨ad2, B1, d1, B2, d2, B3, d3, hae2, hy, m1, e1, m2, e2, m3, e3⟩ := el142 g1 hk
      have HYX := Aside0.mk hy
      have HRI := Aside0.mk (HRP.out.is h.P[a].f3[k] (List.getElem_mem hk))
      have HTI := Aside0.mk (OK.out.ti h.P[a] (List.getElem_mem ha) h.P[a].f3[k] (List.getElem_mem hk))
      have hkl : (k : Int) < (h.P[a].f3.length : Int) := by omega
      have E1 := Aside0.mk e1
      have E2 := Aside0.mk e2
      have E3 := Aside0.mk e3
      have HAE := Aside0.mk hae
      cases hae2
      clear hx hy l1 g1 l2 g2 m1 e1 m2 e2 m3 e3 hae
      generalize h.P[a].f3[k] = x at *
      generalize h.P[a] = y at *
      clear hk
      have HA := Aside0.mk ha
      clear ha
      obtain ⟨sz2, mm2⟩ := HN2.out.m1
      have z0 := mm2.z0
      rw [HAE.out] at z0
      obtain ⟨x0, x1, x2, x3, x4⟩ := HX.out w2 mm2.bl
      obtain ⟨y0, y1, y2, y3⟩ := HYX.out w2 mm2.bl
      clear mm2
      go_wp2_with fail
      clear x0 x1 x2 x3 x4 y0 y1 y2 y3 z0 i2 i3 hkl
      obtain ⟨wc, hwc⟩ : ∃ wc : World, wc = (w2.alloc (.cells #[.string x.f0, .slice B1 x.f1.length d1, .slice B2 x.f2.length d2, .slice B3 x.f3.length d3] 142)) := ⟨_, rfl⟩
      have HN3 : Aside0 (Nx h p vi vo dp w v E res wc v E res) := ⟨by rw [hwc]; exact HN2.out.below (below_alloc (Below.refl _ _) _)⟩
      have K8c : Aside0 (wc.heap[g8]? = some (.cells #[.string ⟨#[]⟩, .int .i64 0, .slice none 0 0, .slice none 0 0, .bool false] 160 (0, 0))) := ⟨by rw [hwc]; exact blk_alloc K8b.out _⟩
      have K9c : Aside0 (wc.heap[g9]? = some (.cells #[.string ⟨#[]⟩, .slice none 0 0, .slice none 0 0, .slice none 0 0] 142 (0, 0))) := ⟨by rw [hwc]; exact blk_alloc K9b.out _⟩
      have K13 : Aside0 (wc.heap[w2.heap.size]? = some (.cells #[.string x.f0, .slice B1 x.f1.length d1, .slice B2 x.f2.length d2, .slice B3 x.f3.length d3] 142 (0, 0))) := ⟨by rw [hwc]; exact blk_new w2 _⟩
      have HG13 : Aside0 (g5 ≤ w2.heap.size ∧ g8 < w2.heap.size ∧ g9 < w2.heap.size) := ⟨by rw [← HG5.out]; exact ⟨HN2.out.go.keep.1, blk_lt K8b.out, blk_lt K9b.out⟩⟩
      rw [← hwc]
      clear hwc HN2 K8b K9b
      generalize w2.heap.size = g13 at *
      obtain ⟨sz3, mm3⟩ := HN3.out.m1
      have z0 := mm3.z0
      rw [HAE.out] at z0
      obtain ⟨x0, x1, x2, x3, x4⟩ := HX.out wc mm3.bl
      clear mm3
      have u0 : wc.cell? ⟨g13, 0, none⟩ = some (.string x.f0) := (blk_cell K13.out 0).trans rfl
      have u1 : wc.cell? ⟨g13, 1, none⟩ = some (.slice B1 x.f1.length d1) := (blk_cell K13.out 1).trans rfl
      have u2 : wc.cell? ⟨g13, 2, none⟩ = some (.slice B2 x.f2.length d2) := (blk_cell K13.out 2).trans rfl
      have u3 : wc.cell? ⟨g13, 3, none⟩ = some (.slice B3 x.f3.length d3) := (blk_cell K13.out 3).trans rfl
      have s58 : (⟨#[58]⟩ : ByteArray).size = 1 := rfl
      have s47 : (⟨#[47]⟩ : ByteArray).size = 1 := rfl
      have s64 : (⟨#[64]⟩ : ByteArray).size = 1 := rfl
      have n1 := HRP.out.sp
      have n2 := HRP.out.nm
      have n3 := HRP.out.ve
      have n4 := HRI.out.nm
      have s1 : y.f0.size + 1 ≤ 9223372036854775807 := by omega
      have s2 : (y.f0 ++ (⟨#[58]⟩ : ByteArray)).size + y.f1.size ≤ 9223372036854775807 := by rw [ByteArray.size_append, s58]; omega
      have s3 : (y.f0 ++ (⟨#[58]⟩ : ByteArray) ++ y.f1).size + 1 ≤ 9223372036854775807 := by simp only [ByteArray.size_append, s58]; omega
      have s4 : (y.f0 ++ (⟨#[58]⟩ : ByteArray) ++ y.f1 ++ (⟨#[47]⟩ : ByteArray)).size + x.f0.size ≤ 9223372036854775807 := by simp only [ByteArray.size_append, s58, s47]; omega
      have s5 : (keyA y x).size ≤ 400 := by unfold keyA; simp only [ByteArray.size_append, s58, s47]; omega
      have s1b : (9223372036854775807 < y.f0.size + 1) = False := eq_false (by omega)
      have s2e : (9223372036854775807 < y.f0.size + 1 + y.f1.size) = False := eq_false (by omega)
      have s3e : (9223372036854775807 < y.f0.size + 1 + y.f1.size + 1) = False := eq_false (by omega)
      have s4e : (9223372036854775807 < y.f0.size + 1 + y.f1.size + 1 + x.f0.size) = False := eq_false (by omega)
      clear s58 s47 s64 n1 n2 n4 s1 s2 s3 s4
      go_quiet (fail)
      clear s1b s2e s3e s4e
      have HTJ : Aside0 (h.Has (y.f0 ++ (⟨#[58]⟩ : ByteArray) ++ y.f1 ++ (⟨#[47]⟩ : ByteArray) ++ x.f0) x.f2 ∧ h.Has (y.f0 ++ (⟨#[58]⟩ : ByteArray) ++ y.f1 ++ (⟨#[47]⟩ : ByteArray) ++ x.f0 ++ (⟨#[64]⟩ : ByteArray) ++ y.f2) x.f2) := ⟨HTI.out⟩
      have s6 : (y.f0 ++ (⟨#[58]⟩ : ByteArray) ++ y.f1 ++ (⟨#[47]⟩ : ByteArray) ++ x.f0).size ≤ 400 := s5
      clear s5 HTI
      generalize y.f0 ++ (⟨#[58]⟩ : ByteArray) ++ y.f1 ++ (⟨#[47]⟩ : ByteArray) ++ x.f0 = key at *
      by_cases hve : y.f2.toList = []
      · have v1 : (y.f2.toList == ([] : List UInt8)) = true := by rw [hve]; rfl
        have v2 : y.f2.toList.isEmpty = true := by rw [hve]; rfl
        have v3 : (y.f2.toList != ([] : List UInt8)) = false := by rw [hve]; rfl
        clear hve
        go_wp2_with fail
        have HKS : Aside0 ((key).size ≤ 1000) := ⟨by first | omega | (rw [ByteArray.size_append, ByteArray.size_append]; show key.size + 1 + y.f2.size ≤ 1000; omega)⟩
        have HHS := Aside0.mk (HTJ.out.1)
        have HDD := E2
        clear HTJ x0 x1 x2 x3 x4 z0 v1 v2 v3
        clear u0 u1 u2 u3
        have HN4 := Aside0.mk (HN3.out.drewN nq)
        have K8d : Aside0 ((wc.drewN nq).heap[g8]? = some (.cells #[.string ⟨#[]⟩, .int .i64 0, .slice none 0 0, .slice none 0 0, .bool false] 160 (0, 0))) := ⟨K8c.out⟩
        have K9d : Aside0 ((wc.drewN nq).heap[g9]? = some (.cells #[.string ⟨#[]⟩, .slice none 0 0, .slice none 0 0, .slice none 0 0] 142 (0, 0))) := ⟨K9c.out⟩
        have K13d : Aside0 ((wc.drewN nq).heap[g13]? = some (.cells #[.string x.f0, .slice B1 x.f1.length d1, .slice B2 x.f2.length d2, .slice B3 x.f3.length d3] 142 (0, 0))) := ⟨K13.out⟩
        have hne := blk_ne K8d.out K9d.out (by decide)
        have hne2 := hne.symm
        clear HN3 K8c K9c K13
        generalize wc.drewN nq = wd at *
        have HN5 := HN4
        have K8e := K8d
        have K9e := K9d
        have K13e := K13d
        clear HN4 K8d K9d K13d
        have u0 : wd.cell? ⟨g13, 0, none⟩ = some (.string x.f0) := (blk_cell K13e.out 0).trans rfl
        have u1 : wd.cell? ⟨g13, 1, none⟩ = some (.slice B1 x.f1.length d1) := (blk_cell K13e.out 1).trans rfl
        have u2 : wd.cell? ⟨g13, 2, none⟩ = some (.slice B2 x.f2.length d2) := (blk_cell K13e.out 2).trans rfl
        have u3 : wd.cell? ⟨g13, 3, none⟩ = some (.slice B3 x.f3.length d3) := (blk_cell K13e.out 3).trans rfl
        have n13 : g13 ≠ g8 := by have := HG13.out.2.1; omega
        have n13b : g13 ≠ g9 := by have := HG13.out.2.2; omega
        have HSS : Aside0 (∀ w' : World, w'.heap[g13]? = some (.cells #[.string x.f0, .slice B1 x.f1.length d1, .slice B2 x.f2.length d2, .slice B3 x.f3.length d3] 142 (0, 0)) → (∃ cs, w'.heap[g8]? = some (.cells cs 160 (0, 0))) → (∃ cs, w'.heap[g9]? = some (.cells cs 142 (0, 0))) → w'.cell? ⟨g13, 0, none⟩ = some (.string x.f0) ∧ w'.cell? ⟨g13, 1, none⟩ = some (.slice B1 x.f1.length d1) ∧ w'.cell? ⟨g13, 2, none⟩ = some (.slice B2 x.f2.length d2) ∧ w'.cell? ⟨g13, 3, none⟩ = some (.slice B3 x.f3.length d3) ∧ w'.frozen? ⟨g8, 0, none⟩ = false ∧ w'.frozen? ⟨g8, 1, none⟩ = false ∧ w'.frozen? ⟨g8, 2, none⟩ = false ∧ w'.frozen? ⟨g8, 3, none⟩ = false ∧ w'.frozen? ⟨g8, 4, none⟩ = false ∧ w'.frozen? ⟨g9, 0, none⟩ = false ∧ w'.frozen? ⟨g9, 1, none⟩ = false ∧ w'.frozen? ⟨g9, 2, none⟩ = false ∧ w'.frozen? ⟨g9, 3, none⟩ = false) :=
          ⟨fun w' h1 ⟨c8, h2⟩ ⟨c9, h3⟩ => ⟨(blk_cell h1 0).trans rfl, (blk_cell h1 1).trans rfl, (blk_cell h1 2).trans rfl, (blk_cell h1 3).trans rfl, blk_frozen h2 0, blk_frozen h2 1, blk_frozen h2 2, blk_frozen h2 3, blk_frozen h2 4, blk_frozen h3 0, blk_frozen h3 1, blk_frozen h3 2, blk_frozen h3 3⟩⟩
        cases out with
        | false =>
          have HP8 := Aside0.mk (HN5.out.put5 K8e.out (by decide) (by decide) (by rw [HG5.out]; exact HG.out.1) (.string (key)) (.int .i64 (a : Int)) (.slice B1 x.f1.length d1) (.slice B2 x.f2.length d2) (.bool false))
          have HP9 := Aside0.mk (HP8.out.1.put4 ((HP8.out.2.2 g9 hne2).trans K9e.out) (by decide) (by decide) (by rw [HG5.out]; exact HG.out.2) (.string x.f0) (.slice B1 x.f1.length d1) (.slice B2 x.f2.length d2) (.slice B3 x.f3.length d3))
          have HQ8 := Aside0.mk ((HP9.out.2.2 g8 hne).trans HP8.out.2.1)
          have r0 : wd.cell? ⟨g8, 0, none⟩ = some (.string ⟨#[]⟩) := (blk_cell K8e.out 0).trans rfl
          have r1 : wd.cell? ⟨g8, 1, none⟩ = some (.int .i64 0) := (blk_cell K8e.out 1).trans rfl
          have r2 : wd.cell? ⟨g8, 2, none⟩ = some (.slice none 0 0) := (blk_cell K8e.out 2).trans rfl
          have r3 : wd.cell? ⟨g8, 3, none⟩ = some (.slice none 0 0) := (blk_cell K8e.out 3).trans rfl
          have r4 : wd.cell? ⟨g8, 4, none⟩ = some (.bool false) := (blk_cell K8e.out 4).trans rfl
          have rf0 : wd.frozen? ⟨g8, 0, none⟩ = false := blk_frozen K8e.out 0
          have rf1 : wd.frozen? ⟨g8, 1, none⟩ = false := blk_frozen K8e.out 1
          have rf2 : wd.frozen? ⟨g8, 2, none⟩ = false := blk_frozen K8e.out 2
          have rf3 : wd.frozen? ⟨g8, 3, none⟩ = false := blk_frozen K8e.out 3
          have rf4 : wd.frozen? ⟨g8, 4, none⟩ = false := blk_frozen K8e.out 4
          have s0 : wd.cell? ⟨g9, 0, none⟩ = some (.string ⟨#[]⟩) := (blk_cell K9e.out 0).trans rfl
          have s1 : wd.cell? ⟨g9, 1, none⟩ = some (.slice none 0 0) := (blk_cell K9e.out 1).trans rfl
          have s2 : wd.cell? ⟨g9, 2, none⟩ = some (.slice none 0 0) := (blk_cell K9e.out 2).trans rfl
          have s3 : wd.cell? ⟨g9, 3, none⟩ = some (.slice none 0 0) := (blk_cell K9e.out 3).trans rfl
          have sf0 : wd.frozen? ⟨g9, 0, none⟩ = false := blk_frozen K9e.out 0
          have sf1 : wd.frozen? ⟨g9, 1, none⟩ = false := blk_frozen K9e.out 1
          have sf2 : wd.frozen? ⟨g9, 2, none⟩ = false := blk_frozen K9e.out 2
          have sf3 : wd.frozen? ⟨g9, 3, none⟩ = false := blk_frozen K9e.out 3
          have n13c := n13.symm
          have n13d := n13b.symm
          go_big_region
          go_wp2_with fail
          clear r0 rf0 r1 rf1 r2 rf2 r3 rf3 r4 rf4
          clear s0 sf0 s1 sf1 s2 sf2 s3 sf3
          clear u0 u1 u2 u3
          obtain ⟨wf, hwf⟩ : ∃ wf : World, wf = (((((((((wd.setCell ⟨g8, 0, none⟩ (.string (key))).setCell ⟨g8, 1, none⟩ (.int .i64 (a : Int))).setCell ⟨g8, 2, none⟩ (.slice B1 x.f1.length d1)).setCell ⟨g8, 3, none⟩ (.slice B2 x.f2.length d2)).setCell ⟨g8, 4, none⟩ (.bool false)).setCell ⟨g9, 0, none⟩ (.string x.f0)).setCell ⟨g9, 1, none⟩ (.slice B1 x.f1.length d1)).setCell ⟨g9, 2, none⟩ (.slice B2 x.f2.length d2)).setCell ⟨g9, 3, none⟩ (.slice B3 x.f3.length d3)) := ⟨_, rfl⟩
          rw [← hwf] at HP9 HQ8 ⊢
          clear hwf HP8
          have r0 : wf.cell? ⟨g8, 0, none⟩ = some (.string (key)) := (blk_cell HQ8.out 0).trans rfl
          have r1 : wf.cell? ⟨g8, 1, none⟩ = some (.int .i64 (a : Int)) := (blk_cell HQ8.out 1).trans rfl
          have r2 : wf.cell? ⟨g8, 2, none⟩ = some (.slice B1 x.f1.length d1) := (blk_cell HQ8.out 2).trans rfl
          have r3 : wf.cell? ⟨g8, 3, none⟩ = some (.slice B2 x.f2.length d2) := (blk_cell HQ8.out 3).trans rfl
          have r4 : wf.cell? ⟨g8, 4, none⟩ = some (.bool false) := (blk_cell HQ8.out 4).trans rfl
          have s0 : wf.cell? ⟨g9, 0, none⟩ = some (.string x.f0) := (blk_cell HP9.out.2.1 0).trans rfl
          have s1 : wf.cell? ⟨g9, 1, none⟩ = some (.slice B1 x.f1.length d1) := (blk_cell HP9.out.2.1 1).trans rfl
          have s2 : wf.cell? ⟨g9, 2, none⟩ = some (.slice B2 x.f2.length d2) := (blk_cell HP9.out.2.1 2).trans rfl
          have s3 : wf.cell? ⟨g9, 3, none⟩ = some (.slice B3 x.f3.length d3) := (blk_cell HP9.out.2.1 3).trans rfl
          exact bodyPost_ret (v := .tuple #[.agg #[.string (key), .int .i64 (a : Int), .slice B1 x.f1.length d1, .slice B2 x.f2.length d2, .bool false], .agg #[.string x.f0, .slice B1 x.f1.length d1, .slice B2 x.f2.length d2, .slice B3 x.f3.length d3], .bool true]) (by simp [results, Try.results93, go_sem, *]) rfl ⟨E, HP9.out.1.drewN 1, .inr ⟨(key), a, x, B1, d1, B2, d2, B3, d3, false, rfl, ⟨HA.out, HKS.out, E1.out, HDD.out, HRI.out.h, HHS.out⟩, E3.out, HRI.out⟩⟩
        | true =>
          have HN5d : Aside0 (Nx h p vi vo dp w v E res wd.drew v E res) := ⟨HN5.out.drewN 1⟩
          have K8g : Aside0 (wd.drew.heap[g8]? = some (.cells #[.string ⟨#[]⟩, .int .i64 0, .slice none 0 0, .slice none 0 0, .bool false] 160 (0, 0))) := ⟨K8e.out⟩
          have K9g : Aside0 (wd.drew.heap[g9]? = some (.cells #[.string ⟨#[]⟩, .slice none 0 0, .slice none 0 0, .slice none 0 0] 142 (0, 0))) := ⟨K9e.out⟩
          have K13g : Aside0 (wd.drew.heap[g13]? = some (.cells #[.string x.f0, .slice B1 x.f1.length d1, .slice B2 x.f2.length d2, .slice B3 x.f3.length d3] 142 (0, 0))) := ⟨K13e.out⟩
          clear K8e K9e K13e HN5
          have HSU : Aside0 (∀ w' : World, w'.heap[g13]? = some (.cells #[.string x.f0, .slice B1 x.f1.length d1, .slice B2 x.f2.length d2, .slice B3 x.f3.length d3] 142 (0, 0)) → w'.cell? ⟨g13, 0, none⟩ = some (.string x.f0) ∧ w'.cell? ⟨g13, 1, none⟩ = some (.slice B1 x.f1.length d1) ∧ w'.cell? ⟨g13, 2, none⟩ = some (.slice B2 x.f2.length d2) ∧ w'.cell? ⟨g13, 3, none⟩ = some (.slice B3 x.f3.length d3)) := ⟨fun w' h1 => ⟨(blk_cell h1 0).trans rfl, (blk_cell h1 1).trans rfl, (blk_cell h1 2).trans rfl, (blk_cell h1 3).trans rfl⟩⟩
          clear HSS
          go_region_held3 (fun w' => w'.cell? ⟨g13, 0, none⟩ = some (.string x.f0) ∧ w'.cell? ⟨g13, 1, none⟩ = some (.slice B1 x.f1.length d1) ∧ w'.cell? ⟨g13, 2, none⟩ = some (.slice B2 x.f2.length d2) ∧ w'.cell? ⟨g13, 3, none⟩ = some (.slice B3 x.f3.length d3))
            (first
              | with_reducible exact HSU.out _ K13g.out
              | with_reducible exact HSU.out _ K13f.out
              | with_reducible exact HSU.out _ ((HP8.out.2.2 g13 n13).trans K13f.out)
              | with_reducible exact HSU.out _ ((HP9.out.2.2 g13 n13b).trans ((HP8.out.2.2 g13 n13).trans K13f.out)))
            ((go_at_call 108; refine (exported_any OK.out HN5d.out.m1 a x.f0).mono ?_; rintro e w5 ⟨⟨b, rfl⟩, hb⟩; have HN6 := Aside0.mk (HN5d.out.below hb); have K8f := Aside0.mk (blk_below K8g.out hb); have K9f := Aside0.mk (blk_below K9g.out hb); have K13f := Aside0.mk (blk_below K13g.out hb); clear hb; have r0 : w5.cell? ⟨g8, 0, none⟩ = some (.string ⟨#[]⟩) := (blk_cell K8f.out 0).trans rfl; have r1 : w5.cell? ⟨g8, 1, none⟩ = some (.int .i64 0) := (blk_cell K8f.out 1).trans rfl; have r2 : w5.cell? ⟨g8, 2, none⟩ = some (.slice none 0 0) := (blk_cell K8f.out 2).trans rfl; have r3 : w5.cell? ⟨g8, 3, none⟩ = some (.slice none 0 0) := (blk_cell K8f.out 3).trans rfl; have r4 : w5.cell? ⟨g8, 4, none⟩ = some (.bool false) := (blk_cell K8f.out 4).trans rfl; have rf0 : w5.frozen? ⟨g8, 0, none⟩ = false := blk_frozen K8f.out 0; have rf1 : w5.frozen? ⟨g8, 1, none⟩ = false := blk_frozen K8f.out 1; have rf2 : w5.frozen? ⟨g8, 2, none⟩ = false := blk_frozen K8f.out 2; have rf3 : w5.frozen? ⟨g8, 3, none⟩ = false := blk_frozen K8f.out 3; have rf4 : w5.frozen? ⟨g8, 4, none⟩ = false := blk_frozen K8f.out 4; have s0 : w5.cell? ⟨g9, 0, none⟩ = some (.string ⟨#[]⟩) := (blk_cell K9f.out 0).trans rfl; have s1 : w5.cell? ⟨g9, 1, none⟩ = some (.slice none 0 0) := (blk_cell K9f.out 1).trans rfl; have s2 : w5.cell? ⟨g9, 2, none⟩ = some (.slice none 0 0) := (blk_cell K9f.out 2).trans rfl; have s3 : w5.cell? ⟨g9, 3, none⟩ = some (.slice none 0 0) := (blk_cell K9f.out 3).trans rfl; have sf0 : w5.frozen? ⟨g9, 0, none⟩ = false := blk_frozen K9f.out 0; have sf1 : w5.frozen? ⟨g9, 1, none⟩ = false := blk_frozen K9f.out 1; have sf2 : w5.frozen? ⟨g9, 2, none⟩ = false := blk_frozen K9f.out 2; have sf3 : w5.frozen? ⟨g9, 3, none⟩ = false := blk_frozen K9f.out 3; have HP8 := Aside0.mk (HN6.out.put5 K8f.out (by decide) (by decide) (by rw [HG5.out]; exact HG.out.1) (.string (key)) (.int .i64 (a : Int)) (.slice B1 x.f1.length d1) (.slice B2 x.f2.length d2) (.bool b)); have HP9 := Aside0.mk (HP8.out.1.put4 ((HP8.out.2.2 g9 hne2).trans K9f.out) (by decide) (by decide) (by rw [HG5.out]; exact HG.out.2) (.string x.f0) (.slice B1 x.f1.length d1) (.slice B2 x.f2.length d2) (.slice B3 x.f3.length d3)); have HQ8 := Aside0.mk ((HP9.out.2.2 g8 hne).trans HP8.out.2.1)))
          go_wp2_with fail
          clear r0 rf0 r1 rf1 r2 rf2 r3 rf3 r4 rf4
          clear s0 sf0 s1 sf1 s2 sf2 s3 sf3
          clear u0 u1 u2 u3
          obtain ⟨wf, hwf⟩ : ∃ wf : World, wf = (((((((((w5.setCell ⟨g8, 0, none⟩ (.string (key))).setCell ⟨g8, 1, none⟩ (.int .i64 (a : Int))).setCell ⟨g8, 2, none⟩ (.slice B1 x.f1.length d1)).setCell ⟨g8, 3, none⟩ (.slice B2 x.f2.length d2)).setCell ⟨g8, 4, none⟩ (.bool b)).setCell ⟨g9, 0, none⟩ (.string x.f0)).setCell ⟨g9, 1, none⟩ (.slice B1 x.f1.length d1)).setCell ⟨g9, 2, none⟩ (.slice B2 x.f2.length d2)).setCell ⟨g9, 3, none⟩ (.slice B3 x.f3.length d3)) := ⟨_, rfl⟩
          rw [← hwf] at HP9 HQ8 ⊢
          clear hwf HP8
          have r0 : wf.cell? ⟨g8, 0, none⟩ = some (.string (key)) := (blk_cell HQ8.out 0).trans rfl
          have r1 : wf.cell? ⟨g8, 1, none⟩ = some (.int .i64 (a : Int)) := (blk_cell HQ8.out 1).trans rfl
          have r2 : wf.cell? ⟨g8, 2, none⟩ = some (.slice B1 x.f1.length d1) := (blk_cell HQ8.out 2).trans rfl
          have r3 : wf.cell? ⟨g8, 3, none⟩ = some (.slice B2 x.f2.length d2) := (blk_cell HQ8.out 3).trans rfl
          have r4 : wf.cell? ⟨g8, 4, none⟩ = some (.bool b) := (blk_cell HQ8.out 4).trans rfl
          have s0 : wf.cell? ⟨g9, 0, none⟩ = some (.string x.f0) := (blk_cell HP9.out.2.1 0).trans rfl
          have s1 : wf.cell? ⟨g9, 1, none⟩ = some (.slice B1 x.f1.length d1) := (blk_cell HP9.out.2.1 1).trans rfl
          have s2 : wf.cell? ⟨g9, 2, none⟩ = some (.slice B2 x.f2.length d2) := (blk_cell HP9.out.2.1 2).trans rfl
          have s3 : wf.cell? ⟨g9, 3, none⟩ = some (.slice B3 x.f3.length d3) := (blk_cell HP9.out.2.1 3).trans rfl
          exact bodyPost_ret (v := .tuple #[.agg #[.string (key), .int .i64 (a : Int), .slice B1 x.f1.length d1, .slice B2 x.f2.length d2, .bool b], .agg #[.string x.f0, .slice B1 x.f1.length d1, .slice B2 x.f2.length d2, .slice B3 x.f3.length d3], .bool true]) (by simp [results, Try.results93, go_sem, *]) rfl ⟨E, HP9.out.1, .inr ⟨(key), a, x, B1, d1, B2, d2, B3, d3, b, rfl, ⟨HA.out, HKS.out, E1.out, HDD.out, HRI.out.h, HHS.out⟩, E3.out, HRI.out⟩⟩
      · have v1 : (y.f2.toList == ([] : List UInt8)) = false := by rw [beq_eq_false_iff_ne]; exact hve
        have v2 : y.f2.toList.isEmpty = false := by rw [List.isEmpty_eq_false_iff]; exact hve
        have v3 : (y.f2.toList != ([] : List UInt8)) = true := by rw [bne_iff_ne]; exact hve
        have s7 : (9223372036854775807 < key.size + 1) = False := eq_false (by omega)
        have s8 : (9223372036854775807 < key.size + 1 + y.f2.size) = False := eq_false (by omega)
        clear hve
        go_wp2_with fail
        clear s7 s8
        have HKS : Aside0 ((key ++ (⟨#[64]⟩ : ByteArray) ++ y.f2).size ≤ 1000) := ⟨by first | omega | (rw [ByteArray.size_append, ByteArray.size_append]; show key.size + 1 + y.f2.size ≤ 1000; omega)⟩
        have HHS := Aside0.mk (HTJ.out.2)
        have HDD := E2
        clear HTJ x0 x1 x2 x3 x4 z0 v1 v2 v3
        clear u0 u1 u2 u3
        have HN4 := Aside0.mk (HN3.out.drewN nq)
        have K8d : Aside0 ((wc.drewN nq).heap[g8]? = some (.cells #[.string ⟨#[]⟩, .int .i64 0, .slice none 0 0, .slice none 0 0, .bool false] 160 (0, 0))) := ⟨K8c.out⟩
        have K9d : Aside0 ((wc.drewN nq).heap[g9]? = some (.cells #[.string ⟨#[]⟩, .slice none 0 0, .slice none 0 0, .slice none 0 0] 142 (0, 0))) := ⟨K9c.out⟩
        have K13d : Aside0 ((wc.drewN nq).heap[g13]? = some (.cells #[.string x.f0, .slice B1 x.f1.length d1, .slice B2 x.f2.length d2, .slice B3 x.f3.length d3] 142 (0, 0))) := ⟨K13.out⟩
        have hne := blk_ne K8d.out K9d.out (by decide)
        have hne2 := hne.symm
        clear HN3 K8c K9c K13
        generalize wc.drewN nq = wd at *
        have HN5 := HN4
        have K8e := K8d
        have K9e := K9d
        have K13e := K13d
        clear HN4 K8d K9d K13d
        have u0 : wd.cell? ⟨g13, 0, none⟩ = some (.string x.f0) := (blk_cell K13e.out 0).trans rfl
        have u1 : wd.cell? ⟨g13, 1, none⟩ = some (.slice B1 x.f1.length d1) := (blk_cell K13e.out 1).trans rfl
        have u2 : wd.cell? ⟨g13, 2, none⟩ = some (.slice B2 x.f2.length d2) := (blk_cell K13e.out 2).trans rfl
        have u3 : wd.cell? ⟨g13, 3, none⟩ = some (.slice B3 x.f3.length d3) := (blk_cell K13e.out 3).trans rfl
        have n13 : g13 ≠ g8 := by have := HG13.out.2.1; omega
        have n13b : g13 ≠ g9 := by have := HG13.out.2.2; omega
        have HSS : Aside0 (∀ w' : World, w'.heap[g13]? = some (.cells #[.string x.f0, .slice B1 x.f1.length d1, .slice B2 x.f2.length d2, .slice B3 x.f3.length d3] 142 (0, 0)) → (∃ cs, w'.heap[g8]? = some (.cells cs 160 (0, 0))) → (∃ cs, w'.heap[g9]? = some (.cells cs 142 (0, 0))) → w'.cell? ⟨g13, 0, none⟩ = some (.string x.f0) ∧ w'.cell? ⟨g13, 1, none⟩ = some (.slice B1 x.f1.length d1) ∧ w'.cell? ⟨g13, 2, none⟩ = some (.slice B2 x.f2.length d2) ∧ w'.cell? ⟨g13, 3, none⟩ = some (.slice B3 x.f3.length d3) ∧ w'.frozen? ⟨g8, 0, none⟩ = false ∧ w'.frozen? ⟨g8, 1, none⟩ = false ∧ w'.frozen? ⟨g8, 2, none⟩ = false ∧ w'.frozen? ⟨g8, 3, none⟩ = false ∧ w'.frozen? ⟨g8, 4, none⟩ = false ∧ w'.frozen? ⟨g9, 0, none⟩ = false ∧ w'.frozen? ⟨g9, 1, none⟩ = false ∧ w'.frozen? ⟨g9, 2, none⟩ = false ∧ w'.frozen? ⟨g9, 3, none⟩ = false) :=
          ⟨fun w' h1 ⟨c8, h2⟩ ⟨c9, h3⟩ => ⟨(blk_cell h1 0).trans rfl, (blk_cell h1 1).trans rfl, (blk_cell h1 2).trans rfl, (blk_cell h1 3).trans rfl, blk_frozen h2 0, blk_frozen h2 1, blk_frozen h2 2, blk_frozen h2 3, blk_frozen h2 4, blk_frozen h3 0, blk_frozen h3 1, blk_frozen h3 2, blk_frozen h3 3⟩⟩
        cases out with
        | false =>
          have HP8 := Aside0.mk (HN5.out.put5 K8e.out (by decide) (by decide) (by rw [HG5.out]; exact HG.out.1) (.string (key ++ (⟨#[64]⟩ : ByteArray) ++ y.f2)) (.int .i64 (a : Int)) (.slice B1 x.f1.length d1) (.slice B2 x.f2.length d2) (.bool false))
          have HP9 := Aside0.mk (HP8.out.1.put4 ((HP8.out.2.2 g9 hne2).trans K9e.out) (by decide) (by decide) (by rw [HG5.out]; exact HG.out.2) (.string x.f0) (.slice B1 x.f1.length d1) (.slice B2 x.f2.length d2) (.slice B3 x.f3.length d3))
          have HQ8 := Aside0.mk ((HP9.out.2.2 g8 hne).trans HP8.out.2.1)
          have r0 : wd.cell? ⟨g8, 0, none⟩ = some (.string ⟨#[]⟩) := (blk_cell K8e.out 0).trans rfl
          have r1 : wd.cell? ⟨g8, 1, none⟩ = some (.int .i64 0) := (blk_cell K8e.out 1).trans rfl
          have r2 : wd.cell? ⟨g8, 2, none⟩ = some (.slice none 0 0) := (blk_cell K8e.out 2).trans rfl
          have r3 : wd.cell? ⟨g8, 3, none⟩ = some (.slice none 0 0) := (blk_cell K8e.out 3).trans rfl
          have r4 : wd.cell? ⟨g8, 4, none⟩ = some (.bool false) := (blk_cell K8e.out 4).trans rfl
          have rf0 : wd.frozen? ⟨g8, 0, none⟩ = false := blk_frozen K8e.out 0
          have rf1 : wd.frozen? ⟨g8, 1, none⟩ = false := blk_frozen K8e.out 1
          have rf2 : wd.frozen? ⟨g8, 2, none⟩ = false := blk_frozen K8e.out 2
          have rf3 : wd.frozen? ⟨g8, 3, none⟩ = false := blk_frozen K8e.out 3
          have rf4 : wd.frozen? ⟨g8, 4, none⟩ = false := blk_frozen K8e.out 4
          have s0 : wd.cell? ⟨g9, 0, none⟩ = some (.string ⟨#[]⟩) := (blk_cell K9e.out 0).trans rfl
          have s1 : wd.cell? ⟨g9, 1, none⟩ = some (.slice none 0 0) := (blk_cell K9e.out 1).trans rfl
          have s2 : wd.cell? ⟨g9, 2, none⟩ = some (.slice none 0 0) := (blk_cell K9e.out 2).trans rfl
          have s3 : wd.cell? ⟨g9, 3, none⟩ = some (.slice none 0 0) := (blk_cell K9e.out 3).trans rfl
          have sf0 : wd.frozen? ⟨g9, 0, none⟩ = false := blk_frozen K9e.out 0
          have sf1 : wd.frozen? ⟨g9, 1, none⟩ = false := blk_frozen K9e.out 1
          have sf2 : wd.frozen? ⟨g9, 2, none⟩ = false := blk_frozen K9e.out 2
          have sf3 : wd.frozen? ⟨g9, 3, none⟩ = false := blk_frozen K9e.out 3
          have n13c := n13.symm
          have n13d := n13b.symm
          go_big_region
          go_wp2_with fail
          clear r0 rf0 r1 rf1 r2 rf2 r3 rf3 r4 rf4
          clear s0 sf0 s1 sf1 s2 sf2 s3 sf3
          clear u0 u1 u2 u3
          obtain ⟨wf, hwf⟩ : ∃ wf : World, wf = (((((((((wd.setCell ⟨g8, 0, none⟩ (.string (key ++ (⟨#[64]⟩ : ByteArray) ++ y.f2))).setCell ⟨g8, 1, none⟩ (.int .i64 (a : Int))).setCell ⟨g8, 2, none⟩ (.slice B1 x.f1.length d1)).setCell ⟨g8, 3, none⟩ (.slice B2 x.f2.length d2)).setCell ⟨g8, 4, none⟩ (.bool false)).setCell ⟨g9, 0, none⟩ (.string x.f0)).setCell ⟨g9, 1, none⟩ (.slice B1 x.f1.length d1)).setCell ⟨g9, 2, none⟩ (.slice B2 x.f2.length d2)).setCell ⟨g9, 3, none⟩ (.slice B3 x.f3.length d3)) := ⟨_, rfl⟩
          rw [← hwf] at HP9 HQ8 ⊢
          clear hwf HP8
          have r0 : wf.cell? ⟨g8, 0, none⟩ = some (.string (key ++ (⟨#[64]⟩ : ByteArray) ++ y.f2)) := (blk_cell HQ8.out 0).trans rfl
          have r1 : wf.cell? ⟨g8, 1, none⟩ = some (.int .i64 (a : Int)) := (blk_cell HQ8.out 1).trans rfl
          have r2 : wf.cell? ⟨g8, 2, none⟩ = some (.slice B1 x.f1.length d1) := (blk_cell HQ8.out 2).trans rfl
          have r3 : wf.cell? ⟨g8, 3, none⟩ = some (.slice B2 x.f2.length d2) := (blk_cell HQ8.out 3).trans rfl
          have r4 : wf.cell? ⟨g8, 4, none⟩ = some (.bool false) := (blk_cell HQ8.out 4).trans rfl
          have s0 : wf.cell? ⟨g9, 0, none⟩ = some (.string x.f0) := (blk_cell HP9.out.2.1 0).trans rfl
          have s1 : wf.cell? ⟨g9, 1, none⟩ = some (.slice B1 x.f1.length d1) := (blk_cell HP9.out.2.1 1).trans rfl
          have s2 : wf.cell? ⟨g9, 2, none⟩ = some (.slice B2 x.f2.length d2) := (blk_cell HP9.out.2.1 2).trans rfl
          have s3 : wf.cell? ⟨g9, 3, none⟩ = some (.slice B3 x.f3.length d3) := (blk_cell HP9.out.2.1 3).trans rfl
          exact bodyPost_ret (v := .tuple #[.agg #[.string (key ++ (⟨#[64]⟩ : ByteArray) ++ y.f2), .int .i64 (a : Int), .slice B1 x.f1.length d1, .slice B2 x.f2.length d2, .bool false], .agg #[.string x.f0, .slice B1 x.f1.length d1, .slice B2 x.f2.length d2, .slice B3 x.f3.length d3], .bool true]) (by simp [results, Try.results93, go_sem, *]) rfl ⟨E, HP9.out.1.drewN 1, .inr ⟨(key ++ (⟨#[64]⟩ : ByteArray) ++ y.f2), a, x, B1, d1, B2, d2, B3, d3, false, rfl, ⟨HA.out, HKS.out, E1.out, HDD.out, HRI.out.h, HHS.out⟩, E3.out, HRI.out⟩⟩
        | true =>
          have HN5d : Aside0 (Nx h p vi vo dp w v E res wd.drew v E res) := ⟨HN5.out.drewN 1⟩
          have K8g : Aside0 (wd.drew.heap[g8]? = some (.cells #[.string ⟨#[]⟩, .int .i64 0, .slice none 0 0, .slice none 0 0, .bool false] 160 (0, 0))) := ⟨K8e.out⟩
          have K9g : Aside0 (wd.drew.heap[g9]? = some (.cells #[.string ⟨#[]⟩, .slice none 0 0, .slice none 0 0, .slice none 0 0] 142 (0, 0))) := ⟨K9e.out⟩
          have K13g : Aside0 (wd.drew.heap[g13]? = some (.cells #[.string x.f0, .slice B1 x.f1.length d1, .slice B2 x.f2.length d2, .slice B3 x.f3.length d3] 142 (0, 0))) := ⟨K13e.out⟩
          clear K8e K9e K13e HN5
          have HSU : Aside0 (∀ w' : World, w'.heap[g13]? = some (.cells #[.string x.f0, .slice B1 x.f1.length d1, .slice B2 x.f2.length d2, .slice B3 x.f3.length d3] 142 (0, 0)) → w'.cell? ⟨g13, 0, none⟩ = some (.string x.f0) ∧ w'.cell? ⟨g13, 1, none⟩ = some (.slice B1 x.f1.length d1) ∧ w'.cell? ⟨g13, 2, none⟩ = some (.slice B2 x.f2.length d2) ∧ w'.cell? ⟨g13, 3, none⟩ = some (.slice B3 x.f3.length d3)) := ⟨fun w' h1 => ⟨(blk_cell h1 0).trans rfl, (blk_cell h1 1).trans rfl, (blk_cell h1 2).trans rfl, (blk_cell h1 3).trans rfl⟩⟩
          clear HSS
          go_region_held3 (fun w' => w'.cell? ⟨g13, 0, none⟩ = some (.string x.f0) ∧ w'.cell? ⟨g13, 1, none⟩ = some (.slice B1 x.f1.length d1) ∧ w'.cell? ⟨g13, 2, none⟩ = some (.slice B2 x.f2.length d2) ∧ w'.cell? ⟨g13, 3, none⟩ = some (.slice B3 x.f3.length d3))
            (first
              | with_reducible exact HSU.out _ K13g.out
              | with_reducible exact HSU.out _ K13f.out
              | with_reducible exact HSU.out _ ((HP8.out.2.2 g13 n13).trans K13f.out)
              | with_reducible exact HSU.out _ ((HP9.out.2.2 g13 n13b).trans ((HP8.out.2.2 g13 n13).trans K13f.out)))
            ((go_at_call 108; refine (exported_any OK.out HN5d.out.m1 a x.f0).mono ?_; rintro e w5 ⟨⟨b, rfl⟩, hb⟩; have HN6 := Aside0.mk (HN5d.out.below hb); have K8f := Aside0.mk (blk_below K8g.out hb); have K9f := Aside0.mk (blk_below K9g.out hb); have K13f := Aside0.mk (blk_below K13g.out hb); clear hb; have r0 : w5.cell? ⟨g8, 0, none⟩ = some (.string ⟨#[]⟩) := (blk_cell K8f.out 0).trans rfl; have r1 : w5.cell? ⟨g8, 1, none⟩ = some (.int .i64 0) := (blk_cell K8f.out 1).trans rfl; have r2 : w5.cell? ⟨g8, 2, none⟩ = some (.slice none 0 0) := (blk_cell K8f.out 2).trans rfl; have r3 : w5.cell? ⟨g8, 3, none⟩ = some (.slice none 0 0) := (blk_cell K8f.out 3).trans rfl; have r4 : w5.cell? ⟨g8, 4, none⟩ = some (.bool false) := (blk_cell K8f.out 4).trans rfl; have rf0 : w5.frozen? ⟨g8, 0, none⟩ = false := blk_frozen K8f.out 0; have rf1 : w5.frozen? ⟨g8, 1, none⟩ = false := blk_frozen K8f.out 1; have rf2 : w5.frozen? ⟨g8, 2, none⟩ = false := blk_frozen K8f.out 2; have rf3 : w5.frozen? ⟨g8, 3, none⟩ = false := blk_frozen K8f.out 3; have rf4 : w5.frozen? ⟨g8, 4, none⟩ = false := blk_frozen K8f.out 4; have s0 : w5.cell? ⟨g9, 0, none⟩ = some (.string ⟨#[]⟩) := (blk_cell K9f.out 0).trans rfl; have s1 : w5.cell? ⟨g9, 1, none⟩ = some (.slice none 0 0) := (blk_cell K9f.out 1).trans rfl; have s2 : w5.cell? ⟨g9, 2, none⟩ = some (.slice none 0 0) := (blk_cell K9f.out 2).trans rfl; have s3 : w5.cell? ⟨g9, 3, none⟩ = some (.slice none 0 0) := (blk_cell K9f.out 3).trans rfl; have sf0 : w5.frozen? ⟨g9, 0, none⟩ = false := blk_frozen K9f.out 0; have sf1 : w5.frozen? ⟨g9, 1, none⟩ = false := blk_frozen K9f.out 1; have sf2 : w5.frozen? ⟨g9, 2, none⟩ = false := blk_frozen K9f.out 2; have sf3 : w5.frozen? ⟨g9, 3, none⟩ = false := blk_frozen K9f.out 3; have HP8 := Aside0.mk (HN6.out.put5 K8f.out (by decide) (by decide) (by rw [HG5.out]; exact HG.out.1) (.string (key ++ (⟨#[64]⟩ : ByteArray) ++ y.f2)) (.int .i64 (a : Int)) (.slice B1 x.f1.length d1) (.slice B2 x.f2.length d2) (.bool b)); have HP9 := Aside0.mk (HP8.out.1.put4 ((HP8.out.2.2 g9 hne2).trans K9f.out) (by decide) (by decide) (by rw [HG5.out]; exact HG.out.2) (.string x.f0) (.slice B1 x.f1.length d1) (.slice B2 x.f2.length d2) (.slice B3 x.f3.length d3)); have HQ8 := Aside0.mk ((HP9.out.2.2 g8 hne).trans HP8.out.2.1)))
          go_wp2_with fail
          clear r0 rf0 r1 rf1 r2 rf2 r3 rf3 r4 rf4
          clear s0 sf0 s1 sf1 s2 sf2 s3 sf3
          clear u0 u1 u2 u3
          obtain ⟨wf, hwf⟩ : ∃ wf : World, wf = (((((((((w5.setCell ⟨g8, 0, none⟩ (.string (key ++ (⟨#[64]⟩ : ByteArray) ++ y.f2))).setCell ⟨g8, 1, none⟩ (.int .i64 (a : Int))).setCell ⟨g8, 2, none⟩ (.slice B1 x.f1.length d1)).setCell ⟨g8, 3, none⟩ (.slice B2 x.f2.length d2)).setCell ⟨g8, 4, none⟩ (.bool b)).setCell ⟨g9, 0, none⟩ (.string x.f0)).setCell ⟨g9, 1, none⟩ (.slice B1 x.f1.length d1)).setCell ⟨g9, 2, none⟩ (.slice B2 x.f2.length d2)).setCell ⟨g9, 3, none⟩ (.slice B3 x.f3.length d3)) := ⟨_, rfl⟩
          rw [← hwf] at HP9 HQ8 ⊢
          clear hwf HP8
          have r0 : wf.cell? ⟨g8, 0, none⟩ = some (.string (key ++ (⟨#[64]⟩ : ByteArray) ++ y.f2)) := (blk_cell HQ8.out 0).trans rfl
          have r1 : wf.cell? ⟨g8, 1, none⟩ = some (.int .i64 (a : Int)) := (blk_cell HQ8.out 1).trans rfl
          have r2 : wf.cell? ⟨g8, 2, none⟩ = some (.slice B1 x.f1.length d1) := (blk_cell HQ8.out 2).trans rfl
          have r3 : wf.cell? ⟨g8, 3, none⟩ = some (.slice B2 x.f2.length d2) := (blk_cell HQ8.out 3).trans rfl
          have r4 : wf.cell? ⟨g8, 4, none⟩ = some (.bool b) := (blk_cell HQ8.out 4).trans rfl
          have s0 : wf.cell? ⟨g9, 0, none⟩ = some (.string x.f0) := (blk_cell HP9.out.2.1 0).trans rfl
          have s1 : wf.cell? ⟨g9, 1, none⟩ = some (.slice B1 x.f1.length d1) := (blk_cell HP9.out.2.1 1).trans rfl
          have s2 : wf.cell? ⟨g9, 2, none⟩ = some (.slice B2 x.f2.length d2) := (blk_cell HP9.out.2.1 2).trans rfl
          have s3 : wf.cell? ⟨g9, 3, none⟩ = some (.slice B3 x.f3.length d3) := (blk_cell HP9.out.2.1 3).trans rfl
          exact bodyPost_ret (v := .tuple #[.agg #[.string (key ++ (⟨#[64]⟩ : ByteArray) ++ y.f2), .int .i64 (a : Int), .slice B1 x.f1.length d1, .slice B2 x.f2.length d2, .bool b], .agg #[.string x.f0, .slice B1 x.f1.length d1, .slice B2 x.f2.length d2, .slice B3 x.f3.length d3], .bool true]) (by simp [results, Try.results93, go_sem, *]) rfl ⟨E, HP9.out.1, .inr ⟨(key ++ (⟨#[64]⟩ : ByteArray) ++ y.f2), a, x, B1, d1, B2, d2, B3, d3, b, rfl, ⟨HA.out, HKS.out, E1.out, HDD.out, HRI.out.h, HHS.out⟩, E3.out, HRI.out⟩⟩
      
end Go.Proofs.Ytmpmcffhlnlejaa.Mkr
end
