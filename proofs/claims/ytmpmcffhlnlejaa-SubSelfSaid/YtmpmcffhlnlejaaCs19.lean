/- A part of the proof of the law that its last file names: texts of this seat's author and of the kit's printer, cut to what the theorem uses. Part 19: Mk12. -/
import Derived.Test.YtmpmcffhlnlejaaCs18
section
namespace Go.Proofs.Ytmpmcffhlnlejaa.Mkr
open Go.RowKit Go.Proofs.YtmpmcffhlnlejaaW.PrintWords Go.Proofs.YtmpmcffhlnlejaaW.PrintLast Go.Proofs.YtmpmcffhlnlejaaW.PrintMore
open Go.Proofs.Ytmpmcffhlnlejaa.PSubSelf Go.Proofs.Ytmpmcffhlnlejaa.Wld
set_option linter.unusedVariables false
set_option linter.unusedSimpArgs false
set_option maxHeartbeats 16000000 in
set_option maxRecDepth 100000 in
theorem ports_make {h : Hd} (ok : h.Ok) {p : Nat} {w : World} {v vi vo : Value} {E : Int} {res : List ByteArray} (m : ∃ sz, Mk h p w v vi vo 0 sz E res)
    (l : List S157) (A : Option Addr) (c : Nat) (hl : k157.C h.W0 A l.length l) (wq : WfQs l) (out : Bool) :
    Calls Try.prog 77 #[.pointer (some ⟨p, 0, none⟩), .slice A l.length c, .bool out] w (PortsR h p vi vo w v E res) := by
  have M := Aside0.mk m
  have OK := Aside0.mk ok
  have HL := Aside0.mk hl
  have WQ := Aside0.mk wq
  have hll := wq.ll
  have HSC : Aside0 (Scp h ⟨#[]⟩ h.pkg h.wd.f1 h.U h.wd.f2 h.D) := ⟨⟨ok.pk, by decide, ok.hU, ok.hD, ok.ww.h, ok.tw⟩⟩
  have PS0 : Aside0 (PS h p vi vo w v E res 0 w v E res [] none 0) := ⟨⟨by obtain ⟨sz, m⟩ := m; exact Nx.refl m, Kd.R_nil _ _ _ _ _, fun _ x hx => (by cases hx), Nat.le_refl _⟩⟩
  clear m ok hl wq
  go_enter Try.func77, Try.ntmps77
  go_wp2_with fail
  go_loopw [7, 8] (fun v7 v8 wr => ∃ (i : Nat) (v1 : Value) (E1 : Int) (res1 : List ByteArray) (L : List PSubFits.S27) (AS : Option Addr) (cS : Nat), i ≤ l.length ∧ v8 = .int .i64 i ∧ v7 = .slice AS L.length cS ∧ Aside0 (PS h p vi vo w v E res (4160 * i) wr v1 E1 res1 L AS cS)) (fun _ v8 _ => l.length - (intOf v8).toNat)
  case atStart => exact ⟨0, v, E, res, [], none, 0, Nat.zero_le _, rfl, rfl, PS0⟩
  case round =>
    clear PS0
    obtain ⟨i, v1, E1, res1, L, AS, cS, hi, rfl, rfl, PSr⟩ := hrel
    by_cases hlt : i < l.length
    · obtain ⟨ad, B2, d2, B3, d3, B5, d5, B6, d6, hae, hx, l1, g1, l2, g2, l3, g3, l4, g4⟩ := el157 HL.out hlt
      have HFA : Aside0 (FA h.W0 l[i].f0 B2 d2 B3 d3 B5 d5 B6 d6) := ⟨⟨g1, l1, g2, l2, ⟨g3, l3, g4, l4⟩⟩⟩
      have HWQ := Aside0.mk (WQ.out.qs _ (List.getElem_mem hlt))
      have i0 : (0 : Int) ≤ (i : Int) := by omega
      have i1 : (i : Int) < (l.length : Int) := by omega
      obtain ⟨x0, x1, x2, x3, x4, x5, x6, x7, x8, x9, x10⟩ := hx wr PSr.out.nx.bl
      clear hx l1 g1 l2 g2 l3 g3 l4 g4
      generalize l[i] = q at *
      cases hae
      have PSa := Aside0.mk (PSr.out.below (below_alloc (Below.refl _ _) (.cells #[.string q.f0.f0, .int .i64 q.f0.f1, .slice B2 q.f0.f2.length d2, .slice B3 q.f0.f3.length d3, .int .i64 q.f0.f4.f0, .slice B5 q.f0.f4.f1.length d5, .slice B6 q.f0.f4.f2.length d6, .int .i64 q.f0.f4.f3, .string q.f1.f0, .string q.f1.f1, .string q.f1.f2] 157)))
      have KPa : Aside0 (KP h p wr.heap.size #[.string q.f0.f0, .int .i64 q.f0.f1, .slice B2 q.f0.f2.length d2, .slice B3 q.f0.f3.length d3, .int .i64 q.f0.f4.f0, .slice B5 q.f0.f4.f1.length d5, .slice B6 q.f0.f4.f2.length d6, .int .i64 q.f0.f4.f3, .string q.f1.f0, .string q.f1.f1, .string q.f1.f2] (wr.alloc (.cells #[.string q.f0.f0, .int .i64 q.f0.f1, .slice B2 q.f0.f2.length d2, .slice B3 q.f0.f3.length d3, .int .i64 q.f0.f4.f0, .slice B5 q.f0.f4.f1.length d5, .slice B6 q.f0.f4.f2.length d6, .int .i64 q.f0.f4.f3, .string q.f1.f0, .string q.f1.f1, .string q.f1.f2] 157))) := ⟨⟨blk_new wr _, by obtain ⟨sz, m⟩ := PSa.out.nx.m1; exact ⟨_, _, _, _, _, _, m.hp⟩⟩⟩
      have q0 : (wr.alloc (.cells #[.string q.f0.f0, .int .i64 q.f0.f1, .slice B2 q.f0.f2.length d2, .slice B3 q.f0.f3.length d3, .int .i64 q.f0.f4.f0, .slice B5 q.f0.f4.f1.length d5, .slice B6 q.f0.f4.f2.length d6, .int .i64 q.f0.f4.f3, .string q.f1.f0, .string q.f1.f1, .string q.f1.f2] 157)).cell? ⟨wr.heap.size, 0, none⟩ = some (.string q.f0.f0) := (blk_cell KPa.out.k9 0).trans rfl
      have q1 : (wr.alloc (.cells #[.string q.f0.f0, .int .i64 q.f0.f1, .slice B2 q.f0.f2.length d2, .slice B3 q.f0.f3.length d3, .int .i64 q.f0.f4.f0, .slice B5 q.f0.f4.f1.length d5, .slice B6 q.f0.f4.f2.length d6, .int .i64 q.f0.f4.f3, .string q.f1.f0, .string q.f1.f1, .string q.f1.f2] 157)).cell? ⟨wr.heap.size, 1, none⟩ = some (.int .i64 q.f0.f1) := (blk_cell KPa.out.k9 1).trans rfl
      have q2 : (wr.alloc (.cells #[.string q.f0.f0, .int .i64 q.f0.f1, .slice B2 q.f0.f2.length d2, .slice B3 q.f0.f3.length d3, .int .i64 q.f0.f4.f0, .slice B5 q.f0.f4.f1.length d5, .slice B6 q.f0.f4.f2.length d6, .int .i64 q.f0.f4.f3, .string q.f1.f0, .string q.f1.f1, .string q.f1.f2] 157)).cell? ⟨wr.heap.size, 2, none⟩ = some (.slice B2 q.f0.f2.length d2) := (blk_cell KPa.out.k9 2).trans rfl
      have q3 : (wr.alloc (.cells #[.string q.f0.f0, .int .i64 q.f0.f1, .slice B2 q.f0.f2.length d2, .slice B3 q.f0.f3.length d3, .int .i64 q.f0.f4.f0, .slice B5 q.f0.f4.f1.length d5, .slice B6 q.f0.f4.f2.length d6, .int .i64 q.f0.f4.f3, .string q.f1.f0, .string q.f1.f1, .string q.f1.f2] 157)).cell? ⟨wr.heap.size, 3, none⟩ = some (.slice B3 q.f0.f3.length d3) := (blk_cell KPa.out.k9 3).trans rfl
      have q4 : (wr.alloc (.cells #[.string q.f0.f0, .int .i64 q.f0.f1, .slice B2 q.f0.f2.length d2, .slice B3 q.f0.f3.length d3, .int .i64 q.f0.f4.f0, .slice B5 q.f0.f4.f1.length d5, .slice B6 q.f0.f4.f2.length d6, .int .i64 q.f0.f4.f3, .string q.f1.f0, .string q.f1.f1, .string q.f1.f2] 157)).cell? ⟨wr.heap.size, 4, none⟩ = some (.int .i64 q.f0.f4.f0) := (blk_cell KPa.out.k9 4).trans rfl
      have q5 : (wr.alloc (.cells #[.string q.f0.f0, .int .i64 q.f0.f1, .slice B2 q.f0.f2.length d2, .slice B3 q.f0.f3.length d3, .int .i64 q.f0.f4.f0, .slice B5 q.f0.f4.f1.length d5, .slice B6 q.f0.f4.f2.length d6, .int .i64 q.f0.f4.f3, .string q.f1.f0, .string q.f1.f1, .string q.f1.f2] 157)).cell? ⟨wr.heap.size, 5, none⟩ = some (.slice B5 q.f0.f4.f1.length d5) := (blk_cell KPa.out.k9 5).trans rfl
      have q6 : (wr.alloc (.cells #[.string q.f0.f0, .int .i64 q.f0.f1, .slice B2 q.f0.f2.length d2, .slice B3 q.f0.f3.length d3, .int .i64 q.f0.f4.f0, .slice B5 q.f0.f4.f1.length d5, .slice B6 q.f0.f4.f2.length d6, .int .i64 q.f0.f4.f3, .string q.f1.f0, .string q.f1.f1, .string q.f1.f2] 157)).cell? ⟨wr.heap.size, 6, none⟩ = some (.slice B6 q.f0.f4.f2.length d6) := (blk_cell KPa.out.k9 6).trans rfl
      have q7 : (wr.alloc (.cells #[.string q.f0.f0, .int .i64 q.f0.f1, .slice B2 q.f0.f2.length d2, .slice B3 q.f0.f3.length d3, .int .i64 q.f0.f4.f0, .slice B5 q.f0.f4.f1.length d5, .slice B6 q.f0.f4.f2.length d6, .int .i64 q.f0.f4.f3, .string q.f1.f0, .string q.f1.f1, .string q.f1.f2] 157)).cell? ⟨wr.heap.size, 7, none⟩ = some (.int .i64 q.f0.f4.f3) := (blk_cell KPa.out.k9 7).trans rfl
      have q8 : (wr.alloc (.cells #[.string q.f0.f0, .int .i64 q.f0.f1, .slice B2 q.f0.f2.length d2, .slice B3 q.f0.f3.length d3, .int .i64 q.f0.f4.f0, .slice B5 q.f0.f4.f1.length d5, .slice B6 q.f0.f4.f2.length d6, .int .i64 q.f0.f4.f3, .string q.f1.f0, .string q.f1.f1, .string q.f1.f2] 157)).cell? ⟨wr.heap.size, 8, none⟩ = some (.string q.f1.f0) := (blk_cell KPa.out.k9 8).trans rfl
      have q9 : (wr.alloc (.cells #[.string q.f0.f0, .int .i64 q.f0.f1, .slice B2 q.f0.f2.length d2, .slice B3 q.f0.f3.length d3, .int .i64 q.f0.f4.f0, .slice B5 q.f0.f4.f1.length d5, .slice B6 q.f0.f4.f2.length d6, .int .i64 q.f0.f4.f3, .string q.f1.f0, .string q.f1.f1, .string q.f1.f2] 157)).cell? ⟨wr.heap.size, 9, none⟩ = some (.string q.f1.f1) := (blk_cell KPa.out.k9 9).trans rfl
      have q10 : (wr.alloc (.cells #[.string q.f0.f0, .int .i64 q.f0.f1, .slice B2 q.f0.f2.length d2, .slice B3 q.f0.f3.length d3, .int .i64 q.f0.f4.f0, .slice B5 q.f0.f4.f1.length d5, .slice B6 q.f0.f4.f2.length d6, .int .i64 q.f0.f4.f3, .string q.f1.f0, .string q.f1.f1, .string q.f1.f2] 157)).cell? ⟨wr.heap.size, 10, none⟩ = some (.string q.f1.f2) := (blk_cell KPa.out.k9 10).trans rfl
      by_cases hz : q.f1.f2.toList = []
      · have v1e : (q.f1.f2.toList == ([] : List UInt8)) = true := by rw [hz]; rfl
        have v2e : q.f1.f2.toList.isEmpty = true := by rw [hz]; rfl
        have v3e : (q.f1.f2.toList != ([] : List UInt8)) = false := by rw [hz]; rfl
        have HWF := Aside0.mk (HWQ.out.f hz)
        clear hz
        go_wp2_with fail
        obtain ⟨wa, hwa⟩ : ∃ wa : World, wa = wr.alloc (.cells #[.string q.f0.f0, .int .i64 q.f0.f1, .slice B2 q.f0.f2.length d2, .slice B3 q.f0.f3.length d3, .int .i64 q.f0.f4.f0, .slice B5 q.f0.f4.f1.length d5, .slice B6 q.f0.f4.f2.length d6, .int .i64 q.f0.f4.f3, .string q.f1.f0, .string q.f1.f1, .string q.f1.f2] 157) := ⟨_, rfl⟩
        rw [← hwa] at PSa KPa ⊢
        clear hwa v1e v2e v3e x0 x1 x2 x3 x4 x5 x6 x7 x8 x9 x10 q0 q1 q2 q3 q4 q5 q6 q7 q8 q9 q10
        generalize wr.heap.size = g9 at *
        refine (args_any PSa.out.nx.m1 q.f0 HFA.out.p).mono ?_
        rintro e w2 ⟨rfl, E2, hn⟩
        have PS2 := Aside0.mk (PSa.out.go hn)
        have KP2 := Aside0.mk (KPa.out.nx hn)
        clear hn PSa KPa
        go_wp2_with fail
        have PSd := Aside0.mk (PS2.out.below (below_drew1 (Below.refl _ _)))
        have KD := Aside0.mk KP2.out.drew
        have HSS : Aside0 (∀ w' : World, KP h p g9 #[.string q.f0.f0, .int .i64 q.f0.f1, .slice B2 q.f0.f2.length d2, .slice B3 q.f0.f3.length d3, .int .i64 q.f0.f4.f0, .slice B5 q.f0.f4.f1.length d5, .slice B6 q.f0.f4.f2.length d6, .int .i64 q.f0.f4.f3, .string q.f1.f0, .string q.f1.f1, .string q.f1.f2] w' → Below h.W0.heap.size h.W0 w' → w'.cell? ⟨p, 1, none⟩ = some (.int .i64 (h.pkg : Int)) ∧ w'.cell? ⟨p, 3, none⟩ = some (.slice h.U h.wd.f1.length h.cU) ∧ w'.cell? ⟨p, 4, none⟩ = some (.slice h.D h.wd.f2.length h.cD) ∧ w'.cell? ⟨g9, 0, none⟩ = some (.string q.f0.f0) ∧ w'.cell? ⟨g9, 1, none⟩ = some (.int .i64 q.f0.f1) ∧ w'.cell? ⟨g9, 2, none⟩ = some (.slice B2 q.f0.f2.length d2) ∧ w'.cell? ⟨g9, 3, none⟩ = some (.slice B3 q.f0.f3.length d3) ∧ w'.cell? ⟨g9, 4, none⟩ = some (.int .i64 q.f0.f4.f0) ∧ w'.cell? ⟨g9, 5, none⟩ = some (.slice B5 q.f0.f4.f1.length d5) ∧ w'.cell? ⟨g9, 6, none⟩ = some (.slice B6 q.f0.f4.f2.length d6) ∧ w'.cell? ⟨g9, 7, none⟩ = some (.int .i64 q.f0.f4.f3)) := ⟨fun w' k _ => ⟨k.c1, k.c3, k.c4, (blk_cell k.k9 0).trans rfl, (blk_cell k.k9 1).trans rfl, (blk_cell k.k9 2).trans rfl, (blk_cell k.k9 3).trans rfl, (blk_cell k.k9 4).trans rfl, (blk_cell k.k9 5).trans rfl, (blk_cell k.k9 6).trans rfl, (blk_cell k.k9 7).trans rfl⟩⟩
        clear PS2 KP2
        go_region_held_law (fun w' => w'.cell? ⟨p, 1, none⟩ = some (.int .i64 (h.pkg : Int)) ∧ w'.cell? ⟨p, 3, none⟩ = some (.slice h.U h.wd.f1.length h.cU) ∧ w'.cell? ⟨p, 4, none⟩ = some (.slice h.D h.wd.f2.length h.cD) ∧ w'.cell? ⟨g9, 0, none⟩ = some (.string q.f0.f0) ∧ w'.cell? ⟨g9, 1, none⟩ = some (.int .i64 q.f0.f1) ∧ w'.cell? ⟨g9, 2, none⟩ = some (.slice B2 q.f0.f2.length d2) ∧ w'.cell? ⟨g9, 3, none⟩ = some (.slice B3 q.f0.f3.length d3) ∧ w'.cell? ⟨g9, 4, none⟩ = some (.int .i64 q.f0.f4.f0) ∧ w'.cell? ⟨g9, 5, none⟩ = some (.slice B5 q.f0.f4.f1.length d5) ∧ w'.cell? ⟨g9, 6, none⟩ = some (.slice B6 q.f0.f4.f2.length d6) ∧ w'.cell? ⟨g9, 7, none⟩ = some (.int .i64 q.f0.f4.f3))
          (first
            | with_reducible exact HSS.out _ KD.out PSd.out.nx.bl
            | with_reducible exact HSS.out _ K3.out PS3.out.nx.bl
            | with_reducible exact HSS.out _ (K3.out.alloc _) (PS3.out.nx.below (below_alloc (Below.refl _ _) _)).bl
            | with_reducible exact HSS.out _ K4.out PS4.out.nx.bl
            | fail)
          (first
            | (refine Kd.R_append_step PSubFits.k27 (w0 := w3) w.heap.size rfl (.tmp 36) (.tmp 56) 38 27 (.agg #[.string ⟨#[]⟩, .slice none 0 0, .slice none 0 0, .int .i64 0, .slice none 0 0, .slice none 0 0, .int .i64 0]) 128 rfl Try.underlying38 info27 rfl (by decide) (by decide) (.slice AS L.length cS) L y [.string y.f0, .slice G1 y.f1.length e1, .slice G2 y.f2.length e2, .int .i64 y.f3.f0, .slice G4 y.f3.f1.length e4, .slice G5 y.f3.f2.length e5, .int .i64 y.f3.f3] (fun k => k ≠ p ∧ some k ≠ v3.ownBlock) (fun k => (k ≠ p ∧ some k ≠ v3.ownBlock) ∧ w2.drew.heap.size ≤ k) rfl rfl (SV.mk27 HSV.out PSd.out.lt.2.1) (PSd.out.okp v3) PS3.out.fr PS3.out.r (Below.refl _ _) PS3.out.lt.2.1 HLN.out ?_; intro v4 w4 r1 r2 r3 r4; obtain ⟨AM, cM, hv4, _⟩ := Kd.R_reads r1; replace hv4 : v4 = .slice AM (L.length + 1) cM := (by rw [hv4]; simp); subst hv4; have K4 := Aside0.mk (K3.out.grown PS3.out.r r3); have PS4 := Aside0.mk (PS3.out.app HGD.out r1 r3); clear r1 r2 r3 r4)
            | (go_simp; go_at_call 92; refine (sig_any OK.out PSd.out.nx.m1 ⟨#[]⟩ h.pkg h.wd.f1 h.U h.cU h.wd.f2 h.D h.cD false HSC.out q.f0 B2 d2 B3 d3 B5 d5 B6 d6 HFA.out HWF.out ⟨#[]⟩ (by decide) (fun _ => .inr rfl)).mono ?_; rintro e w3 ⟨v3, E3, res3, y, G1, e1, G2, e2, G4, e4, G5, e5, rfl, hn, hsv, hgd⟩; have HSV := Aside0.mk hsv; have HGD := Aside0.mk hgd; have PS3 := Aside0.mk (PSd.out.go hn); have K3 := Aside0.mk (KD.out.nx hn); have HLN : Aside0 ((L.length + 1) * 128 ≤ 140737488355328) := ⟨by have := PSd.out.ln; omega⟩; clear hn hsv hgd; simp only [s27C]))
        go_wp2_with fail
        go_roundw
        case rel => exact ⟨i + 1, v3, E3, res3, L ++ [y], AM, cM, by omega, by go_num, by simp, ⟨PS4.out.le (by omega)⟩⟩
        case measure => simp [intOf]; omega
      · have v1e : (q.f1.f2.toList == ([] : List UInt8)) = false := by rw [beq_eq_false_iff_ne]; exact hz
        have v2e : q.f1.f2.toList.isEmpty = false := by rw [List.isEmpty_eq_false_iff]; exact hz
        have v3e : (q.f1.f2.toList != ([] : List UInt8)) = true := by rw [bne_iff_ne]; exact hz
        clear hz
        go_upto_region 9 with fail
        obtain ⟨wa, hwa⟩ : ∃ wa : World, wa = wr.alloc (.cells #[.string q.f0.f0, .int .i64 q.f0.f1, .slice B2 q.f0.f2.length d2, .slice B3 q.f0.f3.length d3, .int .i64 q.f0.f4.f0, .slice B5 q.f0.f4.f1.length d5, .slice B6 q.f0.f4.f2.length d6, .int .i64 q.f0.f4.f3, .string q.f1.f0, .string q.f1.f1, .string q.f1.f2] 157) := ⟨_, rfl⟩
        rw [← hwa] at PSa KPa ⊢
        clear hwa v1e v2e v3e x0 x1 x2 x3 x4 x5 x6 x7 x8 x9 x10 q0 q1 q2 q3 q4 q5 q6 q7 q8 q9 q10
        generalize wr.heap.size = g9 at *
        go_cut [10, 11, 12] (fun s10 s11 s12 wx => ∃ (g10 g11 : Nat) (E2 : Int) (key2 : ByteArray) (at2 : Nat) (x2 : S142) (U2 : Option Addr) (cU2 : Nat) (D2 : Option Addr) (cD2 : Nat) (F2 : Option Addr) (cF2 : Nat) (b2 okb : Bool), s10 = .pointer (some ⟨g10, 0, none⟩) ∧ s11 = .pointer (some ⟨g11, 0, none⟩) ∧ s12 = .bool okb ∧ Aside0 (PS h p vi vo w v E res (4160 * i) wx v1 E2 res1 L AS cS) ∧ Aside0 (KQ g10 g11 #[.string key2, .int .i64 (at2 : Int), .slice U2 x2.f1.length cU2, .slice D2 x2.f2.length cD2, .bool b2] #[.string x2.f0, .slice U2 x2.f1.length cU2, .slice D2 x2.f2.length cD2, .slice F2 x2.f3.length cF2] wx) ∧ Aside0 ((okb = false → E2 ≠ 0) ∧ (okb = true → Scp h key2 at2 x2.f1 U2 x2.f2 D2 ∧ k146.C h.W0 F2 x2.f3.length x2.f3 ∧ WfI x2)))
        case first =>
          have PSV0 : Aside0 (PS h p vi vo w v E res (4160 * i) wa.drew v1 E1 res1 L AS cS) := ⟨PSa.out.below (below_drew1 (Below.refl _ _))⟩
          have KPV0 : Aside0 (KP h p g9 #[.string q.f0.f0, .int .i64 q.f0.f1, .slice B2 q.f0.f2.length d2, .slice B3 q.f0.f3.length d3, .int .i64 q.f0.f4.f0, .slice B5 q.f0.f4.f1.length d5, .slice B6 q.f0.f4.f2.length d6, .int .i64 q.f0.f4.f3, .string q.f1.f0, .string q.f1.f1, .string q.f1.f2] wa.drew) := ⟨KPa.out.drew⟩
          have PSV1 : Aside0 (PS h p vi vo w v E res (4160 * i) (wa.alloc (.cells #[.string ⟨#[]⟩, .int .i64 0, .slice none 0 0, .slice none 0 0, .bool false] 160)).drew v1 E1 res1 L AS cS) := ⟨PSa.out.below (below_drew1 (below_alloc (Below.refl _ _) (.cells #[.string ⟨#[]⟩, .int .i64 0, .slice none 0 0, .slice none 0 0, .bool false] 160)))⟩
          have KPV1 : Aside0 (KP h p g9 #[.string q.f0.f0, .int .i64 q.f0.f1, .slice B2 q.f0.f2.length d2, .slice B3 q.f0.f3.length d3, .int .i64 q.f0.f4.f0, .slice B5 q.f0.f4.f1.length d5, .slice B6 q.f0.f4.f2.length d6, .int .i64 q.f0.f4.f3, .string q.f1.f0, .string q.f1.f1, .string q.f1.f2] (wa.alloc (.cells #[.string ⟨#[]⟩, .int .i64 0, .slice none 0 0, .slice none 0 0, .bool false] 160)).drew) := ⟨(KPa.out.alloc (.cells #[.string ⟨#[]⟩, .int .i64 0, .slice none 0 0, .slice none 0 0, .bool false] 160)).drew⟩
          have PSV2 : Aside0 (PS h p vi vo w v E res (4160 * i) (wa.alloc (.cells #[.string ⟨#[]⟩, .slice none 0 0, .slice none 0 0, .slice none 0 0] 142)).drew v1 E1 res1 L AS cS) := ⟨PSa.out.below (below_drew1 (below_alloc (Below.refl _ _) (.cells #[.string ⟨#[]⟩, .slice none 0 0, .slice none 0 0, .slice none 0 0] 142)))⟩
          have KPV2 : Aside0 (KP h p g9 #[.string q.f0.f0, .int .i64 q.f0.f1, .slice B2 q.f0.f2.length d2, .slice B3 q.f0.f3.length d3, .int .i64 q.f0.f4.f0, .slice B5 q.f0.f4.f1.length d5, .slice B6 q.f0.f4.f2.length d6, .int .i64 q.f0.f4.f3, .string q.f1.f0, .string q.f1.f1, .string q.f1.f2] (wa.alloc (.cells #[.string ⟨#[]⟩, .slice none 0 0, .slice none 0 0, .slice none 0 0] 142)).drew) := ⟨(KPa.out.alloc (.cells #[.string ⟨#[]⟩, .slice none 0 0, .slice none 0 0, .slice none 0 0] 142)).drew⟩
          have PSV3 : Aside0 (PS h p vi vo w v E res (4160 * i) ((wa.alloc (.cells #[.string ⟨#[]⟩, .int .i64 0, .slice none 0 0, .slice none 0 0, .bool false] 160)).alloc (.cells #[.string ⟨#[]⟩, .slice none 0 0, .slice none 0 0, .slice none 0 0] 142)).drew v1 E1 res1 L AS cS) := ⟨PSa.out.below (below_drew1 (below_alloc (below_alloc (Below.refl _ _) (.cells #[.string ⟨#[]⟩, .int .i64 0, .slice none 0 0, .slice none 0 0, .bool false] 160)) (.cells #[.string ⟨#[]⟩, .slice none 0 0, .slice none 0 0, .slice none 0 0] 142)))⟩
          have KPV3 : Aside0 (KP h p g9 #[.string q.f0.f0, .int .i64 q.f0.f1, .slice B2 q.f0.f2.length d2, .slice B3 q.f0.f3.length d3, .int .i64 q.f0.f4.f0, .slice B5 q.f0.f4.f1.length d5, .slice B6 q.f0.f4.f2.length d6, .int .i64 q.f0.f4.f3, .string q.f1.f0, .string q.f1.f1, .string q.f1.f2] ((wa.alloc (.cells #[.string ⟨#[]⟩, .int .i64 0, .slice none 0 0, .slice none 0 0, .bool false] 160)).alloc (.cells #[.string ⟨#[]⟩, .slice none 0 0, .slice none 0 0, .slice none 0 0] 142)).drew) := ⟨((KPa.out.alloc (.cells #[.string ⟨#[]⟩, .int .i64 0, .slice none 0 0, .slice none 0 0, .bool false] 160)).alloc (.cells #[.string ⟨#[]⟩, .slice none 0 0, .slice none 0 0, .slice none 0 0] 142)).drew⟩
          have PSV4 : Aside0 (PS h p vi vo w v E res (4160 * i) ((wa.alloc (.cells #[.string ⟨#[]⟩, .slice none 0 0, .slice none 0 0, .slice none 0 0] 142)).alloc (.cells #[.string ⟨#[]⟩, .int .i64 0, .slice none 0 0, .slice none 0 0, .bool false] 160)).drew v1 E1 res1 L AS cS) := ⟨PSa.out.below (below_drew1 (below_alloc (below_alloc (Below.refl _ _) (.cells #[.string ⟨#[]⟩, .slice none 0 0, .slice none 0 0, .slice none 0 0] 142)) (.cells #[.string ⟨#[]⟩, .int .i64 0, .slice none 0 0, .slice none 0 0, .bool false] 160)))⟩
          have KPV4 : Aside0 (KP h p g9 #[.string q.f0.f0, .int .i64 q.f0.f1, .slice B2 q.f0.f2.length d2, .slice B3 q.f0.f3.length d3, .int .i64 q.f0.f4.f0, .slice B5 q.f0.f4.f1.length d5, .slice B6 q.f0.f4.f2.length d6, .int .i64 q.f0.f4.f3, .string q.f1.f0, .string q.f1.f1, .string q.f1.f2] ((wa.alloc (.cells #[.string ⟨#[]⟩, .slice none 0 0, .slice none 0 0, .slice none 0 0] 142)).alloc (.cells #[.string ⟨#[]⟩, .int .i64 0, .slice none 0 0, .slice none 0 0, .bool false] 160)).drew) := ⟨((KPa.out.alloc (.cells #[.string ⟨#[]⟩, .slice none 0 0, .slice none 0 0, .slice none 0 0] 142)).alloc (.cells #[.string ⟨#[]⟩, .int .i64 0, .slice none 0 0, .slice none 0 0, .bool false] 160)).drew⟩
          have B1a : Aside0 ((wa.alloc (.cells #[.string ⟨#[]⟩, .int .i64 0, .slice none 0 0, .slice none 0 0, .bool false] 160)).drew.heap[wa.heap.size]? = some (.cells #[.string ⟨#[]⟩, .int .i64 0, .slice none 0 0, .slice none 0 0, .bool false] 160 (0, 0))) := ⟨blk_new wa _⟩
          have B2a : Aside0 ((wa.alloc (.cells #[.string ⟨#[]⟩, .slice none 0 0, .slice none 0 0, .slice none 0 0] 142)).drew.heap[wa.heap.size]? = some (.cells #[.string ⟨#[]⟩, .slice none 0 0, .slice none 0 0, .slice none 0 0] 142 (0, 0))) := ⟨blk_new wa _⟩
          have B3a : Aside0 (((wa.alloc (.cells #[.string ⟨#[]⟩, .int .i64 0, .slice none 0 0, .slice none 0 0, .bool false] 160)).alloc (.cells #[.string ⟨#[]⟩, .slice none 0 0, .slice none 0 0, .slice none 0 0] 142)).drew.heap[wa.heap.size]? = some (.cells #[.string ⟨#[]⟩, .int .i64 0, .slice none 0 0, .slice none 0 0, .bool false] 160 (0, 0))) := ⟨blk_alloc (blk_new wa _) _⟩
          have B3b : Aside0 (((wa.alloc (.cells #[.string ⟨#[]⟩, .int .i64 0, .slice none 0 0, .slice none 0 0, .bool false] 160)).alloc (.cells #[.string ⟨#[]⟩, .slice none 0 0, .slice none 0 0, .slice none 0 0] 142)).drew.heap[wa.heap.size + 1]? = some (.cells #[.string ⟨#[]⟩, .slice none 0 0, .slice none 0 0, .slice none 0 0] 142 (0, 0))) := ⟨by have := blk_new (wa.alloc (.cells #[.string ⟨#[]⟩, .int .i64 0, .slice none 0 0, .slice none 0 0, .bool false] 160)) (.cells #[.string ⟨#[]⟩, .slice none 0 0, .slice none 0 0, .slice none 0 0] 142); simp only [World.size_alloc] at this; exact this⟩
          have B4a : Aside0 (((wa.alloc (.cells #[.string ⟨#[]⟩, .slice none 0 0, .slice none 0 0, .slice none 0 0] 142)).alloc (.cells #[.string ⟨#[]⟩, .int .i64 0, .slice none 0 0, .slice none 0 0, .bool false] 160)).drew.heap[wa.heap.size]? = some (.cells #[.string ⟨#[]⟩, .slice none 0 0, .slice none 0 0, .slice none 0 0] 142 (0, 0))) := ⟨blk_alloc (blk_new wa _) _⟩
          have B4b : Aside0 (((wa.alloc (.cells #[.string ⟨#[]⟩, .slice none 0 0, .slice none 0 0, .slice none 0 0] 142)).alloc (.cells #[.string ⟨#[]⟩, .int .i64 0, .slice none 0 0, .slice none 0 0, .bool false] 160)).drew.heap[wa.heap.size + 1]? = some (.cells #[.string ⟨#[]⟩, .int .i64 0, .slice none 0 0, .slice none 0 0, .bool false] 160 (0, 0))) := ⟨by have := blk_new (wa.alloc (.cells #[.string ⟨#[]⟩, .slice none 0 0, .slice none 0 0, .slice none 0 0] 142)) (.cells #[.string ⟨#[]⟩, .int .i64 0, .slice none 0 0, .slice none 0 0, .bool false] 160); simp only [World.size_alloc] at this; exact this⟩
          have HLTA := Aside0.mk PSa.out.lt
          have HLK := Aside0.mk (blk_lt KPa.out.k9)
          have HWA := Aside0.mk PSa.out.lt.2.1
          have ng0 : g9 ≠ wa.heap.size := by have := HLK.out; omega
          have ng1 : g9 ≠ wa.heap.size + 1 := by have := HLK.out; omega
          have np0 : p ≠ wa.heap.size := by have := HLTA.out.1; omega
          have np1 : p ≠ wa.heap.size + 1 := by have := HLTA.out.1; omega
          have HSS : Aside0 (∀ w' : World, KP h p g9 #[.string q.f0.f0, .int .i64 q.f0.f1, .slice B2 q.f0.f2.length d2, .slice B3 q.f0.f3.length d3, .int .i64 q.f0.f4.f0, .slice B5 q.f0.f4.f1.length d5, .slice B6 q.f0.f4.f2.length d6, .int .i64 q.f0.f4.f3, .string q.f1.f0, .string q.f1.f1, .string q.f1.f2] w' → w'.cell? ⟨p, 1, none⟩ = some (.int .i64 (h.pkg : Int)) ∧ w'.cell? ⟨g9, 8, none⟩ = some (.string q.f1.f0) ∧ w'.cell? ⟨g9, 9, none⟩ = some (.string q.f1.f1) ∧ w'.cell? ⟨g9, 10, none⟩ = some (.string q.f1.f2)) := ⟨fun w' k => ⟨k.c1, (blk_cell k.k9 8).trans rfl, (blk_cell k.k9 9).trans rfl, (blk_cell k.k9 10).trans rfl⟩⟩
          go_region_held3 (fun w' => w'.cell? ⟨p, 1, none⟩ = some (.int .i64 (h.pkg : Int)) ∧ w'.cell? ⟨g9, 8, none⟩ = some (.string q.f1.f0) ∧ w'.cell? ⟨g9, 9, none⟩ = some (.string q.f1.f1) ∧ w'.cell? ⟨g9, 10, none⟩ = some (.string q.f1.f2))
            (exact HSS.out _ (by repeat (first | with_reducible exact KPV0.out | with_reducible exact KPV1.out | with_reducible exact KPV2.out | with_reducible exact KPV3.out | with_reducible exact KPV4.out | with_reducible exact K3.out | with_reducible refine KP.alloc ?_ _ | with_reducible refine KP.set ?_ (by with_reducible assumption) (by with_reducible assumption) _ _ | fail)))
            ((go_at_call 93; (first | (refine (scope_one OK.out PSV0.out.nx.m1 q.f1 h.pkg HSC.out.pk out).mono ?_; rintro e w3 ⟨E2, key2, at2, x2, U2, cU2, D2, cD2, F2, cF2, b2, okb, rfl, hn, hE, hO⟩; (have PS3 := Aside0.mk (PSV0.out.go hn); have K3 := Aside0.mk (KPV0.out.nx hn))) | (refine (scope_one OK.out PSV1.out.nx.m1 q.f1 h.pkg HSC.out.pk out).mono ?_; rintro e w3 ⟨E2, key2, at2, x2, U2, cU2, D2, cD2, F2, cF2, b2, okb, rfl, hn, hE, hO⟩; (have PS3 := Aside0.mk (PSV1.out.go hn); have K3 := Aside0.mk (KPV1.out.nx hn); have Km := Aside0.mk (hn.blk B1a.out (by decide) (by decide)); have m0 : w3.cell? ⟨wa.heap.size, 0, none⟩ = some (.string ⟨#[]⟩) := (blk_cell Km.out 0).trans rfl; have m1 : w3.cell? ⟨wa.heap.size, 1, none⟩ = some (.int .i64 0) := (blk_cell Km.out 1).trans rfl; have m2 : w3.cell? ⟨wa.heap.size, 2, none⟩ = some (.slice none 0 0) := (blk_cell Km.out 2).trans rfl; have m3 : w3.cell? ⟨wa.heap.size, 3, none⟩ = some (.slice none 0 0) := (blk_cell Km.out 3).trans rfl; have m4 : w3.cell? ⟨wa.heap.size, 4, none⟩ = some (.bool false) := (blk_cell Km.out 4).trans rfl; have mf0 : w3.frozen? ⟨wa.heap.size, 0, none⟩ = false := blk_frozen Km.out 0; have mf1 : w3.frozen? ⟨wa.heap.size, 1, none⟩ = false := blk_frozen Km.out 1; have mf2 : w3.frozen? ⟨wa.heap.size, 2, none⟩ = false := blk_frozen Km.out 2; have mf3 : w3.frozen? ⟨wa.heap.size, 3, none⟩ = false := blk_frozen Km.out 3; have mf4 : w3.frozen? ⟨wa.heap.size, 4, none⟩ = false := blk_frozen Km.out 4; have mm0 : (w3.alloc (.cells #[.string ⟨#[]⟩, .slice none 0 0, .slice none 0 0, .slice none 0 0] 142)).cell? ⟨wa.heap.size, 0, none⟩ = some (.string ⟨#[]⟩) := (blk_cell (blk_alloc Km.out (.cells #[.string ⟨#[]⟩, .slice none 0 0, .slice none 0 0, .slice none 0 0] 142)) 0).trans rfl; have mm1 : (w3.alloc (.cells #[.string ⟨#[]⟩, .slice none 0 0, .slice none 0 0, .slice none 0 0] 142)).cell? ⟨wa.heap.size, 1, none⟩ = some (.int .i64 0) := (blk_cell (blk_alloc Km.out (.cells #[.string ⟨#[]⟩, .slice none 0 0, .slice none 0 0, .slice none 0 0] 142)) 1).trans rfl; have mm2 : (w3.alloc (.cells #[.string ⟨#[]⟩, .slice none 0 0, .slice none 0 0, .slice none 0 0] 142)).cell? ⟨wa.heap.size, 2, none⟩ = some (.slice none 0 0) := (blk_cell (blk_alloc Km.out (.cells #[.string ⟨#[]⟩, .slice none 0 0, .slice none 0 0, .slice none 0 0] 142)) 2).trans rfl; have mm3 : (w3.alloc (.cells #[.string ⟨#[]⟩, .slice none 0 0, .slice none 0 0, .slice none 0 0] 142)).cell? ⟨wa.heap.size, 3, none⟩ = some (.slice none 0 0) := (blk_cell (blk_alloc Km.out (.cells #[.string ⟨#[]⟩, .slice none 0 0, .slice none 0 0, .slice none 0 0] 142)) 3).trans rfl; have mm4 : (w3.alloc (.cells #[.string ⟨#[]⟩, .slice none 0 0, .slice none 0 0, .slice none 0 0] 142)).cell? ⟨wa.heap.size, 4, none⟩ = some (.bool false) := (blk_cell (blk_alloc Km.out (.cells #[.string ⟨#[]⟩, .slice none 0 0, .slice none 0 0, .slice none 0 0] 142)) 4).trans rfl; have mmf0 : (w3.alloc (.cells #[.string ⟨#[]⟩, .slice none 0 0, .slice none 0 0, .slice none 0 0] 142)).frozen? ⟨wa.heap.size, 0, none⟩ = false := blk_frozen (blk_alloc Km.out (.cells #[.string ⟨#[]⟩, .slice none 0 0, .slice none 0 0, .slice none 0 0] 142)) 0; have mmf1 : (w3.alloc (.cells #[.string ⟨#[]⟩, .slice none 0 0, .slice none 0 0, .slice none 0 0] 142)).frozen? ⟨wa.heap.size, 1, none⟩ = false := blk_frozen (blk_alloc Km.out (.cells #[.string ⟨#[]⟩, .slice none 0 0, .slice none 0 0, .slice none 0 0] 142)) 1; have mmf2 : (w3.alloc (.cells #[.string ⟨#[]⟩, .slice none 0 0, .slice none 0 0, .slice none 0 0] 142)).frozen? ⟨wa.heap.size, 2, none⟩ = false := blk_frozen (blk_alloc Km.out (.cells #[.string ⟨#[]⟩, .slice none 0 0, .slice none 0 0, .slice none 0 0] 142)) 2; have mmf3 : (w3.alloc (.cells #[.string ⟨#[]⟩, .slice none 0 0, .slice none 0 0, .slice none 0 0] 142)).frozen? ⟨wa.heap.size, 3, none⟩ = false := blk_frozen (blk_alloc Km.out (.cells #[.string ⟨#[]⟩, .slice none 0 0, .slice none 0 0, .slice none 0 0] 142)) 3; have mmf4 : (w3.alloc (.cells #[.string ⟨#[]⟩, .slice none 0 0, .slice none 0 0, .slice none 0 0] 142)).frozen? ⟨wa.heap.size, 4, none⟩ = false := blk_frozen (blk_alloc Km.out (.cells #[.string ⟨#[]⟩, .slice none 0 0, .slice none 0 0, .slice none 0 0] 142)) 4; have na2 : wa.heap.size ≠ w3.heap.size := (by have := blk_lt Km.out; omega); have na3 := na2.symm; have Kch : Aside0 (((((((w3.alloc (.cells #[.string ⟨#[]⟩, .slice none 0 0, .slice none 0 0, .slice none 0 0] 142)).setCell ⟨wa.heap.size, 0, none⟩ (.string key2)).setCell ⟨wa.heap.size, 1, none⟩ (.int .i64 (at2 : Int))).setCell ⟨wa.heap.size, 2, none⟩ (.slice U2 x2.f1.length cU2)).setCell ⟨wa.heap.size, 3, none⟩ (.slice D2 x2.f2.length cD2)).setCell ⟨wa.heap.size, 4, none⟩ (.bool b2)).heap[w3.heap.size]? = some (.cells #[.string ⟨#[]⟩, .slice none 0 0, .slice none 0 0, .slice none 0 0] 142 (0, 0))) := ⟨blk_far (blk_far (blk_far (blk_far (blk_far (blk_new w3 _) na3 _) na3 _) na3 _) na3 _) na3 _⟩; have ch0 : ((((((w3.alloc (.cells #[.string ⟨#[]⟩, .slice none 0 0, .slice none 0 0, .slice none 0 0] 142)).setCell ⟨wa.heap.size, 0, none⟩ (.string key2)).setCell ⟨wa.heap.size, 1, none⟩ (.int .i64 (at2 : Int))).setCell ⟨wa.heap.size, 2, none⟩ (.slice U2 x2.f1.length cU2)).setCell ⟨wa.heap.size, 3, none⟩ (.slice D2 x2.f2.length cD2)).setCell ⟨wa.heap.size, 4, none⟩ (.bool b2)).cell? ⟨w3.heap.size, 0, none⟩ = some (.string ⟨#[]⟩) := (blk_cell Kch.out 0).trans rfl; have ch1 : ((((((w3.alloc (.cells #[.string ⟨#[]⟩, .slice none 0 0, .slice none 0 0, .slice none 0 0] 142)).setCell ⟨wa.heap.size, 0, none⟩ (.string key2)).setCell ⟨wa.heap.size, 1, none⟩ (.int .i64 (at2 : Int))).setCell ⟨wa.heap.size, 2, none⟩ (.slice U2 x2.f1.length cU2)).setCell ⟨wa.heap.size, 3, none⟩ (.slice D2 x2.f2.length cD2)).setCell ⟨wa.heap.size, 4, none⟩ (.bool b2)).cell? ⟨w3.heap.size, 1, none⟩ = some (.slice none 0 0) := (blk_cell Kch.out 1).trans rfl; have ch2 : ((((((w3.alloc (.cells #[.string ⟨#[]⟩, .slice none 0 0, .slice none 0 0, .slice none 0 0] 142)).setCell ⟨wa.heap.size, 0, none⟩ (.string key2)).setCell ⟨wa.heap.size, 1, none⟩ (.int .i64 (at2 : Int))).setCell ⟨wa.heap.size, 2, none⟩ (.slice U2 x2.f1.length cU2)).setCell ⟨wa.heap.size, 3, none⟩ (.slice D2 x2.f2.length cD2)).setCell ⟨wa.heap.size, 4, none⟩ (.bool b2)).cell? ⟨w3.heap.size, 2, none⟩ = some (.slice none 0 0) := (blk_cell Kch.out 2).trans rfl; have ch3 : ((((((w3.alloc (.cells #[.string ⟨#[]⟩, .slice none 0 0, .slice none 0 0, .slice none 0 0] 142)).setCell ⟨wa.heap.size, 0, none⟩ (.string key2)).setCell ⟨wa.heap.size, 1, none⟩ (.int .i64 (at2 : Int))).setCell ⟨wa.heap.size, 2, none⟩ (.slice U2 x2.f1.length cU2)).setCell ⟨wa.heap.size, 3, none⟩ (.slice D2 x2.f2.length cD2)).setCell ⟨wa.heap.size, 4, none⟩ (.bool b2)).cell? ⟨w3.heap.size, 3, none⟩ = some (.slice none 0 0) := (blk_cell Kch.out 3).trans rfl; have chf0 : ((((((w3.alloc (.cells #[.string ⟨#[]⟩, .slice none 0 0, .slice none 0 0, .slice none 0 0] 142)).setCell ⟨wa.heap.size, 0, none⟩ (.string key2)).setCell ⟨wa.heap.size, 1, none⟩ (.int .i64 (at2 : Int))).setCell ⟨wa.heap.size, 2, none⟩ (.slice U2 x2.f1.length cU2)).setCell ⟨wa.heap.size, 3, none⟩ (.slice D2 x2.f2.length cD2)).setCell ⟨wa.heap.size, 4, none⟩ (.bool b2)).frozen? ⟨w3.heap.size, 0, none⟩ = false := blk_frozen Kch.out 0; have chf1 : ((((((w3.alloc (.cells #[.string ⟨#[]⟩, .slice none 0 0, .slice none 0 0, .slice none 0 0] 142)).setCell ⟨wa.heap.size, 0, none⟩ (.string key2)).setCell ⟨wa.heap.size, 1, none⟩ (.int .i64 (at2 : Int))).setCell ⟨wa.heap.size, 2, none⟩ (.slice U2 x2.f1.length cU2)).setCell ⟨wa.heap.size, 3, none⟩ (.slice D2 x2.f2.length cD2)).setCell ⟨wa.heap.size, 4, none⟩ (.bool b2)).frozen? ⟨w3.heap.size, 1, none⟩ = false := blk_frozen Kch.out 1; have chf2 : ((((((w3.alloc (.cells #[.string ⟨#[]⟩, .slice none 0 0, .slice none 0 0, .slice none 0 0] 142)).setCell ⟨wa.heap.size, 0, none⟩ (.string key2)).setCell ⟨wa.heap.size, 1, none⟩ (.int .i64 (at2 : Int))).setCell ⟨wa.heap.size, 2, none⟩ (.slice U2 x2.f1.length cU2)).setCell ⟨wa.heap.size, 3, none⟩ (.slice D2 x2.f2.length cD2)).setCell ⟨wa.heap.size, 4, none⟩ (.bool b2)).frozen? ⟨w3.heap.size, 2, none⟩ = false := blk_frozen Kch.out 2; have chf3 : ((((((w3.alloc (.cells #[.string ⟨#[]⟩, .slice none 0 0, .slice none 0 0, .slice none 0 0] 142)).setCell ⟨wa.heap.size, 0, none⟩ (.string key2)).setCell ⟨wa.heap.size, 1, none⟩ (.int .i64 (at2 : Int))).setCell ⟨wa.heap.size, 2, none⟩ (.slice U2 x2.f1.length cU2)).setCell ⟨wa.heap.size, 3, none⟩ (.slice D2 x2.f2.length cD2)).setCell ⟨wa.heap.size, 4, none⟩ (.bool b2)).frozen? ⟨w3.heap.size, 3, none⟩ = false := blk_frozen Kch.out 3)) | (refine (scope_one OK.out PSV2.out.nx.m1 q.f1 h.pkg HSC.out.pk out).mono ?_; rintro e w3 ⟨E2, key2, at2, x2, U2, cU2, D2, cD2, F2, cF2, b2, okb, rfl, hn, hE, hO⟩; (have PS3 := Aside0.mk (PSV2.out.go hn); have K3 := Aside0.mk (KPV2.out.nx hn); have Kn := Aside0.mk (hn.blk B2a.out (by decide) (by decide)); have n0 : w3.cell? ⟨wa.heap.size, 0, none⟩ = some (.string ⟨#[]⟩) := (blk_cell Kn.out 0).trans rfl; have n1 : w3.cell? ⟨wa.heap.size, 1, none⟩ = some (.slice none 0 0) := (blk_cell Kn.out 1).trans rfl; have n2 : w3.cell? ⟨wa.heap.size, 2, none⟩ = some (.slice none 0 0) := (blk_cell Kn.out 2).trans rfl; have n3 : w3.cell? ⟨wa.heap.size, 3, none⟩ = some (.slice none 0 0) := (blk_cell Kn.out 3).trans rfl; have nf0 : w3.frozen? ⟨wa.heap.size, 0, none⟩ = false := blk_frozen Kn.out 0; have nf1 : w3.frozen? ⟨wa.heap.size, 1, none⟩ = false := blk_frozen Kn.out 1; have nf2 : w3.frozen? ⟨wa.heap.size, 2, none⟩ = false := blk_frozen Kn.out 2; have nf3 : w3.frozen? ⟨wa.heap.size, 3, none⟩ = false := blk_frozen Kn.out 3; have nn0 : (w3.alloc (.cells #[.string key2, .int .i64 (at2 : Int), .slice U2 x2.f1.length cU2, .slice D2 x2.f2.length cD2, .bool b2] 160)).cell? ⟨wa.heap.size, 0, none⟩ = some (.string ⟨#[]⟩) := (blk_cell (blk_alloc Kn.out (.cells #[.string key2, .int .i64 (at2 : Int), .slice U2 x2.f1.length cU2, .slice D2 x2.f2.length cD2, .bool b2] 160)) 0).trans rfl; have nn1 : (w3.alloc (.cells #[.string key2, .int .i64 (at2 : Int), .slice U2 x2.f1.length cU2, .slice D2 x2.f2.length cD2, .bool b2] 160)).cell? ⟨wa.heap.size, 1, none⟩ = some (.slice none 0 0) := (blk_cell (blk_alloc Kn.out (.cells #[.string key2, .int .i64 (at2 : Int), .slice U2 x2.f1.length cU2, .slice D2 x2.f2.length cD2, .bool b2] 160)) 1).trans rfl; have nn2 : (w3.alloc (.cells #[.string key2, .int .i64 (at2 : Int), .slice U2 x2.f1.length cU2, .slice D2 x2.f2.length cD2, .bool b2] 160)).cell? ⟨wa.heap.size, 2, none⟩ = some (.slice none 0 0) := (blk_cell (blk_alloc Kn.out (.cells #[.string key2, .int .i64 (at2 : Int), .slice U2 x2.f1.length cU2, .slice D2 x2.f2.length cD2, .bool b2] 160)) 2).trans rfl; have nn3 : (w3.alloc (.cells #[.string key2, .int .i64 (at2 : Int), .slice U2 x2.f1.length cU2, .slice D2 x2.f2.length cD2, .bool b2] 160)).cell? ⟨wa.heap.size, 3, none⟩ = some (.slice none 0 0) := (blk_cell (blk_alloc Kn.out (.cells #[.string key2, .int .i64 (at2 : Int), .slice U2 x2.f1.length cU2, .slice D2 x2.f2.length cD2, .bool b2] 160)) 3).trans rfl; have nnf0 : (w3.alloc (.cells #[.string key2, .int .i64 (at2 : Int), .slice U2 x2.f1.length cU2, .slice D2 x2.f2.length cD2, .bool b2] 160)).frozen? ⟨wa.heap.size, 0, none⟩ = false := blk_frozen (blk_alloc Kn.out (.cells #[.string key2, .int .i64 (at2 : Int), .slice U2 x2.f1.length cU2, .slice D2 x2.f2.length cD2, .bool b2] 160)) 0; have nnf1 : (w3.alloc (.cells #[.string key2, .int .i64 (at2 : Int), .slice U2 x2.f1.length cU2, .slice D2 x2.f2.length cD2, .bool b2] 160)).frozen? ⟨wa.heap.size, 1, none⟩ = false := blk_frozen (blk_alloc Kn.out (.cells #[.string key2, .int .i64 (at2 : Int), .slice U2 x2.f1.length cU2, .slice D2 x2.f2.length cD2, .bool b2] 160)) 1; have nnf2 : (w3.alloc (.cells #[.string key2, .int .i64 (at2 : Int), .slice U2 x2.f1.length cU2, .slice D2 x2.f2.length cD2, .bool b2] 160)).frozen? ⟨wa.heap.size, 2, none⟩ = false := blk_frozen (blk_alloc Kn.out (.cells #[.string key2, .int .i64 (at2 : Int), .slice U2 x2.f1.length cU2, .slice D2 x2.f2.length cD2, .bool b2] 160)) 2; have nnf3 : (w3.alloc (.cells #[.string key2, .int .i64 (at2 : Int), .slice U2 x2.f1.length cU2, .slice D2 x2.f2.length cD2, .bool b2] 160)).frozen? ⟨wa.heap.size, 3, none⟩ = false := blk_frozen (blk_alloc Kn.out (.cells #[.string key2, .int .i64 (at2 : Int), .slice U2 x2.f1.length cU2, .slice D2 x2.f2.length cD2, .bool b2] 160)) 3; have na2 : wa.heap.size ≠ w3.heap.size := (by have := blk_lt Kn.out; omega); have na3 := na2.symm)) | (refine (scope_one OK.out PSV3.out.nx.m1 q.f1 h.pkg HSC.out.pk out).mono ?_; rintro e w3 ⟨E2, key2, at2, x2, U2, cU2, D2, cD2, F2, cF2, b2, okb, rfl, hn, hE, hO⟩; (have PS3 := Aside0.mk (PSV3.out.go hn); have K3 := Aside0.mk (KPV3.out.nx hn); have Km := Aside0.mk (hn.blk B3a.out (by decide) (by decide)); have m0 : w3.cell? ⟨wa.heap.size, 0, none⟩ = some (.string ⟨#[]⟩) := (blk_cell Km.out 0).trans rfl; have m1 : w3.cell? ⟨wa.heap.size, 1, none⟩ = some (.int .i64 0) := (blk_cell Km.out 1).trans rfl; have m2 : w3.cell? ⟨wa.heap.size, 2, none⟩ = some (.slice none 0 0) := (blk_cell Km.out 2).trans rfl; have m3 : w3.cell? ⟨wa.heap.size, 3, none⟩ = some (.slice none 0 0) := (blk_cell Km.out 3).trans rfl; have m4 : w3.cell? ⟨wa.heap.size, 4, none⟩ = some (.bool false) := (blk_cell Km.out 4).trans rfl; have mf0 : w3.frozen? ⟨wa.heap.size, 0, none⟩ = false := blk_frozen Km.out 0; have mf1 : w3.frozen? ⟨wa.heap.size, 1, none⟩ = false := blk_frozen Km.out 1; have mf2 : w3.frozen? ⟨wa.heap.size, 2, none⟩ = false := blk_frozen Km.out 2; have mf3 : w3.frozen? ⟨wa.heap.size, 3, none⟩ = false := blk_frozen Km.out 3; have mf4 : w3.frozen? ⟨wa.heap.size, 4, none⟩ = false := blk_frozen Km.out 4; have Kn := Aside0.mk (hn.blk B3b.out (by decide) (by decide)); have n0 : w3.cell? ⟨(wa.heap.size + 1), 0, none⟩ = some (.string ⟨#[]⟩) := (blk_cell Kn.out 0).trans rfl; have n1 : w3.cell? ⟨(wa.heap.size + 1), 1, none⟩ = some (.slice none 0 0) := (blk_cell Kn.out 1).trans rfl; have n2 : w3.cell? ⟨(wa.heap.size + 1), 2, none⟩ = some (.slice none 0 0) := (blk_cell Kn.out 2).trans rfl; have n3 : w3.cell? ⟨(wa.heap.size + 1), 3, none⟩ = some (.slice none 0 0) := (blk_cell Kn.out 3).trans rfl; have nf0 : w3.frozen? ⟨(wa.heap.size + 1), 0, none⟩ = false := blk_frozen Kn.out 0; have nf1 : w3.frozen? ⟨(wa.heap.size + 1), 1, none⟩ = false := blk_frozen Kn.out 1; have nf2 : w3.frozen? ⟨(wa.heap.size + 1), 2, none⟩ = false := blk_frozen Kn.out 2; have nf3 : w3.frozen? ⟨(wa.heap.size + 1), 3, none⟩ = false := blk_frozen Kn.out 3; have na2 : wa.heap.size ≠ wa.heap.size + 1 := (by omega); have na3 := na2.symm)) | (refine (scope_one OK.out PSV4.out.nx.m1 q.f1 h.pkg HSC.out.pk out).mono ?_; rintro e w3 ⟨E2, key2, at2, x2, U2, cU2, D2, cD2, F2, cF2, b2, okb, rfl, hn, hE, hO⟩; (have PS3 := Aside0.mk (PSV4.out.go hn); have K3 := Aside0.mk (KPV4.out.nx hn); have Km := Aside0.mk (hn.blk B4b.out (by decide) (by decide)); have m0 : w3.cell? ⟨(wa.heap.size + 1), 0, none⟩ = some (.string ⟨#[]⟩) := (blk_cell Km.out 0).trans rfl; have m1 : w3.cell? ⟨(wa.heap.size + 1), 1, none⟩ = some (.int .i64 0) := (blk_cell Km.out 1).trans rfl; have m2 : w3.cell? ⟨(wa.heap.size + 1), 2, none⟩ = some (.slice none 0 0) := (blk_cell Km.out 2).trans rfl; have m3 : w3.cell? ⟨(wa.heap.size + 1), 3, none⟩ = some (.slice none 0 0) := (blk_cell Km.out 3).trans rfl; have m4 : w3.cell? ⟨(wa.heap.size + 1), 4, none⟩ = some (.bool false) := (blk_cell Km.out 4).trans rfl; have mf0 : w3.frozen? ⟨(wa.heap.size + 1), 0, none⟩ = false := blk_frozen Km.out 0; have mf1 : w3.frozen? ⟨(wa.heap.size + 1), 1, none⟩ = false := blk_frozen Km.out 1; have mf2 : w3.frozen? ⟨(wa.heap.size + 1), 2, none⟩ = false := blk_frozen Km.out 2; have mf3 : w3.frozen? ⟨(wa.heap.size + 1), 3, none⟩ = false := blk_frozen Km.out 3; have mf4 : w3.frozen? ⟨(wa.heap.size + 1), 4, none⟩ = false := blk_frozen Km.out 4; have Kn := Aside0.mk (hn.blk B4a.out (by decide) (by decide)); have n0 : w3.cell? ⟨wa.heap.size, 0, none⟩ = some (.string ⟨#[]⟩) := (blk_cell Kn.out 0).trans rfl; have n1 : w3.cell? ⟨wa.heap.size, 1, none⟩ = some (.slice none 0 0) := (blk_cell Kn.out 1).trans rfl; have n2 : w3.cell? ⟨wa.heap.size, 2, none⟩ = some (.slice none 0 0) := (blk_cell Kn.out 2).trans rfl; have n3 : w3.cell? ⟨wa.heap.size, 3, none⟩ = some (.slice none 0 0) := (blk_cell Kn.out 3).trans rfl; have nf0 : w3.frozen? ⟨wa.heap.size, 0, none⟩ = false := blk_frozen Kn.out 0; have nf1 : w3.frozen? ⟨wa.heap.size, 1, none⟩ = false := blk_frozen Kn.out 1; have nf2 : w3.frozen? ⟨wa.heap.size, 2, none⟩ = false := blk_frozen Kn.out 2; have nf3 : w3.frozen? ⟨wa.heap.size, 3, none⟩ = false := blk_frozen Kn.out 3; have na2 : wa.heap.size ≠ wa.heap.size + 1 := (by omega); have na3 := na2.symm))); have HC := Aside0.mk (And.intro hE hO); have ng2 : g9 ≠ w3.heap.size := (by have := blk_lt K3.out.k9; omega); have ng3 : g9 ≠ w3.heap.size + 1 := (by have := blk_lt K3.out.k9; omega); have np2 : p ≠ w3.heap.size := (by have := PS3.out.lt.1; omega); have np3 : p ≠ w3.heap.size + 1 := (by have := PS3.out.lt.1; omega);  clear hn hE hO))
          · go_wp2_with fail
            go_meet
            exact ⟨w3.heap.size, w3.heap.size + 1, E2, key2, at2, x2, U2, cU2, D2, cD2, F2, cF2, b2, okb, rfl, rfl, rfl, ⟨PS3.out.below (below_alloc (below_alloc (Below.refl _ _) (.cells #[.string key2, .int .i64 (at2 : Int), .slice U2 x2.f1.length cU2, .slice D2 x2.f2.length cD2, .bool b2] 160)) (.cells #[.string x2.f0, .slice U2 x2.f1.length cU2, .slice D2 x2.f2.length cD2, .slice F2 x2.f3.length cF2] 142))⟩, ⟨⟨blk_alloc (blk_new w3 (.cells #[.string key2, .int .i64 (at2 : Int), .slice U2 x2.f1.length cU2, .slice D2 x2.f2.length cD2, .bool b2] 160)) (.cells #[.string x2.f0, .slice U2 x2.f1.length cU2, .slice D2 x2.f2.length cD2, .slice F2 x2.f3.length cF2] 142), by have := blk_new (w3.alloc (.cells #[.string key2, .int .i64 (at2 : Int), .slice U2 x2.f1.length cU2, .slice D2 x2.f2.length cD2, .bool b2] 160)) (.cells #[.string x2.f0, .slice U2 x2.f1.length cU2, .slice D2 x2.f2.length cD2, .slice F2 x2.f3.length cF2] 142); simp only [World.size_alloc] at this; exact this⟩⟩, HC⟩
          · go_wp2_with fail
            go_meet
            exact ⟨w3.heap.size + 1, w3.heap.size, E2, key2, at2, x2, U2, cU2, D2, cD2, F2, cF2, b2, okb, rfl, rfl, rfl, ⟨PS3.out.below (below_alloc (below_alloc (Below.refl _ _) (.cells #[.string x2.f0, .slice U2 x2.f1.length cU2, .slice D2 x2.f2.length cD2, .slice F2 x2.f3.length cF2] 142)) (.cells #[.string key2, .int .i64 (at2 : Int), .slice U2 x2.f1.length cU2, .slice D2 x2.f2.length cD2, .bool b2] 160))⟩, ⟨⟨by have := blk_new (w3.alloc (.cells #[.string x2.f0, .slice U2 x2.f1.length cU2, .slice D2 x2.f2.length cD2, .slice F2 x2.f3.length cF2] 142)) (.cells #[.string key2, .int .i64 (at2 : Int), .slice U2 x2.f1.length cU2, .slice D2 x2.f2.length cD2, .bool b2] 160); simp only [World.size_alloc] at this; exact this, blk_alloc (blk_new w3 (.cells #[.string x2.f0, .slice U2 x2.f1.length cU2, .slice D2 x2.f2.length cD2, .slice F2 x2.f3.length cF2] 142)) (.cells #[.string key2, .int .i64 (at2 : Int), .slice U2 x2.f1.length cU2, .slice D2 x2.f2.length cD2, .bool b2] 160)⟩⟩, HC⟩
          · have A5 := Aside0.mk ((PS3.out.below (below_alloc (Below.refl _ _) (.cells #[.string ⟨#[]⟩, .slice none 0 0, .slice none 0 0, .slice none 0 0] 142))).put5 (blk_alloc Km.out (.cells #[.string ⟨#[]⟩, .slice none 0 0, .slice none 0 0, .slice none 0 0] 142)) HWA.out (.string key2) (.int .i64 (at2 : Int)) (.slice U2 x2.f1.length cU2) (.slice D2 x2.f2.length cD2) (.bool b2))
            have A4 := Aside0.mk (A5.out.1.put4 ((A5.out.2.2 w3.heap.size na3).trans (blk_new w3 (.cells #[.string ⟨#[]⟩, .slice none 0 0, .slice none 0 0, .slice none 0 0] 142))) PS3.out.lt.2.1 (.string x2.f0) (.slice U2 x2.f1.length cU2) (.slice D2 x2.f2.length cD2) (.slice F2 x2.f3.length cF2))
            skip
            go_wp2_with fail
            go_meet
            exact ⟨wa.heap.size, w3.heap.size, E2, key2, at2, x2, U2, cU2, D2, cD2, F2, cF2, b2, okb, rfl, rfl, rfl, ⟨A4.out.1⟩, ⟨⟨(A4.out.2.2 wa.heap.size na2).trans A5.out.2.1, A4.out.2.1⟩⟩, HC⟩
          · have A5 := Aside0.mk (PS3.out.put5 Km.out HWA.out (.string key2) (.int .i64 (at2 : Int)) (.slice U2 x2.f1.length cU2) (.slice D2 x2.f2.length cD2) (.bool b2))
            have A4 := Aside0.mk (A5.out.1.put4 ((A5.out.2.2 (wa.heap.size + 1) na3).trans Kn.out) (Nat.le_succ_of_le HWA.out) (.string x2.f0) (.slice U2 x2.f1.length cU2) (.slice D2 x2.f2.length cD2) (.slice F2 x2.f3.length cF2))
            skip
            go_wp2_with fail
            go_meet
            exact ⟨wa.heap.size, wa.heap.size + 1, E2, key2, at2, x2, U2, cU2, D2, cD2, F2, cF2, b2, okb, rfl, rfl, rfl, ⟨A4.out.1⟩, ⟨⟨(A4.out.2.2 wa.heap.size na2).trans A5.out.2.1, A4.out.2.1⟩⟩, HC⟩
          · have A4 := Aside0.mk ((PS3.out.below (below_alloc (Below.refl _ _) (.cells #[.string key2, .int .i64 (at2 : Int), .slice U2 x2.f1.length cU2, .slice D2 x2.f2.length cD2, .bool b2] 160))).put4 (blk_alloc Kn.out (.cells #[.string key2, .int .i64 (at2 : Int), .slice U2 x2.f1.length cU2, .slice D2 x2.f2.length cD2, .bool b2] 160)) HWA.out (.string x2.f0) (.slice U2 x2.f1.length cU2) (.slice D2 x2.f2.length cD2) (.slice F2 x2.f3.length cF2))
            skip
            go_wp2_with fail
            go_meet
            exact ⟨w3.heap.size, wa.heap.size, E2, key2, at2, x2, U2, cU2, D2, cD2, F2, cF2, b2, okb, rfl, rfl, rfl, ⟨A4.out.1⟩, ⟨⟨(A4.out.2.2 w3.heap.size na3).trans (blk_new w3 (.cells #[.string key2, .int .i64 (at2 : Int), .slice U2 x2.f1.length cU2, .slice D2 x2.f2.length cD2, .bool b2] 160)), A4.out.2.1⟩⟩, HC⟩
          · have A5 := Aside0.mk (PS3.out.put5 Km.out (Nat.le_succ_of_le HWA.out) (.string key2) (.int .i64 (at2 : Int)) (.slice U2 x2.f1.length cU2) (.slice D2 x2.f2.length cD2) (.bool b2))
            have A4 := Aside0.mk (A5.out.1.put4 ((A5.out.2.2 wa.heap.size na2).trans Kn.out) HWA.out (.string x2.f0) (.slice U2 x2.f1.length cU2) (.slice D2 x2.f2.length cD2) (.slice F2 x2.f3.length cF2))
            skip
            go_wp2_with fail
            go_meet
            exact ⟨wa.heap.size + 1, wa.heap.size, E2, key2, at2, x2, U2, cU2, D2, cD2, F2, cF2, b2, okb, rfl, rfl, rfl, ⟨A4.out.1⟩, ⟨⟨(A4.out.2.2 (wa.heap.size + 1) na3).trans A5.out.2.1, A4.out.2.1⟩⟩, HC⟩
        case rest =>
          obtain ⟨g10, g11, E2, key2, at2, x2, U2, cU2, D2, cD2, F2, cF2, b2, okb, rfl, rfl, rfl, PSc, KQc, HC⟩ := hcut
          clear PSa KPa PSr
          cases okb with
          | false =>
            have HE2 := Aside0.mk (HC.out.1 rfl)
            clear HC
            go_wp2_with fail
            go_ret
            exact ⟨v1, E2, res1, [], none, 0, rfl, PSc.out.nx, Kd.R_nil _ _ _ _ _, fun e => absurd e HE2.out⟩
          | true =>
            have HSC2 := Aside0.mk (HC.out.2 rfl).1
            have HF2 := Aside0.mk (HC.out.2 rfl).2.1
            have HI2 := Aside0.mk (HC.out.2 rfl).2.2
            have hdl2 := HI2.out.h.dl
            have hfl2 := HI2.out.fl
            clear HC
            have t0 : wc.cell? ⟨g11, 0, none⟩ = some (.string x2.f0) := (blk_cell KQc.out.k11 0).trans rfl
            have t1 : wc.cell? ⟨g11, 1, none⟩ = some (.slice U2 x2.f1.length cU2) := (blk_cell KQc.out.k11 1).trans rfl
            have t2 : wc.cell? ⟨g11, 2, none⟩ = some (.slice D2 x2.f2.length cD2) := (blk_cell KQc.out.k11 2).trans rfl
            have t3 : wc.cell? ⟨g11, 3, none⟩ = some (.slice F2 x2.f3.length cF2) := (blk_cell KQc.out.k11 3).trans rfl
            go_wp2_with fail
            clear t0 t1 t2 t3
            refine (scoped_any PSc.out.nx.m1 cU2 cD2 cF2 HSC2.out.hU HSC2.out.hD HF2.out HI2.out.h HI2.out.fl).mono ?_
            rintro e w2 ⟨rfl, E3, hn⟩
            have PSj := Aside0.mk (PSc.out.go hn)
            have KQj := Aside0.mk (KQc.out.nx hn)
            clear hn PSc KQc
            go_wp2_with fail
            go_loopw [7, 13] (fun v7 v13 wr => ∃ (j : Nat) (v1 : Value) (E1 : Int) (res1 : List ByteArray) (L : List PSubFits.S27) (AS : Option Addr) (cS : Nat), j ≤ x2.f2.length ∧ v13 = .int .i64 j ∧ v7 = .slice AS L.length cS ∧ Aside0 (PS h p vi vo w v E res (4160 * i + 64 * j) wr v1 E1 res1 L AS cS) ∧ Aside0 (KQ g10 g11 #[.string key2, .int .i64 (at2 : Int), .slice U2 x2.f1.length cU2, .slice D2 x2.f2.length cD2, .bool b2] #[.string x2.f0, .slice U2 x2.f1.length cU2, .slice D2 x2.f2.length cD2, .slice F2 x2.f3.length cF2] wr)) (fun _ v13 _ => x2.f2.length - (intOf v13).toNat)
            case atStart => exact ⟨0, v1, E3, res1, L, AS, cS, Nat.zero_le _, rfl, rfl, PSj, KQj⟩
            case round =>
              clear PSj KQj
              obtain ⟨j, v1, E1, res1, L, AS, cS, hj, rfl, rfl, PSj, KQj⟩ := hrel
              have t2 : wr.cell? ⟨g11, 2, none⟩ = some (.slice D2 x2.f2.length cD2) := (blk_cell KQj.out.k11 2).trans rfl
              by_cases hjt : j < x2.f2.length
              · obtain ⟨ad3, A3, c3, A4, c4, A6, c6, hae3, hx3, l1, g1, l2, g2, l3, g3⟩ := el154 HSC2.out.hD hjt
                have HCF := Aside0.mk g3
                have HWD := Aside0.mk (HI2.out.h.ds _ (List.getElem_mem hjt))
                have HMEM := Aside0.mk (List.getElem_mem hjt)
                have HX3 := Aside0.mk hx3
                have hfl := HWD.out.fl
                have j0 : (0 : Int) ≤ (j : Int) := by omega
                have j1 : (j : Int) < (x2.f2.length : Int) := by omega
                clear hx3 l1 g1 l2 g2 l3 g3
                generalize x2.f2[j] = d at *
                cases hae3
                go_wp2_with fail
                go_loopw [7, 14] (fun v7 v14 wr => ∃ (k : Nat) (v1 : Value) (E1 : Int) (res1 : List ByteArray) (L : List PSubFits.S27) (AS : Option Addr) (cS : Nat), k ≤ d.f3.length ∧ v14 = .int .i64 k ∧ v7 = .slice AS L.length cS ∧ Aside0 (PS h p vi vo w v E res (4160 * i + 64 * j + k) wr v1 E1 res1 L AS cS) ∧ Aside0 (KQ g10 g11 #[.string key2, .int .i64 (at2 : Int), .slice U2 x2.f1.length cU2, .slice (some ad3) x2.f2.length cD2, .bool b2] #[.string x2.f0, .slice U2 x2.f1.length cU2, .slice (some ad3) x2.f2.length cD2, .slice F2 x2.f3.length cF2] wr)) (fun _ v14 _ => d.f3.length - (intOf v14).toNat)
                case atStart => exact ⟨0, v1, E1, res1, L, AS, cS, Nat.zero_le _, rfl, rfl, PSj, KQj⟩
                case round =>
                  clear PSj KQj
                  obtain ⟨k, v1, E1, res1, L, AS, cS, hk, rfl, rfl, PSk, KQk⟩ := hrel
                  have t2 : wr.cell? ⟨g11, 2, none⟩ = some (.slice (some ad3) x2.f2.length cD2) := (blk_cell KQk.out.k11 2).trans rfl
                  have y6 := (HX3.out wr PSk.out.nx.bl).2.2.2.2.2.2
                  by_cases hlk : k < d.f3.length
                  · obtain ⟨ad4, B2, d2, B3, d3, B5, d5, B6, d6, hae4, hx4, l1, g1, l2, g2, l3, g3, l4, g4⟩ := el146 HCF.out hlk
                    rw [hae4] at y6
                    have HFA : Aside0 (FA h.W0 d.f3[k] B2 d2 B3 d3 B5 d5 B6 d6) := ⟨⟨g1, l1, g2, l2, ⟨g3, l3, g4, l4⟩⟩⟩
                    have HWF := Aside0.mk (HWD.out.fs _ (List.getElem_mem hlk))
                    have HX4 := Aside0.mk hx4
                    have k0 : (0 : Int) ≤ (k : Int) := by omega
                    have k1 : (k : Int) < (d.f3.length : Int) := by omega
                    clear hx4 l1 g1 l2 g2 l3 g3 l4 g4
                    generalize d.f3[k] = f at *
                    cases hae4
                    go_wp2_with fail
                    clear y6
                    have PSd := Aside0.mk (PSk.out.below (below_drew1 (Below.refl _ _)))
                    have KD := Aside0.mk KQk.out.drew
                    have HSS : Aside0 (∀ w' : World, KQ g10 g11 #[.string key2, .int .i64 (at2 : Int), .slice U2 x2.f1.length cU2, .slice (some ad3) x2.f2.length cD2, .bool b2] #[.string x2.f0, .slice U2 x2.f1.length cU2, .slice (some ad3) x2.f2.length cD2, .slice F2 x2.f3.length cF2] w' → Below h.W0.heap.size h.W0 w' → w'.cell? ⟨g10, 0, none⟩ = some (.string key2) ∧ w'.cell? ⟨g10, 1, none⟩ = some (.int .i64 (at2 : Int)) ∧ w'.cell? ⟨g10, 2, none⟩ = some (.slice U2 x2.f1.length cU2) ∧ w'.cell? ⟨g10, 3, none⟩ = some (.slice (some ad3) x2.f2.length cD2) ∧ w'.cell? ⟨g10, 4, none⟩ = some (.bool b2) ∧ w'.cell? ⟨g11, 2, none⟩ = some (.slice (some ad3) x2.f2.length cD2) ∧ w'.cell? ⟨(ad3.add (j * 7)).block, (ad3.add (j * 7)).off + 1, none⟩ = some (.string d.f1) ∧ w'.cell? ⟨(ad3.add (j * 7)).block, (ad3.add (j * 7)).off + 6, none⟩ = some (.slice (some ad4) d.f3.length c6) ∧ w'.cell? (ad4.add (k * 8)) = some (.string f.f0) ∧ w'.cell? ⟨(ad4.add (k * 8)).block, (ad4.add (k * 8)).off + 1, none⟩ = some (.int .i64 f.f1) ∧ w'.cell? ⟨(ad4.add (k * 8)).block, (ad4.add (k * 8)).off + 2, none⟩ = some (.slice B2 f.f2.length d2) ∧ w'.cell? ⟨(ad4.add (k * 8)).block, (ad4.add (k * 8)).off + 3, none⟩ = some (.slice B3 f.f3.length d3) ∧ w'.cell? ⟨(ad4.add (k * 8)).block, (ad4.add (k * 8)).off + 4, none⟩ = some (.int .i64 f.f4.f0) ∧ w'.cell? ⟨(ad4.add (k * 8)).block, (ad4.add (k * 8)).off + 5, none⟩ = some (.slice B5 f.f4.f1.length d5) ∧ w'.cell? ⟨(ad4.add (k * 8)).block, (ad4.add (k * 8)).off + 6, none⟩ = some (.slice B6 f.f4.f2.length d6) ∧ w'.cell? ⟨(ad4.add (k * 8)).block, (ad4.add (k * 8)).off + 7, none⟩ = some (.int .i64 f.f4.f3)) := ⟨fun w' k hb => ⟨(blk_cell k.k10 0).trans rfl, (blk_cell k.k10 1).trans rfl, (blk_cell k.k10 2).trans rfl, (blk_cell k.k10 3).trans rfl, (blk_cell k.k10 4).trans rfl, (blk_cell k.k11 2).trans rfl, (HX3.out w' hb).2.1, (HX3.out w' hb).2.2.2.2.2.2, (HX4.out w' hb).1, (HX4.out w' hb).2.1, (HX4.out w' hb).2.2.1, (HX4.out w' hb).2.2.2.1, (HX4.out w' hb).2.2.2.2.1, (HX4.out w' hb).2.2.2.2.2.1, (HX4.out w' hb).2.2.2.2.2.2.1, (HX4.out w' hb).2.2.2.2.2.2.2⟩⟩
                    go_region_held_law (fun w' => w'.cell? ⟨g10, 0, none⟩ = some (.string key2) ∧ w'.cell? ⟨g10, 1, none⟩ = some (.int .i64 (at2 : Int)) ∧ w'.cell? ⟨g10, 2, none⟩ = some (.slice U2 x2.f1.length cU2) ∧ w'.cell? ⟨g10, 3, none⟩ = some (.slice (some ad3) x2.f2.length cD2) ∧ w'.cell? ⟨g10, 4, none⟩ = some (.bool b2) ∧ w'.cell? ⟨g11, 2, none⟩ = some (.slice (some ad3) x2.f2.length cD2) ∧ w'.cell? ⟨(ad3.add (j * 7)).block, (ad3.add (j * 7)).off + 1, none⟩ = some (.string d.f1) ∧ w'.cell? ⟨(ad3.add (j * 7)).block, (ad3.add (j * 7)).off + 6, none⟩ = some (.slice (some ad4) d.f3.length c6) ∧ w'.cell? (ad4.add (k * 8)) = some (.string f.f0) ∧ w'.cell? ⟨(ad4.add (k * 8)).block, (ad4.add (k * 8)).off + 1, none⟩ = some (.int .i64 f.f1) ∧ w'.cell? ⟨(ad4.add (k * 8)).block, (ad4.add (k * 8)).off + 2, none⟩ = some (.slice B2 f.f2.length d2) ∧ w'.cell? ⟨(ad4.add (k * 8)).block, (ad4.add (k * 8)).off + 3, none⟩ = some (.slice B3 f.f3.length d3) ∧ w'.cell? ⟨(ad4.add (k * 8)).block, (ad4.add (k * 8)).off + 4, none⟩ = some (.int .i64 f.f4.f0) ∧ w'.cell? ⟨(ad4.add (k * 8)).block, (ad4.add (k * 8)).off + 5, none⟩ = some (.slice B5 f.f4.f1.length d5) ∧ w'.cell? ⟨(ad4.add (k * 8)).block, (ad4.add (k * 8)).off + 6, none⟩ = some (.slice B6 f.f4.f2.length d6) ∧ w'.cell? ⟨(ad4.add (k * 8)).block, (ad4.add (k * 8)).off + 7, none⟩ = some (.int .i64 f.f4.f3))
                      (first
                        | with_reducible exact HSS.out _ KD.out PSd.out.nx.bl
                        | with_reducible exact HSS.out _ K3.out PS3.out.nx.bl
                        | with_reducible exact HSS.out _ (K3.out.alloc _) (PS3.out.nx.below (below_alloc (Below.refl _ _) _)).bl
                        | with_reducible exact HSS.out _ K4.out PS4.out.nx.bl
                        | fail)
                      (first
                        | (refine Kd.R_append_step PSubFits.k27 (w0 := w3) w.heap.size rfl (.tmp 99) (.tmp 118) 38 27 (.agg #[.string ⟨#[]⟩, .slice none 0 0, .slice none 0 0, .int .i64 0, .slice none 0 0, .slice none 0 0, .int .i64 0]) 128 rfl Try.underlying38 info27 rfl (by decide) (by decide) (.slice AS L.length cS) L y [.string y.f0, .slice G1 y.f1.length e1, .slice G2 y.f2.length e2, .int .i64 y.f3.f0, .slice G4 y.f3.f1.length e4, .slice G5 y.f3.f2.length e5, .int .i64 y.f3.f3] (fun k => k ≠ p ∧ some k ≠ v3.ownBlock) (fun k => (k ≠ p ∧ some k ≠ v3.ownBlock) ∧ wr.drew.heap.size ≤ k) rfl rfl (SV.mk27 HSV.out PSd.out.lt.2.1) (PSd.out.okp v3) PS3.out.fr PS3.out.r (Below.refl _ _) PS3.out.lt.2.1 HLN.out ?_; intro v4 w4 r1 r2 r3 r4; obtain ⟨AM, cM, hv4, _⟩ := Kd.R_reads r1; replace hv4 : v4 = .slice AM (L.length + 1) cM := (by rw [hv4]; simp); subst hv4; have K4 := Aside0.mk (K3.out.grown PS3.out.r r3); have PS4 := Aside0.mk (PS3.out.app HGD.out r1 r3); clear r1 r2 r3 r4)
                        | (go_simp; go_at_call 92; refine (sig_any OK.out PSd.out.nx.m1 key2 at2 x2.f1 U2 cU2 x2.f2 (some ad3) cD2 b2 HSC2.out f B2 d2 B3 d3 B5 d5 B6 d6 HFA.out HWF.out d.f1 HWD.out.nm (fun _ => .inl ⟨d, HMEM.out, rfl⟩)).mono ?_; rintro e w3 ⟨v3, E3, res3, y, G1, e1, G2, e2, G4, e4, G5, e5, rfl, hn, hsv, hgd⟩; have HSV := Aside0.mk hsv; have HGD := Aside0.mk hgd; have PS3 := Aside0.mk (PSd.out.go hn); have K3 := Aside0.mk (KD.out.nx hn); have HLN : Aside0 ((L.length + 1) * 128 ≤ 140737488355328) := ⟨by have := PSd.out.ln; omega⟩; clear hn hsv hgd; simp only [s27C]))
                    go_wp2_with fail
                    go_roundw
                    case rel => exact ⟨k + 1, v3, E3, res3, L ++ [y], AM, cM, by omega, by go_num, by simp, PS4, K4⟩
                    case measure => simp [intOf]; omega
                  · obtain rfl : k = d.f3.length := by omega
                    go_wp2_with fail
                    go_roundw
                    case rel => exact ⟨j + 1, v1, E1, res1, L, AS, cS, by omega, by go_num, rfl, ⟨PSk.out.le (by have := HWD.out.fl; omega)⟩, KQk⟩
                    case measure => simp [intOf]; omega
              · obtain rfl : j = x2.f2.length := by omega
                go_wp2_with fail
                go_loopw [7, 15] (fun v7 v15 wr => ∃ (k : Nat) (v1 : Value) (E1 : Int) (res1 : List ByteArray) (L : List PSubFits.S27) (AS : Option Addr) (cS : Nat), k ≤ x2.f3.length ∧ v15 = .int .i64 k ∧ v7 = .slice AS L.length cS ∧ Aside0 (PS h p vi vo w v E res (4160 * i + 4096 + k) wr v1 E1 res1 L AS cS) ∧ Aside0 (KQ g10 g11 #[.string key2, .int .i64 (at2 : Int), .slice U2 x2.f1.length cU2, .slice D2 x2.f2.length cD2, .bool b2] #[.string x2.f0, .slice U2 x2.f1.length cU2, .slice D2 x2.f2.length cD2, .slice F2 x2.f3.length cF2] wr)) (fun _ v15 _ => x2.f3.length - (intOf v15).toNat)
                case atStart => exact ⟨0, v1, E1, res1, L, AS, cS, Nat.zero_le _, rfl, rfl, ⟨PSj.out.le (by have := HI2.out.h.dl; omega)⟩, KQj⟩
                case round =>
                  clear PSj KQj
                  obtain ⟨k, v1, E1, res1, L, AS, cS, hk, rfl, rfl, PSk, KQk⟩ := hrel
                  have y6 : wr.cell? ⟨g11, 3, none⟩ = some (.slice F2 x2.f3.length cF2) := (blk_cell KQk.out.k11 3).trans rfl
                  by_cases hlk : k < x2.f3.length
                  · obtain ⟨ad4, B2, d2, B3, d3, B5, d5, B6, d6, hae4, hx4, l1, g1, l2, g2, l3, g3, l4, g4⟩ := el146 HF2.out hlk
                    rw [hae4] at y6
                    have HFA : Aside0 (FA h.W0 x2.f3[k] B2 d2 B3 d3 B5 d5 B6 d6) := ⟨⟨g1, l1, g2, l2, ⟨g3, l3, g4, l4⟩⟩⟩
                    have HWF := Aside0.mk (HI2.out.fs _ (List.getElem_mem hlk))
                    have HX4 := Aside0.mk hx4
                    have k0 : (0 : Int) ≤ (k : Int) := by omega
                    have k1 : (k : Int) < (x2.f3.length : Int) := by omega
                    clear hx4 l1 g1 l2 g2 l3 g3 l4 g4
                    generalize x2.f3[k] = f at *
                    cases hae4
                    go_wp2_with fail
                    clear y6
                    have PSd := Aside0.mk (PSk.out.below (below_drew1 (Below.refl _ _)))
                    have KD := Aside0.mk KQk.out.drew
                    have HSS : Aside0 (∀ w' : World, KQ g10 g11 #[.string key2, .int .i64 (at2 : Int), .slice U2 x2.f1.length cU2, .slice D2 x2.f2.length cD2, .bool b2] #[.string x2.f0, .slice U2 x2.f1.length cU2, .slice D2 x2.f2.length cD2, .slice (some ad4) x2.f3.length cF2] w' → Below h.W0.heap.size h.W0 w' → w'.cell? ⟨g10, 0, none⟩ = some (.string key2) ∧ w'.cell? ⟨g10, 1, none⟩ = some (.int .i64 (at2 : Int)) ∧ w'.cell? ⟨g10, 2, none⟩ = some (.slice U2 x2.f1.length cU2) ∧ w'.cell? ⟨g10, 3, none⟩ = some (.slice D2 x2.f2.length cD2) ∧ w'.cell? ⟨g10, 4, none⟩ = some (.bool b2) ∧ w'.cell? ⟨g11, 3, none⟩ = some (.slice (some ad4) x2.f3.length cF2) ∧ w'.cell? (ad4.add (k * 8)) = some (.string f.f0) ∧ w'.cell? ⟨(ad4.add (k * 8)).block, (ad4.add (k * 8)).off + 1, none⟩ = some (.int .i64 f.f1) ∧ w'.cell? ⟨(ad4.add (k * 8)).block, (ad4.add (k * 8)).off + 2, none⟩ = some (.slice B2 f.f2.length d2) ∧ w'.cell? ⟨(ad4.add (k * 8)).block, (ad4.add (k * 8)).off + 3, none⟩ = some (.slice B3 f.f3.length d3) ∧ w'.cell? ⟨(ad4.add (k * 8)).block, (ad4.add (k * 8)).off + 4, none⟩ = some (.int .i64 f.f4.f0) ∧ w'.cell? ⟨(ad4.add (k * 8)).block, (ad4.add (k * 8)).off + 5, none⟩ = some (.slice B5 f.f4.f1.length d5) ∧ w'.cell? ⟨(ad4.add (k * 8)).block, (ad4.add (k * 8)).off + 6, none⟩ = some (.slice B6 f.f4.f2.length d6) ∧ w'.cell? ⟨(ad4.add (k * 8)).block, (ad4.add (k * 8)).off + 7, none⟩ = some (.int .i64 f.f4.f3)) := ⟨fun w' k hb => ⟨(blk_cell k.k10 0).trans rfl, (blk_cell k.k10 1).trans rfl, (blk_cell k.k10 2).trans rfl, (blk_cell k.k10 3).trans rfl, (blk_cell k.k10 4).trans rfl, (blk_cell k.k11 3).trans rfl, (HX4.out w' hb).1, (HX4.out w' hb).2.1, (HX4.out w' hb).2.2.1, (HX4.out w' hb).2.2.2.1, (HX4.out w' hb).2.2.2.2.1, (HX4.out w' hb).2.2.2.2.2.1, (HX4.out w' hb).2.2.2.2.2.2.1, (HX4.out w' hb).2.2.2.2.2.2.2⟩⟩
                    go_region_held_law (fun w' => w'.cell? ⟨g10, 0, none⟩ = some (.string key2) ∧ w'.cell? ⟨g10, 1, none⟩ = some (.int .i64 (at2 : Int)) ∧ w'.cell? ⟨g10, 2, none⟩ = some (.slice U2 x2.f1.length cU2) ∧ w'.cell? ⟨g10, 3, none⟩ = some (.slice D2 x2.f2.length cD2) ∧ w'.cell? ⟨g10, 4, none⟩ = some (.bool b2) ∧ w'.cell? ⟨g11, 3, none⟩ = some (.slice (some ad4) x2.f3.length cF2) ∧ w'.cell? (ad4.add (k * 8)) = some (.string f.f0) ∧ w'.cell? ⟨(ad4.add (k * 8)).block, (ad4.add (k * 8)).off + 1, none⟩ = some (.int .i64 f.f1) ∧ w'.cell? ⟨(ad4.add (k * 8)).block, (ad4.add (k * 8)).off + 2, none⟩ = some (.slice B2 f.f2.length d2) ∧ w'.cell? ⟨(ad4.add (k * 8)).block, (ad4.add (k * 8)).off + 3, none⟩ = some (.slice B3 f.f3.length d3) ∧ w'.cell? ⟨(ad4.add (k * 8)).block, (ad4.add (k * 8)).off + 4, none⟩ = some (.int .i64 f.f4.f0) ∧ w'.cell? ⟨(ad4.add (k * 8)).block, (ad4.add (k * 8)).off + 5, none⟩ = some (.slice B5 f.f4.f1.length d5) ∧ w'.cell? ⟨(ad4.add (k * 8)).block, (ad4.add (k * 8)).off + 6, none⟩ = some (.slice B6 f.f4.f2.length d6) ∧ w'.cell? ⟨(ad4.add (k * 8)).block, (ad4.add (k * 8)).off + 7, none⟩ = some (.int .i64 f.f4.f3))
                      (first
                        | with_reducible exact HSS.out _ KD.out PSd.out.nx.bl
                        | with_reducible exact HSS.out _ K3.out PS3.out.nx.bl
                        | with_reducible exact HSS.out _ (K3.out.alloc _) (PS3.out.nx.below (below_alloc (Below.refl _ _) _)).bl
                        | with_reducible exact HSS.out _ K4.out PS4.out.nx.bl
                        | fail)
                      (first
                        | (refine Kd.R_append_step PSubFits.k27 (w0 := w3) w.heap.size rfl (.tmp 127) (.tmp 136) 38 27 (.agg #[.string ⟨#[]⟩, .slice none 0 0, .slice none 0 0, .int .i64 0, .slice none 0 0, .slice none 0 0, .int .i64 0]) 128 rfl Try.underlying38 info27 rfl (by decide) (by decide) (.slice AS L.length cS) L y [.string y.f0, .slice G1 y.f1.length e1, .slice G2 y.f2.length e2, .int .i64 y.f3.f0, .slice G4 y.f3.f1.length e4, .slice G5 y.f3.f2.length e5, .int .i64 y.f3.f3] (fun k => k ≠ p ∧ some k ≠ v3.ownBlock) (fun k => (k ≠ p ∧ some k ≠ v3.ownBlock) ∧ wr.drew.heap.size ≤ k) rfl rfl (SV.mk27 HSV.out PSd.out.lt.2.1) (PSd.out.okp v3) PS3.out.fr PS3.out.r (Below.refl _ _) PS3.out.lt.2.1 HLN.out ?_; intro v4 w4 r1 r2 r3 r4; obtain ⟨AM, cM, hv4, _⟩ := Kd.R_reads r1; replace hv4 : v4 = .slice AM (L.length + 1) cM := (by rw [hv4]; simp); subst hv4; have K4 := Aside0.mk (K3.out.grown PS3.out.r r3); have PS4 := Aside0.mk (PS3.out.app HGD.out r1 r3); clear r1 r2 r3 r4)
                        | (go_simp; go_at_call 92; refine (sig_any OK.out PSd.out.nx.m1 key2 at2 x2.f1 U2 cU2 x2.f2 D2 cD2 b2 HSC2.out f B2 d2 B3 d3 B5 d5 B6 d6 HFA.out HWF.out ⟨#[]⟩ (by decide) (fun _ => .inr rfl)).mono ?_; rintro e w3 ⟨v3, E3, res3, y, G1, e1, G2, e2, G4, e4, G5, e5, rfl, hn, hsv, hgd⟩; have HSV := Aside0.mk hsv; have HGD := Aside0.mk hgd; have PS3 := Aside0.mk (PSd.out.go hn); have K3 := Aside0.mk (KD.out.nx hn); have HLN : Aside0 ((L.length + 1) * 128 ≤ 140737488355328) := ⟨by have := PSd.out.ln; omega⟩; clear hn hsv hgd; simp only [s27C]))
                    go_wp2_with fail
                    go_roundw
                    case rel => exact ⟨k + 1, v3, E3, res3, L ++ [y], AM, cM, by omega, by go_num, by simp, PS4, K4⟩
                    case measure => simp [intOf]; omega
                  · obtain rfl : k = x2.f3.length := by omega
                    go_wp2_with fail
                    go_roundw
                    case rel => exact ⟨i + 1, v1, E1, res1, L, AS, cS, by omega, by go_num, rfl, ⟨PSk.out.le (by have := HI2.out.fl; omega)⟩⟩
                    case measure => simp [intOf]; omega
    · obtain rfl : i = l.length := by omega
      go_wp2_with fail
      have hLn : L.length ≤ 4160 * 64 := by have := PSr.out.ln; omega
      go_loopw [16] (fun v16 wr => ∃ (i5 : Nat) (E5 : Int), i5 ≤ L.length ∧ v16 = .int .i64 i5 ∧ Aside0 (PS h p vi vo w v E res (4160 * l.length) wr v1 E5 res1 L AS cS) ∧ Aside0 (E5 = 0 → ((L.take i5).map (·.f0)).Nodup)) (fun v16 _ => L.length - (intOf v16).toNat)
      case atStart => exact ⟨0, E1, Nat.zero_le _, rfl, PSr, ⟨fun _ => by simp⟩⟩
      case round =>
        clear PSr
        obtain ⟨i5, E5, hi5, rfl, PSi, GI⟩ := hrel
        by_cases hlt5 : i5 < L.length
        · go_wp2_with fail
          go_loopw [17] (fun v17 wr => ∃ (k : Nat) (E5 : Int), k ≤ i5 ∧ v17 = .int .i64 k ∧ Aside0 (PS h p vi vo w v E res (4160 * l.length) wr v1 E5 res1 L AS cS) ∧ Aside0 (E5 = 0 → ((L.take i5).map (·.f0)).Nodup ∧ ∀ j (hj : j < L.length), j < k → L[j].f0 ≠ L[i5].f0)) (fun v17 _ => i5 - (intOf v17).toNat)
          case atStart => exact ⟨0, E5, Nat.zero_le _, rfl, PSi, ⟨fun e => ⟨GI.out e, fun j hj hjk => absurd hjk (Nat.not_lt_zero _)⟩⟩⟩
          case round =>
            clear PSi GI
            obtain ⟨k, E5, hk, rfl, PSk, GK⟩ := hrel
            by_cases hlk : k < i5
            · have PSd := Aside0.mk (PSk.out.below (below_drew1 (Below.refl _ _)))
              obtain ⟨ad, hae, z0⟩ := el27 (Kd.R_reads' PSd.out.r).2.2 (k := k) (by omega)
              cases hae
              obtain ⟨ad', hae', z1⟩ := el27 (Kd.R_reads' PSd.out.r).2.2 (k := i5) hlt5
              cases hae'
              have HSS : Aside0 (∀ w' : World, Kd.C PSubFits.k27 w' (some ad) L.length L → w'.cell? (ad.add (k * 7)) = some (.string (L[k]'(by omega)).f0) ∧ w'.cell? (ad.add (i5 * 7)) = some (.string L[i5].f0)) := ⟨fun w' hC => by
                obtain ⟨ad1, h1, y0⟩ := el27 hC (k := k) (by omega)
                obtain ⟨ad2, h2, y1⟩ := el27 hC (k := i5) hlt5
                cases h1
                cases h2
                exact ⟨y0, y1⟩⟩
              have k0 : (0 : Int) ≤ (k : Int) := by omega
              have k1 : (k : Int) < (L.length : Int) := by omega
              have j0 : (0 : Int) ≤ (i5 : Int) := by omega
              have j1 : (i5 : Int) < (L.length : Int) := by omega
              have HNE : Aside0 (∀ b : Bool, b = false → b = ((L[k]'(by omega)).f0.toList == L[i5].f0.toList) → (L[k]'(by omega)).f0 ≠ L[i5].f0) := ⟨fun b hb e he => by
                rw [he] at e
                rw [hb] at e
                simp at e⟩
              generalize hna : (L[k]'(by omega)).f0 = na at *
              generalize hnb : L[i5].f0 = nb at *
              have HNA := Aside0.mk hna
              have HNB := Aside0.mk hnb
              clear hna hnb z0 z1
              go_wp2_with fail
              go_region_held3 (fun w' => w'.cell? (ad.add (k * 7)) = some (.string na) ∧ w'.cell? (ad.add (i5 * 7)) = some (.string nb))
                (first
                  | with_reducible exact HSS.out _ (Kd.R_reads' PSd.out.r).2.2
                  | with_reducible exact HSS.out _ (Kd.R_reads' PS2.out.r).2.2
                  | fail)
                ((go_at_call 89; refine (fault_any PSd.out.nx.m1 _ 10 (by decide)).mono ?_; rintro e w2 ⟨rfl, E2, hE, hn⟩; have PS2 := Aside0.mk (PSd.out.go hn); have HEE := Aside0.mk hE; have HER := Aside0.mk hn.er; clear hE hn))
              go_wp2_with fail
              go_roundw
              case rel => exact ⟨k + 1, E2, by omega, by go_num, PS2, ⟨fun e => ⟨(GK.out (HER.out e)).1, fun j hj hjk => by
                by_cases hjk2 : j < k
                · exact (GK.out (HER.out e)).2 j hj hjk2
                · have hjk3 : j = k := by omega
                  subst hjk3
                  rw [HNA.out]
                  exact HNE.out _ (HEE.out e) rfl⟩⟩⟩
              case measure => simp [intOf]; omega
            · obtain rfl : k = i5 := by omega
              go_wp2_with fail
              go_roundw
              case rel => exact ⟨k + 1, E5, by omega, by go_num, PSk, ⟨fun e => nodup_step hlt5 (GK.out e).1 (GK.out e).2⟩⟩
              case measure => simp [intOf]; omega
        · obtain rfl : i5 = L.length := by omega
          go_wp2_with fail
          refine (fault_any PSi.out.nx.m1 _ 14 (by decide)).mono ?_
          rintro e w2 ⟨rfl, E2, hE, hn⟩
          have PS2 := Aside0.mk (PSi.out.go hn)
          have HEE := Aside0.mk hE
          have HER := Aside0.mk hn.er
          clear hE hn
          go_wp2_with fail
          go_ret
          exact ⟨v1, E2, res1, L, AS, cS, rfl, PS2.out.nx, PS2.out.r, fun e => ⟨PS2.out.gd e, by have := GI.out (HER.out e); rw [List.take_length] at this; exact this, by have := of_decide_eq_false (HEE.out e); omega⟩⟩
end Go.Proofs.Ytmpmcffhlnlejaa.Mkr
end
