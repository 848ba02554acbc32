/- A part of the proof of the law that its last file names: texts of this seat's author and of the kit's printer, cut to what the theorem uses. Part 11: Mk10, Mk11s. -/
import Derived.Test.YtmpmcffhlnlejaaCt10
section
namespace Go.Proofs.Ytmpmcffhlnlejaa.Mkr
open Go.RowKit Go.Proofs.YtmpmcffhlnlejaaW.PrintWords Go.Proofs.YtmpmcffhlnlejaaW.PrintLast Go.Proofs.YtmpmcffhlnlejaaW.PrintMore
open Go.Proofs.Ytmpmcffhlnlejaa.PSubSelf Go.Proofs.Ytmpmcffhlnlejaa.Wld
set_option linter.unusedVariables false
set_option linter.unusedSimpArgs false
theorem strR_grown {w w1 : World} {base : Nat} {ok : Nat → Prop} {v : Value} {xs : List ByteArray} (h : Kd.string.R 9 w base ok v xs) {row : Option Nat} (hg : w.grownBy w1 row) (hne : ∀ k, row = some k → v.ownBlock = some k → False) : Kd.string.R 9 w1 base ok v xs := by
  obtain ⟨x0, inner, ho, hrr⟩ := h
  have hR : Kd.string.R 9 w base (fun k => v.ownBlock = some k) v xs := ⟨fun k hk => hk, inner, ho, hrr⟩
  exact Kd.R_mono (Kd.R_grown hR hg (fun k hk e => hne k e.symm hk)) (fun k hk => x0 k hk)
set_option maxHeartbeats 16000000 in
set_option maxRecDepth 100000 in
theorem scoped_any {h : Hd} {p : Nat} {w : World} {v vi vo : Value} {dp : Nat} {E : Int} {res : List ByteArray} (m : ∃ sz, Mk h p w v vi vo dp sz E res)
    {us : List S151} {U : Option Addr} (cU : Nat) {ds : List S154} {D : Option Addr} (cD : Nat) {fs : List S146} {F : Option Addr} (cF : Nat)
    (hu : k151.C h.W0 U us.length us) (hd : k154.C h.W0 D ds.length ds) (hf : k146.C h.W0 F fs.length fs) (wf : WfH us ds) (lf : fs.length ≤ 64) :
    Calls Try.prog 76 #[.pointer (some ⟨p, 0, none⟩), .slice U us.length cU, .slice D ds.length cD, .slice F fs.length cF] w
      fun r w' => r = .returned (.tuple #[]) ∧ ∃ E', Nx h p vi vo dp w v E res w' v E' res := by
  have M := Aside0.mk m
  have HU := Aside0.mk hu
  have HD := Aside0.mk hd
  have HF := Aside0.mk hf
  have WF := Aside0.mk wf
  have hul := wf.ul
  have hdl := wf.dl
  clear m hu hd hf wf
  have HN0 : Aside0 (Nx h p vi vo dp w v E res w v E res) := ⟨by obtain ⟨sz, m⟩ := M.out; exact Nx.refl m⟩
  go_enter Try.func76, Try.ntmps76
  go_wp2_with fail
  go_loopw [8, 9] (fun v8 v9 wr => ∃ (i : Nat) (E1 : Int) (l : List ByteArray) (As : Option Addr) (cs : Nat), i ≤ us.length ∧ v9 = .int .i64 i ∧ v8 = .slice As l.length cs ∧ l.length ≤ 64 * i ∧ Aside0 (Nx h p vi vo dp w v E res wr v E1 res) ∧ Aside0 (Kd.string.R 9 wr w.heap.size (fun k => k ≠ p ∧ some k ≠ v.ownBlock) (.slice As l.length cs) l)) (fun _ v9 _ => us.length - (intOf v9).toNat)
  case atStart => exact ⟨0, E, [], none, 0, Nat.zero_le _, rfl, rfl, Nat.zero_le _, HN0, ⟨Kd.R_nil _ _ _ _ _⟩⟩
  case round =>
    clear HN0
    obtain ⟨i, E1, l, As, cs, hi, rfl, rfl, hll, HN, RS⟩ := hrel
    by_cases hlt : i < us.length
    · obtain ⟨ad, A3, c3, A4, c4, hae, hx, l1, g1, l2, g2⟩ := el151 HU.out hlt
      have HWU := WF.out.us _ (List.getElem_mem hlt)
      have hnl := HWU.nl
      have HNA := Aside0.mk HWU.na
      have HCn := Aside0.mk g1
      have HCa := Aside0.mk g2
      have HX := Aside0.mk hx
      have HAE := Aside0.mk hae
      have i0 : (0 : Int) ≤ (i : Int) := by omega
      have i1 : (i : Int) < (us.length : Int) := by omega
      clear hx l1 g1 l2 g2 hae HWU
      generalize us[i] = u at *
      cases HAE.out
      clear HAE
      go_wp2_with fail
      go_loopw [8, 10] (fun v8 v10 wr => ∃ (k : Nat) (E1 : Int) (l : List ByteArray) (As : Option Addr) (cs : Nat), k ≤ u.f1.length ∧ v10 = .int .i64 k ∧ v8 = .slice As l.length cs ∧ l.length ≤ 64 * i + k ∧ Aside0 (Nx h p vi vo dp w v E res wr v E1 res) ∧ Aside0 (Kd.string.R 9 wr w.heap.size (fun k => k ≠ p ∧ some k ≠ v.ownBlock) (.slice As l.length cs) l)) (fun _ v10 _ => u.f1.length - (intOf v10).toNat)
      case atStart => exact ⟨0, E1, l, As, cs, Nat.zero_le _, rfl, rfl, by omega, HN, RS⟩
      case round =>
        clear HN RS hll
        obtain ⟨k, E1, l, As, cs, hk, rfl, rfl, hll, HN, RS⟩ := hrel
        have y1 := (HX.out wr HN.out.bl).2.2.2.1
        have y2 := (HX.out wr HN.out.bl).2.2.2.2
        by_cases hlt2 : k < u.f1.length
        · obtain ⟨ad2, hae2, hx2⟩ := str_at HCa.out (k := k) (by rw [← HNA.out]; exact hlt2)
          obtain ⟨ad3, hae3, hx3⟩ := str_at HCn.out hlt2
          rw [hae2] at y2
          rw [hae3] at y1
          have x2 := hx2 wr HN.out.bl
          have x3 := hx3 wr HN.out.bl
          have j0 : (0 : Int) ≤ (k : Int) := by omega
          have j1 : (k : Int) < (u.f1.length : Int) := by omega
          have j2 : (k : Int) < (u.f2.length : Int) := by have := HNA.out; omega
          clear hx2 hx3 hae2 hae3
          generalize u.f2[k]'(by have := HNA.out; omega) = a at *
          generalize u.f1[k] = nm at *
          by_cases ha : a.toList = []
          · have v1 : (a.toList == ([] : List UInt8)) = true := by rw [ha]; rfl
            have v2 : a.toList.isEmpty = true := by rw [ha]; rfl
            have v3 : (a.toList != ([] : List UInt8)) = false := by rw [ha]; rfl
            clear ha
            go_wp2_with fail
            clear v1 v2 v3 y1 y2 x2 x3 j0 j1 j2
            refine (count_any nm (Kd.R_reads' RS.out).2.2).mono ?_
            rintro e w1 ⟨⟨kc, rfl⟩, rfl⟩
            go_wp2_with fail
            refine (fault_any HN.out.m1 _ 10 (by decide)).mono ?_
            rintro e w2 ⟨rfl, E2, _, hn⟩
            have HN2 := Aside0.mk (HN.out.trans hn)
            have HNR := Aside0.mk hn
            clear hn
            have RSn := Aside0.mk (HNR.out.go.row RS.out)
            clear RS HNR HN
            obtain ⟨szn, mn⟩ := HN2.out.m1
            have HPV : Aside0 (p < w2.heap.size ∧ ∀ k, v.ownBlock = some k → k < w2.heap.size) := ⟨mn.lt, Kd.R_lt mn.hr⟩
            clear mn
            go_wp2_with (at_builtin; refine Kd.R_append Kd.string (w0 := w2) w.heap.size rfl (.tmp 57) (.tmp 59) 22 9 (.string ⟨#[]⟩) 16 rfl Try.underlying22 info9 rfl (by decide) (by decide) (.slice As l.length cs) l nm [.string nm] (fun k => k ≠ p ∧ some k ≠ v.ownBlock) (fun _ => False) rfl rfl rfl (fun _ hf => hf.elim) ?hfresh RSn.out (Below.refl _ _) ?hbase ?hl ?_)
            case hfresh => exact fun k hk => ⟨by have := HPV.out.1; omega, fun e => by have := HPV.out.2 k e.symm; omega⟩
            case hbase => exact HN2.out.go.keep.1
            case hl => omega
            intro v1 w1 r1 r2 r3 r4
            obtain ⟨AM, cM, hv1, _⟩ := Kd.R_reads r1
            replace hv1 : v1 = .slice AM (l.length + 1) cM := by rw [hv1]; simp
            subst hv1
            have HNg := Aside0.mk (HN2.out.grown r3 (row_hr RSn.out (Nat.le_refl _)))
            have RSg := Aside0.mk r1
            clear r1 r2 r3 r4 HPV RSn HN2
            go_wp2_with fail
            go_roundw
            case rel => exact ⟨k + 1, E2, l ++ [nm], AM, cM, by omega, by go_num, by simp, by simp; omega, HNg, ⟨by rw [List.length_append]; exact RSg.out⟩⟩
            case measure => simp [intOf]; omega
          · have v1 : (a.toList == ([] : List UInt8)) = false := by rw [beq_eq_false_iff_ne]; exact ha
            have v2 : a.toList.isEmpty = false := by rw [List.isEmpty_eq_false_iff]; exact ha
            have v3 : (a.toList != ([] : List UInt8)) = true := by rw [bne_iff_ne]; exact ha
            clear ha
            go_wp2_with fail
            clear v1 v2 v3 y1 y2 x2 x3 j0 j1 j2
            refine (count_any a (Kd.R_reads' RS.out).2.2).mono ?_
            rintro e w1 ⟨⟨kc, rfl⟩, rfl⟩
            go_wp2_with fail
            refine (fault_any HN.out.m1 _ 10 (by decide)).mono ?_
            rintro e w2 ⟨rfl, E2, _, hn⟩
            have HN2 := Aside0.mk (HN.out.trans hn)
            have HNR := Aside0.mk hn
            clear hn
            have RSn := Aside0.mk (HNR.out.go.row RS.out)
            clear RS HNR HN
            obtain ⟨szn, mn⟩ := HN2.out.m1
            have HPV : Aside0 (p < w2.heap.size ∧ ∀ k, v.ownBlock = some k → k < w2.heap.size) := ⟨mn.lt, Kd.R_lt mn.hr⟩
            clear mn
            go_wp2_with (at_builtin; refine Kd.R_append Kd.string (w0 := w2) w.heap.size rfl (.tmp 57) (.tmp 59) 22 9 (.string ⟨#[]⟩) 16 rfl Try.underlying22 info9 rfl (by decide) (by decide) (.slice As l.length cs) l a [.string a] (fun k => k ≠ p ∧ some k ≠ v.ownBlock) (fun _ => False) rfl rfl rfl (fun _ hf => hf.elim) ?hfresh RSn.out (Below.refl _ _) ?hbase ?hl ?_)
            case hfresh => exact fun k hk => ⟨by have := HPV.out.1; omega, fun e => by have := HPV.out.2 k e.symm; omega⟩
            case hbase => exact HN2.out.go.keep.1
            case hl => omega
            intro v1 w1 r1 r2 r3 r4
            obtain ⟨AM, cM, hv1, _⟩ := Kd.R_reads r1
            replace hv1 : v1 = .slice AM (l.length + 1) cM := by rw [hv1]; simp
            subst hv1
            have HNg := Aside0.mk (HN2.out.grown r3 (row_hr RSn.out (Nat.le_refl _)))
            have RSg := Aside0.mk r1
            clear r1 r2 r3 r4 HPV RSn HN2
            go_wp2_with fail
            go_roundw
            case rel => exact ⟨k + 1, E2, l ++ [a], AM, cM, by omega, by go_num, by simp, by simp; omega, HNg, ⟨by rw [List.length_append]; exact RSg.out⟩⟩
            case measure => simp [intOf]; omega
        · obtain rfl : k = u.f1.length := by omega
          go_wp2_with fail
          go_roundw
          case rel => exact ⟨i + 1, E1, l, As, cs, by omega, by go_num, rfl, by omega, HN, RS⟩
          case measure => simp [intOf]; omega
    · obtain rfl : i = us.length := by omega
      go_wp2_with fail
      go_loopw [8, 12] (fun v8 v12 wr => ∃ (i : Nat) (E1 : Int) (l : List ByteArray) (As : Option Addr) (cs : Nat), i ≤ ds.length ∧ v12 = .int .i64 i ∧ v8 = .slice As l.length cs ∧ l.length ≤ 4096 + i ∧ Aside0 (Nx h p vi vo dp w v E res wr v E1 res) ∧ Aside0 (Kd.string.R 9 wr w.heap.size (fun k => k ≠ p ∧ some k ≠ v.ownBlock) (.slice As l.length cs) l)) (fun _ v12 _ => ds.length - (intOf v12).toNat)
      case atStart => exact ⟨0, E1, l, As, cs, Nat.zero_le _, rfl, rfl, by omega, HN, RS⟩
      case round =>
        clear HN RS hll
        obtain ⟨i, E1, l, As, cs, hi, rfl, rfl, hll, HN, RS⟩ := hrel
        by_cases hlt : i < ds.length
        · obtain ⟨ad, A3, c3, A4, c4, A6, c6, hae, hx, l1, g1, l2, g2, l3, g3⟩ := el154 HD.out hlt
          have HWD := WF.out.ds _ (List.getElem_mem hlt)
          have hfl := HWD.fl
          have HWF := Aside0.mk HWD.fs
          have HCF := Aside0.mk g3
          have HX := Aside0.mk hx
          have HAE := Aside0.mk hae
          have i0 : (0 : Int) ≤ (i : Int) := by omega
          have i1 : (i : Int) < (ds.length : Int) := by omega
          clear hx l1 g1 l2 g2 hae HWD l3 g3
          generalize ds[i] = d at *
          cases HAE.out
          clear HAE
          have y1 := (HX.out wr HN.out.bl).2.1
          go_wp2_with fail
          refine (count_any d.f1 (Kd.R_reads' RS.out).2.2).mono ?_
          rintro e w1 ⟨⟨kc, rfl⟩, rfl⟩
          go_wp2_with fail
          refine (fault_any HN.out.m1 _ 10 (by decide)).mono ?_
          rintro e w2 ⟨rfl, E2, _, hn⟩
          have HN2 := Aside0.mk (HN.out.trans hn)
          have HNR := Aside0.mk hn
          clear hn
          have RSn := Aside0.mk (HNR.out.go.row RS.out)
          clear RS HNR y1
          have y1 := (HX.out w2 HN2.out.bl).2.1
          clear HN
          obtain ⟨szn, mn⟩ := HN2.out.m1
          have HPV : Aside0 (p < w2.heap.size ∧ ∀ k, v.ownBlock = some k → k < w2.heap.size) := ⟨mn.lt, Kd.R_lt mn.hr⟩
          clear mn
          go_wp2_with (at_builtin; refine Kd.R_append Kd.string (w0 := w2) w.heap.size rfl (.tmp 77) (.tmp 83) 22 9 (.string ⟨#[]⟩) 16 rfl Try.underlying22 info9 rfl (by decide) (by decide) (.slice As l.length cs) l d.f1 [.string d.f1] (fun k => k ≠ p ∧ some k ≠ v.ownBlock) (fun _ => False) rfl rfl rfl (fun _ hf => hf.elim) ?hfresh RSn.out (Below.refl _ _) ?hbase ?hl ?_)
          case hfresh => exact fun k hk => ⟨by have := HPV.out.1; omega, fun e => by have := HPV.out.2 k e.symm; omega⟩
          case hbase => exact HN2.out.go.keep.1
          case hl => omega
          intro v1 w1 r1 r2 r3 r4
          obtain ⟨AM, cM, hv1, _⟩ := Kd.R_reads r1
          replace hv1 : v1 = .slice AM (l.length + 1) cM := by rw [hv1]; simp
          subst hv1
          have HNg := Aside0.mk (HN2.out.grown r3 (row_hr RSn.out (Nat.le_refl _)))
          have RSg : Aside0 (Kd.string.R 9 w1 w.heap.size (fun k => k ≠ p ∧ some k ≠ v.ownBlock) (.slice AM (l.length + 1) cM) (l ++ [d.f1])) := ⟨r1⟩
          have HB2 : Aside0 (∀ k, (Value.slice AM (l.length + 1) cM).ownBlock = some k → k < w1.heap.size) := ⟨Kd.R_lt r1⟩
          clear r1 r2 r3 r4 HPV RSn HN2 y1
          have hl1 : (l ++ [d.f1]).length = l.length + 1 := by simp
          have HL1 := Aside0.mk hl1
          clear hl1
          generalize l ++ [d.f1] = ls at *
          go_wp2_with fail
          obtain ⟨B2, hB2⟩ : ∃ B2 : Nat, B2 = w1.heap.size := ⟨_, rfl⟩
          rw [← hB2] at HB2
          have HNS : Aside0 (B2 ≤ w1.heap.size) := ⟨Nat.le_of_eq hB2⟩
          have HWB : Aside0 (w.heap.size ≤ B2) := ⟨by rw [hB2]; exact HNg.out.go.keep.1⟩
          clear hB2
          go_loopw [13, 14] (fun v13 v14 wr => ∃ (k : Nat) (E1 : Int) (lo : List ByteArray) (Ao : Option Addr) (co : Nat), k ≤ d.f3.length ∧ v14 = .int .i64 k ∧ v13 = .slice Ao lo.length co ∧ lo.length ≤ k ∧ Aside0 (Nx h p vi vo dp w v E res wr v E1 res) ∧ Aside0 (Kd.string.R 9 wr w.heap.size (fun k => k ≠ p ∧ some k ≠ v.ownBlock) (.slice AM (l.length + 1) cM) ls) ∧ Aside0 (Kd.string.R 9 wr B2 (fun k => k ≠ p ∧ some k ≠ v.ownBlock) (.slice Ao lo.length co) lo) ∧ Aside0 (B2 ≤ wr.heap.size)) (fun _ v14 _ => d.f3.length - (intOf v14).toNat)
          case atStart => exact ⟨0, E2, [], none, 0, Nat.zero_le _, rfl, rfl, Nat.zero_le _, HNg, RSg, ⟨Kd.R_nil _ _ _ _ _⟩, HNS⟩
          case round =>
            clear HNg RSg HNS
            obtain ⟨k, E1, lo, Ao, co, hk, rfl, rfl, hlo, HN, RS, RO, HBW⟩ := hrel
            have y6 := (HX.out wr HN.out.bl).2.2.2.2.2.2
            by_cases hlt2 : k < d.f3.length
            · obtain ⟨ad2, G2, e2, G3, e3, G5, e5, G6, e6, hae2, hx2, l1, g1, l2, g2, l3, g3, l4, g4⟩ := el146 HCF.out hlt2
              rw [hae2] at y6
              have HFP := Aside0.mk g1
              obtain ⟨x0, x1, x2, x3, x4, x5, x6, x7⟩ := hx2 wr HN.out.bl
              have j0 : (0 : Int) ≤ (k : Int) := by omega
              have j1 : (k : Int) < (d.f3.length : Int) := by omega
              clear hx2 l1 g1 l2 g2 l3 g3 l4 g4 hae2
              generalize d.f3[k] = f at *
              have HNa := Aside0.mk (HN.out.below (below_alloc (Below.refl _ _) (.cells #[.string f.f0, .int .i64 f.f1, .slice G2 f.f2.length e2, .slice G3 f.f3.length e3, .int .i64 f.f4.f0, .slice G5 f.f4.f1.length e5, .slice G6 f.f4.f2.length e6, .int .i64 f.f4.f3] 146)))
              have RSa := Aside0.mk (Kd.R_below RS.out (below_alloc (Below.refl _ _) (.cells #[.string f.f0, .int .i64 f.f1, .slice G2 f.f2.length e2, .slice G3 f.f3.length e3, .int .i64 f.f4.f0, .slice G5 f.f4.f1.length e5, .slice G6 f.f4.f2.length e6, .int .i64 f.f4.f3] 146)))
              have ROa := Aside0.mk (Kd.R_below RO.out (below_alloc (Below.refl _ _) (.cells #[.string f.f0, .int .i64 f.f1, .slice G2 f.f2.length e2, .slice G3 f.f3.length e3, .int .i64 f.f4.f0, .slice G5 f.f4.f1.length e5, .slice G6 f.f4.f2.length e6, .int .i64 f.f4.f3] 146)))
              have K15a := Aside0.mk (blk_new wr (.cells #[.string f.f0, .int .i64 f.f1, .slice G2 f.f2.length e2, .slice G3 f.f3.length e3, .int .i64 f.f4.f0, .slice G5 f.f4.f1.length e5, .slice G6 f.f4.f2.length e6, .int .i64 f.f4.f3] 146))
              have HBa : Aside0 (B2 ≤ (wr.alloc (.cells #[.string f.f0, .int .i64 f.f1, .slice G2 f.f2.length e2, .slice G3 f.f3.length e3, .int .i64 f.f4.f0, .slice G5 f.f4.f1.length e5, .slice G6 f.f4.f2.length e6, .int .i64 f.f4.f3] 146)).heap.size) := ⟨by have := HBW.out; simp only [World.size_alloc]; omega⟩
              have q0 : (wr.alloc (.cells #[.string f.f0, .int .i64 f.f1, .slice G2 f.f2.length e2, .slice G3 f.f3.length e3, .int .i64 f.f4.f0, .slice G5 f.f4.f1.length e5, .slice G6 f.f4.f2.length e6, .int .i64 f.f4.f3] 146)).cell? ⟨wr.heap.size, 0, none⟩ = some (.string f.f0) := (blk_cell K15a.out 0).trans rfl
              go_wp2_with fail
              obtain ⟨wa, hwa⟩ : ∃ wa : World, wa = wr.alloc (.cells #[.string f.f0, .int .i64 f.f1, .slice G2 f.f2.length e2, .slice G3 f.f3.length e3, .int .i64 f.f4.f0, .slice G5 f.f4.f1.length e5, .slice G6 f.f4.f2.length e6, .int .i64 f.f4.f3] 146) := ⟨_, rfl⟩
              rw [← hwa] at HNa RSa ROa K15a HBa ⊢
              clear hwa x0 x1 x2 x3 x4 x5 x6 x7 y6 q0 HN RS RO HBW
              generalize wr.heap.size = g15 at *
              refine (count_any f.f0 (Kd.R_reads' ROa.out).2.2).mono ?_
              rintro e w1 ⟨⟨kc, rfl⟩, rfl⟩
              go_wp2_with fail
              refine (fault_any HNa.out.m1 _ 10 (by decide)).mono ?_
              rintro e w2 ⟨rfl, E2', _, hn⟩
              have HN2 := Aside0.mk (HNa.out.trans hn)
              have RS2 := Aside0.mk (hn.go.row RSa.out)
              have RO2 := Aside0.mk (hn.go.row ROa.out)
              have K15b := Aside0.mk (hn.blk K15a.out (by decide) (by decide))
              have HBb : Aside0 (B2 ≤ w2.heap.size) := ⟨Nat.le_trans HBa.out hn.go.keep.1⟩
              clear hn HNa RSa ROa K15a HBa
              have q0 : w2.cell? ⟨g15, 0, none⟩ = some (.string f.f0) := (blk_cell K15b.out 0).trans rfl
              obtain ⟨szn, mn⟩ := HN2.out.m1
              have HPV : Aside0 (p < w2.heap.size ∧ ∀ k, v.ownBlock = some k → k < w2.heap.size) := ⟨mn.lt, Kd.R_lt mn.hr⟩
              clear mn
              go_wp2_with (at_builtin; refine Kd.R_append Kd.string (w0 := w2) B2 rfl (.tmp 110) (.tmp 113) 22 9 (.string ⟨#[]⟩) 16 rfl Try.underlying22 info9 rfl (by decide) (by decide) (.slice Ao lo.length co) lo f.f0 [.string f.f0] (fun k => k ≠ p ∧ some k ≠ v.ownBlock) (fun _ => False) rfl rfl rfl (fun _ hf => hf.elim) ?hfresh RO2.out (Below.refl _ _) ?hbase ?hl ?_)
              case hfresh => exact fun k hk => ⟨by have := HPV.out.1; omega, fun e => by have := HPV.out.2 k e.symm; omega⟩
              case hbase => exact HBb.out
              case hl => omega
              intro v1 w1 r1 r2 r3 r4
              obtain ⟨AO, cO, hv1, _⟩ := Kd.R_reads r1
              replace hv1 : v1 = .slice AO (lo.length + 1) cO := by rw [hv1]; simp
              subst hv1
              have hro := Kd.R_base RO2.out
              have HNh := Aside0.mk (HN2.out.grown r3 (row_hr RO2.out HWB.out))
              have RSh := Aside0.mk (strR_grown RS2.out r3 (fun k e1 e2 => by have h1 := HB2.out k e2; have h2 := hro k e1; omega))
              have ROh : Aside0 (Kd.string.R 9 w1 B2 (fun k => k ≠ p ∧ some k ≠ v.ownBlock) (.slice AO (lo.length + 1) cO) (lo ++ [f.f0])) := ⟨r1⟩
              have K15h := Aside0.mk (blk_grown K15b.out r3 (Kd.R_ne RO2.out K15b.out (by decide)))
              have HBh : Aside0 (B2 ≤ w1.heap.size) := ⟨Nat.le_trans HBb.out r3.size⟩
              clear r1 r2 r3 r4 HPV RO2 RS2 HN2 q0 hro K15b HBb
              have q0 : w1.cell? ⟨g15, 0, none⟩ = some (.string f.f0) := (blk_cell K15h.out 0).trans rfl
              have q1 : w1.cell? ⟨g15, 1, none⟩ = some (.int .i64 f.f1) := (blk_cell K15h.out 1).trans rfl
              have q2 : w1.cell? ⟨g15, 2, none⟩ = some (.slice G2 f.f2.length e2) := (blk_cell K15h.out 2).trans rfl
              have q3 : w1.cell? ⟨g15, 3, none⟩ = some (.slice G3 f.f3.length e3) := (blk_cell K15h.out 3).trans rfl
              have q4 : w1.cell? ⟨g15, 4, none⟩ = some (.int .i64 f.f4.f0) := (blk_cell K15h.out 4).trans rfl
              have q5 : w1.cell? ⟨g15, 5, none⟩ = some (.slice G5 f.f4.f1.length e5) := (blk_cell K15h.out 5).trans rfl
              have q6 : w1.cell? ⟨g15, 6, none⟩ = some (.slice G6 f.f4.f2.length e6) := (blk_cell K15h.out 6).trans rfl
              have q7 : w1.cell? ⟨g15, 7, none⟩ = some (.int .i64 f.f4.f3) := (blk_cell K15h.out 7).trans rfl
              by_cases h1 : f.f1 = 1
              · have e5 : decide (f.f1 = 1) = true := decide_eq_true h1
                have e6 : (f.f1 == 1) = true := beq_iff_eq.mpr h1
                clear h1
                go_wp2_with fail
                refine (count_any _ (Kd.C_below HFP.out HNh.out.bl)).mono ?_
                rintro e w3 ⟨⟨kc2, rfl⟩, rfl⟩
                go_wp2_with fail
                clear q0 q1 q2 q3 q4 q5 q6 q7 e5 e6
                refine (fault_any HNh.out.m1 _ 10 (by decide)).mono ?_
                rintro e w4 ⟨rfl, E3, _, hn⟩
                have HN4 := Aside0.mk (HNh.out.trans hn)
                have RS4 := Aside0.mk (hn.go.row RSh.out)
                have RO4 := Aside0.mk (hn.go.row ROh.out)
                have K4 := Aside0.mk (hn.blk K15h.out (by decide) (by decide))
                have HB4 : Aside0 (B2 ≤ w4.heap.size) := ⟨Nat.le_trans HBh.out hn.go.keep.1⟩
                clear hn HNh RSh ROh K15h HBh
                have q0 : w4.cell? ⟨g15, 0, none⟩ = some (.string f.f0) := (blk_cell K4.out 0).trans rfl
                have q1 : w4.cell? ⟨g15, 1, none⟩ = some (.int .i64 f.f1) := (blk_cell K4.out 1).trans rfl
                have q2 : w4.cell? ⟨g15, 2, none⟩ = some (.slice G2 f.f2.length e2) := (blk_cell K4.out 2).trans rfl
                have q3 : w4.cell? ⟨g15, 3, none⟩ = some (.slice G3 f.f3.length e3) := (blk_cell K4.out 3).trans rfl
                have q4 : w4.cell? ⟨g15, 4, none⟩ = some (.int .i64 f.f4.f0) := (blk_cell K4.out 4).trans rfl
                have q5 : w4.cell? ⟨g15, 5, none⟩ = some (.slice G5 f.f4.f1.length e5) := (blk_cell K4.out 5).trans rfl
                have q6 : w4.cell? ⟨g15, 6, none⟩ = some (.slice G6 f.f4.f2.length e6) := (blk_cell K4.out 6).trans rfl
                have q7 : w4.cell? ⟨g15, 7, none⟩ = some (.int .i64 f.f4.f3) := (blk_cell K4.out 7).trans rfl
                go_wp2_with fail
                clear q0 q1 q2 q3 q4 q5 q6 q7
                refine (args_any HN4.out.m1 f HFP.out).mono ?_
                rintro e w5 ⟨rfl, E4, hn⟩
                have HN5 := Aside0.mk (HN4.out.trans hn)
                have RS5 := Aside0.mk (hn.go.row RS4.out)
                have RO5 := Aside0.mk (hn.go.row RO4.out)
                have HB5 : Aside0 (B2 ≤ w5.heap.size) := ⟨Nat.le_trans HB4.out hn.go.keep.1⟩
                clear hn HN4 RS4 RO4 K4 HB4
                go_wp2_with fail
                go_roundw
                case rel => exact ⟨k + 1, E4, lo ++ [f.f0], AO, cO, by omega, by go_num, by simp, by simp; omega, HN5, RS5, ⟨by rw [List.length_append]; exact RO5.out⟩, HB5⟩
                case measure => simp [intOf]; omega
              · have e5 : decide (f.f1 = 1) = false := decide_eq_false h1
                have e6 : (f.f1 == 1) = false := beq_eq_false_iff_ne.mpr h1
                clear h1
                go_wp2_with fail
                clear q0 q1 q2 q3 q4 q5 q6 q7 e5 e6
                refine (fault_any HNh.out.m1 _ 10 (by decide)).mono ?_
                rintro e w4 ⟨rfl, E3, _, hn⟩
                have HN4 := Aside0.mk (HNh.out.trans hn)
                have RS4 := Aside0.mk (hn.go.row RSh.out)
                have RO4 := Aside0.mk (hn.go.row ROh.out)
                have K4 := Aside0.mk (hn.blk K15h.out (by decide) (by decide))
                have HB4 : Aside0 (B2 ≤ w4.heap.size) := ⟨Nat.le_trans HBh.out hn.go.keep.1⟩
                clear hn HNh RSh ROh K15h HBh
                have q0 : w4.cell? ⟨g15, 0, none⟩ = some (.string f.f0) := (blk_cell K4.out 0).trans rfl
                have q1 : w4.cell? ⟨g15, 1, none⟩ = some (.int .i64 f.f1) := (blk_cell K4.out 1).trans rfl
                have q2 : w4.cell? ⟨g15, 2, none⟩ = some (.slice G2 f.f2.length e2) := (blk_cell K4.out 2).trans rfl
                have q3 : w4.cell? ⟨g15, 3, none⟩ = some (.slice G3 f.f3.length e3) := (blk_cell K4.out 3).trans rfl
                have q4 : w4.cell? ⟨g15, 4, none⟩ = some (.int .i64 f.f4.f0) := (blk_cell K4.out 4).trans rfl
                have q5 : w4.cell? ⟨g15, 5, none⟩ = some (.slice G5 f.f4.f1.length e5) := (blk_cell K4.out 5).trans rfl
                have q6 : w4.cell? ⟨g15, 6, none⟩ = some (.slice G6 f.f4.f2.length e6) := (blk_cell K4.out 6).trans rfl
                have q7 : w4.cell? ⟨g15, 7, none⟩ = some (.int .i64 f.f4.f3) := (blk_cell K4.out 7).trans rfl
                go_wp2_with fail
                clear q0 q1 q2 q3 q4 q5 q6 q7
                refine (args_any HN4.out.m1 f HFP.out).mono ?_
                rintro e w5 ⟨rfl, E4, hn⟩
                have HN5 := Aside0.mk (HN4.out.trans hn)
                have RS5 := Aside0.mk (hn.go.row RS4.out)
                have RO5 := Aside0.mk (hn.go.row RO4.out)
                have HB5 : Aside0 (B2 ≤ w5.heap.size) := ⟨Nat.le_trans HB4.out hn.go.keep.1⟩
                clear hn HN4 RS4 RO4 K4 HB4
                go_wp2_with fail
                go_roundw
                case rel => exact ⟨k + 1, E4, lo ++ [f.f0], AO, cO, by omega, by go_num, by simp, by simp; omega, HN5, RS5, ⟨by rw [List.length_append]; exact RO5.out⟩, HB5⟩
                case measure => simp [intOf]; omega
            · obtain rfl : k = d.f3.length := by omega
              go_wp2_with fail
              go_roundw
              case rel => exact ⟨i + 1, E1, ls, AM, cM, by omega, by go_num, by rw [HL1.out], by have := HL1.out; omega, HN, ⟨by rw [HL1.out]; exact RS.out⟩⟩
              case measure => simp [intOf]; omega
        · obtain rfl : i = ds.length := by omega
          go_wp2_with fail
          go_loopw [8, 16] (fun v8 v16 wr => ∃ (i : Nat) (E1 : Int) (l : List ByteArray) (As : Option Addr) (cs : Nat), i ≤ fs.length ∧ v16 = .int .i64 i ∧ v8 = .slice As l.length cs ∧ l.length ≤ 4200 + i ∧ Aside0 (Nx h p vi vo dp w v E res wr v E1 res) ∧ Aside0 (Kd.string.R 9 wr w.heap.size (fun k => k ≠ p ∧ some k ≠ v.ownBlock) (.slice As l.length cs) l)) (fun _ v16 _ => fs.length - (intOf v16).toNat)
          case atStart => exact ⟨0, E1, l, As, cs, Nat.zero_le _, rfl, rfl, by omega, HN, RS⟩
          case round =>
            clear HN RS hll
            obtain ⟨i, E1, l, As, cs, hi, rfl, rfl, hll, HN, RS⟩ := hrel
            by_cases hlt : i < fs.length
            · obtain ⟨ad2, G2, e2, G3, e3, G5, e5, G6, e6, hae2, hx2, l1, g1, l2, g2, l3, g3, l4, g4⟩ := el146 HF.out hlt
              cases hae2
              have HFP := Aside0.mk g1
              have HX := Aside0.mk hx2
              have i0 : (0 : Int) ≤ (i : Int) := by omega
              have i1 : (i : Int) < (fs.length : Int) := by omega
              clear hx2 l1 g1 l2 g2 l3 g3 l4 g4
              generalize fs[i] = f at *
              have y1 := (HX.out wr HN.out.bl).1
              go_wp2_with fail
              refine (count_any f.f0 (Kd.R_reads' RS.out).2.2).mono ?_
              rintro e w1 ⟨⟨kc, rfl⟩, rfl⟩
              go_wp2_with fail
              refine (fault_any HN.out.m1 _ 10 (by decide)).mono ?_
              rintro e w2 ⟨rfl, E2, _, hn⟩
              have HN2 := Aside0.mk (HN.out.trans hn)
              have HNR := Aside0.mk hn
              clear hn
              have RSn := Aside0.mk (HNR.out.go.row RS.out)
              clear RS HNR y1
              have y1 := (HX.out w2 HN2.out.bl).1
              clear HN
              obtain ⟨szn, mn⟩ := HN2.out.m1
              have HPV : Aside0 (p < w2.heap.size ∧ ∀ k, v.ownBlock = some k → k < w2.heap.size) := ⟨mn.lt, Kd.R_lt mn.hr⟩
              clear mn
              go_wp2_with (at_builtin; refine Kd.R_append Kd.string (w0 := w2) w.heap.size rfl (.tmp 145) (.tmp 151) 22 9 (.string ⟨#[]⟩) 16 rfl Try.underlying22 info9 rfl (by decide) (by decide) (.slice As l.length cs) l f.f0 [.string f.f0] (fun k => k ≠ p ∧ some k ≠ v.ownBlock) (fun _ => False) rfl rfl rfl (fun _ hf => hf.elim) ?hfresh RSn.out (Below.refl _ _) ?hbase ?hl ?_)
              case hfresh => exact fun k hk => ⟨by have := HPV.out.1; omega, fun e => by have := HPV.out.2 k e.symm; omega⟩
              case hbase => exact HN2.out.go.keep.1
              case hl => omega
              intro v1 w1 r1 r2 r3 r4
              obtain ⟨AM, cM, hv1, _⟩ := Kd.R_reads r1
              replace hv1 : v1 = .slice AM (l.length + 1) cM := by rw [hv1]; simp
              subst hv1
              have HNg := Aside0.mk (HN2.out.grown r3 (row_hr RSn.out (Nat.le_refl _)))
              have RSg : Aside0 (Kd.string.R 9 w1 w.heap.size (fun k => k ≠ p ∧ some k ≠ v.ownBlock) (.slice AM (l.length + 1) cM) (l ++ [f.f0])) := ⟨r1⟩
              clear r1 r2 r3 r4 HPV RSn HN2 y1
              obtain ⟨x0, x1, x2, x3, x4, x5, x6, x7⟩ := HX.out w1 HNg.out.bl
              go_wp2_with fail
              clear x0 x1 x2 x3 x4 x5 x6 x7
              refine (args_any HNg.out.m1 f HFP.out).mono ?_
              rintro e w5 ⟨rfl, E4, hn⟩
              have HN5 := Aside0.mk (HNg.out.trans hn)
              have RS5 := Aside0.mk (hn.go.row RSg.out)
              clear hn HNg RSg
              go_wp2_with fail
              go_roundw
              case rel => exact ⟨i + 1, E4, l ++ [f.f0], AM, cM, by omega, by go_num, by simp, by simp; omega, HN5, ⟨by rw [List.length_append]; exact RS5.out⟩⟩
              case measure => simp [intOf]; omega
            · obtain rfl : i = fs.length := by omega
              go_wp2_with fail
              first | go_end0 | ((try simp only [Exit.inBlock, Exit.then]); refine bodyPost_ret (results_none rfl _ _ _) rfl ?_)
              exact ⟨rfl, E1, HN.out⟩
end Go.Proofs.Ytmpmcffhlnlejaa.Mkr
end
section
namespace Go.Proofs.Ytmpmcffhlnlejaa.Mkr
open Go.RowKit Go.Proofs.YtmpmcffhlnlejaaW.PrintWords Go.Proofs.YtmpmcffhlnlejaaW.PrintLast Go.Proofs.YtmpmcffhlnlejaaW.PrintMore
open Go.Proofs.Ytmpmcffhlnlejaa.PSubSelf Go.Proofs.Ytmpmcffhlnlejaa.Wld
set_option linter.unusedVariables false
set_option linter.unusedSimpArgs false
/-- A row of the caller's, apart from more. -/
theorem Go.rowx {p : Nat} {w w' : World} {v v' : Value} {X : Nat → Prop} {α : Type} {d : Kd α} {e base : Nat} {u : Value} {xs : List α} (a : Go p w v w' v') (hr : d.R e w base (fun k => (k ≠ p ∧ some k ≠ v.ownBlock) ∧ X k) u xs) : d.R e w' base (fun k => (k ≠ p ∧ some k ≠ v'.ownBlock) ∧ X k) u xs := by
  have h2 := Kd.R_step (Kd.R_bound hr) (fun k hk hl => a.keep.2 k hl hk.1.1.1 hk.1.1.2)
  refine Kd.R_mono h2 (fun k hk => ⟨⟨hk.1.1.1, fun e => ?_⟩, hk.1.2⟩)
  rcases a.own with e2 | ⟨b, e2, hb⟩
  · exact hk.1.1.2 (e.trans e2)
  · have := hk.2.2.1
    have : k = b := Option.some.inj (e.trans e2)
    omega
def Z27 : Array Value := #[.string ⟨#[]⟩, .slice none 0 0, .slice none 0 0, .int .i64 0, .slice none 0 0, .slice none 0 0, .int .i64 0]
def sgC (nm : ByteArray) (AP : Option Addr) (nP cP : Nat) (AT : Option Addr) (nT cT : Nat) (rk rr : Int) : Array Value := #[.string nm, .slice AP nP cP, .slice AT nT cT, .int .i64 rk, .slice none 0 0, .slice none 0 0, .int .i64 rr]
/-- A function under way: its box at block g9. -/
structure SG (h : Hd) (p : Nat) (vi vo : Value) (w : World) (v : Value) (E : Int) (res : List ByteArray) (g5 g6 g8 g9 : Nat) (c5 c6 : Array Value) (n m : Nat)
    (wx : World) (v1 : Value) (E1 : Int) (res1 : List ByteArray) (nm : ByteArray) (P : List ByteArray) (AP : Option Addr) (cP : Nat) (T : List PSubFits.S25) (AT : Option Addr) (cT : Nat) (rk rr : Int) : Prop where
  nx : Nx h p vi vo 0 w v E res wx v1 E1 res1
  k5 : wx.heap[g5]? = some (.cells c5 160 (0, 0))
  k6 : wx.heap[g6]? = some (.cells c6 146 (0, 0))
  k8 : wx.heap[g8]? = some (.cells Z27 27 (0, 0))
  k9 : wx.heap[g9]? = some (.cells (sgC nm AP P.length cP AT T.length cT rk rr) 27 (0, 0))
  b9 : w.heap.size ≤ g9
  rp : Kd.string.R 9 wx (g9 + 1) (fun k => k ≠ p ∧ some k ≠ v1.ownBlock) (.slice AP P.length cP) P
  rt : PSubFits.k25.R 25 wx (g9 + 1) (fun k => (k ≠ p ∧ some k ≠ v1.ownBlock) ∧ some k ≠ (Value.slice AP P.length cP).ownBlock) (.slice AT T.length cT) T
  gt : E1 = 0 → (∀ y ∈ T, GoodT res1.length y) ∧ ((rk = 20 ∨ rk = 21) → 0 ≤ rr ∧ rr < res1.length)
  lP : P.length ≤ n
  lT : T.length ≤ m
  ns : nm.size ≤ 3000
  n8 : g8 ≠ g9
section
variable {h : Hd} {p : Nat} {vi vo : Value} {w : World} {v : Value} {E : Int} {res : List ByteArray} {g5 g6 g8 g9 : Nat} {c5 c6 : Array Value} {n m : Nat}
  {wx w2 : World} {v1 v2 : Value} {E1 E2 : Int} {res1 res2 : List ByteArray} {nm : ByteArray} {P : List ByteArray} {AP : Option Addr} {cP : Nat} {T : List PSubFits.S25} {AT : Option Addr} {cT : Nat} {rk rr : Int}
theorem SG.le {n2 m2 : Nat} (s : SG h p vi vo w v E res g5 g6 g8 g9 c5 c6 n m wx v1 E1 res1 nm P AP cP T AT cT rk rr) (hn : n ≤ n2) (hm : m ≤ m2) : SG h p vi vo w v E res g5 g6 g8 g9 c5 c6 n2 m2 wx v1 E1 res1 nm P AP cP T AT cT rk rr :=
  { s with lP := Nat.le_trans s.lP hn, lT := Nat.le_trans s.lT hm }
theorem SG.n5 (s : SG h p vi vo w v E res g5 g6 g8 g9 c5 c6 n m wx v1 E1 res1 nm P AP cP T AT cT rk rr) : g5 ≠ g9 := blk_ne s.k5 s.k9 (by decide)
theorem SG.n6 (s : SG h p vi vo w v E res g5 g6 g8 g9 c5 c6 n m wx v1 E1 res1 nm P AP cP T AT cT rk rr) : g6 ≠ g9 := blk_ne s.k6 s.k9 (by decide)
theorem SG.lt (s : SG h p vi vo w v E res g5 g6 g8 g9 c5 c6 n m wx v1 E1 res1 nm P AP cP T AT cT rk rr) : p < wx.heap.size ∧ g9 + 1 ≤ wx.heap.size ∧ (∀ k, v1.ownBlock = some k → k < wx.heap.size) ∧ (∀ k, (Value.slice AP P.length cP).ownBlock = some k → k < wx.heap.size) := by
  obtain ⟨sz, m⟩ := s.nx.m1
  exact ⟨m.lt, blk_lt s.k9, Kd.R_lt m.hr, Kd.R_lt s.rp⟩
theorem SG.fr (s : SG h p vi vo w v E res g5 g6 g8 g9 c5 c6 n m wx v1 E1 res1 nm P AP cP T AT cT rk rr) : (∀ k, wx.heap.size ≤ k → k ≠ p ∧ some k ≠ v1.ownBlock) ∧ (∀ k, wx.heap.size ≤ k → (k ≠ p ∧ some k ≠ v1.ownBlock) ∧ some k ≠ (Value.slice AP P.length cP).ownBlock) := by
  obtain ⟨a, b, c, d⟩ := s.lt
  have e1 : ∀ k, wx.heap.size ≤ k → k ≠ p ∧ some k ≠ v1.ownBlock := fun k hk => ⟨by omega, fun e => by have := c k e.symm; omega⟩
  exact ⟨e1, fun k hk => ⟨e1 k hk, fun e => by have := d k e.symm; omega⟩⟩
/-- Another method. -/
theorem SG.go (s : SG h p vi vo w v E res g5 g6 g8 g9 c5 c6 n m wx v1 E1 res1 nm P AP cP T AT cT rk rr) (hn : Nx h p vi vo 0 wx v1 E1 res1 w2 v2 E2 res2) : SG h p vi vo w v E res g5 g6 g8 g9 c5 c6 n m w2 v2 E2 res2 nm P AP cP T AT cT rk rr where
  nx := s.nx.trans hn
  k5 := hn.blk s.k5 (by decide) (by decide)
  k6 := hn.blk s.k6 (by decide) (by decide)
  k8 := hn.blk s.k8 (by decide) (by decide)
  k9 := hn.blk s.k9 (by decide) (by decide)
  b9 := s.b9
  rp := hn.go.row s.rp
  rt := hn.go.rowx s.rt
  gt := fun e => ⟨fun y hy => ((s.gt (hn.er e)).1 y hy).more hn.le, fun hk => by have := (s.gt (hn.er e)).2 hk; have := hn.le; omega⟩
  lP := s.lP
  lT := s.lT
  ns := s.ns
  n8 := s.n8
theorem SG.below (s : SG h p vi vo w v E res g5 g6 g8 g9 c5 c6 n m wx v1 E1 res1 nm P AP cP T AT cT rk rr) (hb : Below wx.heap.size wx w2) : SG h p vi vo w v E res g5 g6 g8 g9 c5 c6 n m w2 v1 E1 res1 nm P AP cP T AT cT rk rr := by
  obtain ⟨sz, m⟩ := s.nx.m1
  exact s.go ((Nx.refl m).below hb)
theorem SG.own (s : SG h p vi vo w v E res g5 g6 g8 g9 c5 c6 n m wx v1 E1 res1 nm P AP cP T AT cT rk rr) : Own w wx g9 := Own.mk' s.b9 s.k9 (by decide) (by decide)
/-- The name is set. -/
theorem SG.name (s : SG h p vi vo w v E res g5 g6 g8 g9 c5 c6 n m wx v1 E1 res1 nm P AP cP T AT cT rk rr) (t : ByteArray) (ht : t.size ≤ 3000) : SG h p vi vo w v E res g5 g6 g8 g9 c5 c6 n m (wx.setCell ⟨g9, 0, none⟩ (.string t)) v1 E1 res1 t P AP cP T AT cT rk rr where
  nx := s.nx.set s.own 0 _
  k5 := blk_far s.k5 s.n5 _
  k6 := blk_far s.k6 s.n6 _
  k8 := blk_far s.k8 s.n8 _
  k9 := blk_put s.k9 0 _ rfl
  b9 := s.b9
  rp := Kd.R_set s.rp s.k9 (by decide) 0 _
  rt := Kd.R_set s.rt s.k9 (by decide) 0 _
  gt := s.gt
  lP := s.lP
  lT := s.lT
  ns := ht
  n8 := s.n8
/-- A resource is the result. -/
theorem SG.setR (s : SG h p vi vo w v E res g5 g6 g8 g9 c5 c6 n m wx v1 E1 res1 nm P AP cP T AT cT rk rr) (k r : Int) (hk : (k = 20 ∨ k = 21) → 0 ≤ r ∧ r < res1.length) :
    SG h p vi vo w v E res g5 g6 g8 g9 c5 c6 n m ((((wx.setCell ⟨g9, 3, none⟩ (.int .i64 k)).setCell ⟨g9, 4, none⟩ (.slice none 0 0)).setCell ⟨g9, 5, none⟩ (.slice none 0 0)).setCell ⟨g9, 6, none⟩ (.int .i64 r)) v1 E1 res1 nm P AP cP T AT cT k r := by
  have k0 := blk_put s.k9 3 (.int .i64 k) (show _ = sgC nm AP P.length cP AT T.length cT k rr from rfl)
  have k1 := blk_put k0 4 (.slice none 0 0) (show _ = sgC nm AP P.length cP AT T.length cT k rr from rfl)
  have k2 := blk_put k1 5 (.slice none 0 0) (show _ = sgC nm AP P.length cP AT T.length cT k rr from rfl)
  have k3 := blk_put k2 6 (.int .i64 r) (show _ = sgC nm AP P.length cP AT T.length cT k r from rfl)
  exact {
    nx := (((s.nx.set s.own 3 _).set (Own.mk' s.b9 k0 (by decide) (by decide)) 4 _).set (Own.mk' s.b9 k1 (by decide) (by decide)) 5 _).set (Own.mk' s.b9 k2 (by decide) (by decide)) 6 _
    k5 := blk_far (blk_far (blk_far (blk_far s.k5 s.n5 _) s.n5 _) s.n5 _) s.n5 _
    k6 := blk_far (blk_far (blk_far (blk_far s.k6 s.n6 _) s.n6 _) s.n6 _) s.n6 _
    k8 := blk_far (blk_far (blk_far (blk_far s.k8 s.n8 _) s.n8 _) s.n8 _) s.n8 _
    k9 := k3
    b9 := s.b9
    rp := Kd.R_set (Kd.R_set (Kd.R_set (Kd.R_set s.rp s.k9 (by decide) 3 _) k0 (by decide) 4 _) k1 (by decide) 5 _) k2 (by decide) 6 _
    rt := Kd.R_set (Kd.R_set (Kd.R_set (Kd.R_set s.rt s.k9 (by decide) 3 _) k0 (by decide) 4 _) k1 (by decide) 5 _) k2 (by decide) 6 _
    gt := fun e => ⟨(s.gt e).1, hk⟩
    lP := s.lP
    lT := s.lT
    ns := s.ns
    n8 := s.n8 }
/-- A name more. -/
theorem SG.appP {w1 : World} {t : ByteArray} {AM : Option Addr} {cM : Nat} (s : SG h p vi vo w v E res g5 g6 g8 g9 c5 c6 n m wx v1 E1 res1 nm P AP cP T AT cT rk rr)
    (r1 : Kd.string.R 9 w1 (g9 + 1) (fun k => k ≠ p ∧ some k ≠ v1.ownBlock) (.slice AM (P.length + 1) cM) (P ++ [t])) (r3 : wx.grownBy w1 (Value.slice AP P.length cP).ownBlock)
    (r4 : (Value.slice AM (P.length + 1) cM).ownBlock = (Value.slice AP P.length cP).ownBlock ∨ ∃ b, (Value.slice AM (P.length + 1) cM).ownBlock = some b ∧ wx.heap.size ≤ b) :
    SG h p vi vo w v E res g5 g6 g8 g9 c5 c6 (n + 1) m (w1.setCell ⟨g9, 1, none⟩ (.slice AM (P.length + 1) cM)) v1 E1 res1 nm (P ++ [t]) AM cM T AT cT rk rr := by
  have k9 := blk_grown s.k9 r3 (Kd.R_ne s.rp s.k9 (by decide))
  have hl : (P ++ [t]).length = P.length + 1 := by simp
  have rt1 := Kd.R_grown (Kd.R_bound s.rt) r3 (fun k hk => hk.1.2)
  have rt2 := Kd.R_mono rt1 (ok' := fun k => (k ≠ p ∧ some k ≠ v1.ownBlock) ∧ some k ≠ (Value.slice AM (P.length + 1) cM).ownBlock) (fun k hk => ⟨hk.1.1, fun e => by
    rcases r4 with r4 | ⟨b, r4, hb⟩
    · exact hk.1.2 (e.trans r4)
    · have h1 := hk.2.2.1
      have h2 : k = b := Option.some.inj (e.trans r4)
      omega⟩)
  exact {
    nx := (s.nx.grown r3 (row_hr s.rp (Nat.le_succ_of_le s.b9))).set (Own.mk' s.b9 k9 (by decide) (by decide)) 1 _
    k5 := blk_far (blk_grown s.k5 r3 (Kd.R_ne s.rp s.k5 (by decide))) s.n5 _
    k6 := blk_far (blk_grown s.k6 r3 (Kd.R_ne s.rp s.k6 (by decide))) s.n6 _
    k8 := blk_far (blk_grown s.k8 r3 (Kd.R_ne s.rp s.k8 (by decide))) s.n8 _
    k9 := by rw [hl]; exact blk_put k9 1 _ rfl
    b9 := s.b9
    rp := by rw [hl]; exact Kd.R_set r1 k9 (by decide) 1 _
    rt := by rw [hl]; exact Kd.R_set rt2 k9 (by decide) 1 _
    gt := s.gt
    lP := by rw [hl]; exact Nat.succ_le_succ s.lP
    lT := s.lT
    ns := s.ns
    n8 := s.n8 }
/-- A type more. -/
theorem SG.appT {w1 : World} {y : PSubFits.S25} {AM : Option Addr} {cM : Nat} (s : SG h p vi vo w v E res g5 g6 g8 g9 c5 c6 n m wx v1 E1 res1 nm P AP cP T AT cT rk rr) (hy : E1 = 0 → GoodT res1.length y)
    (r1 : PSubFits.k25.R 25 w1 (g9 + 1) (fun k => (k ≠ p ∧ some k ≠ v1.ownBlock) ∧ some k ≠ (Value.slice AP P.length cP).ownBlock) (.slice AM (T.length + 1) cM) (T ++ [y])) (r3 : wx.grownBy w1 (Value.slice AT T.length cT).ownBlock) :
    SG h p vi vo w v E res g5 g6 g8 g9 c5 c6 n (m + 1) (w1.setCell ⟨g9, 2, none⟩ (.slice AM (T.length + 1) cM)) v1 E1 res1 nm P AP cP (T ++ [y]) AM cM rk rr := by
  have k9 := blk_grown s.k9 r3 (Kd.R_ne s.rt s.k9 (by decide))
  have hl : (T ++ [y]).length = T.length + 1 := by simp
  have rp1 := R_off s.rp s.rt r3 (by decide)
  exact {
    nx := (s.nx.grown r3 (row_hr (Kd.R_mono s.rt (fun k hk => hk.1)) (Nat.le_succ_of_le s.b9))).set (Own.mk' s.b9 k9 (by decide) (by decide)) 2 _
    k5 := blk_far (blk_grown s.k5 r3 (Kd.R_ne s.rt s.k5 (by decide))) s.n5 _
    k6 := blk_far (blk_grown s.k6 r3 (Kd.R_ne s.rt s.k6 (by decide))) s.n6 _
    k8 := blk_far (blk_grown s.k8 r3 (Kd.R_ne s.rt s.k8 (by decide))) s.n8 _
    k9 := by rw [hl]; exact blk_put k9 2 _ rfl
    b9 := s.b9
    rp := Kd.R_set rp1 k9 (by decide) 2 _
    rt := by rw [hl]; exact Kd.R_set r1 k9 (by decide) 2 _
    gt := fun e => ⟨fun z hz => by
      rcases List.mem_append.1 hz with hz | hz
      · exact (s.gt e).1 z hz
      · rw [List.mem_singleton.1 hz]; exact hy e, (s.gt e).2⟩
    lP := s.lP
    lT := by rw [hl]; exact Nat.succ_le_succ s.lT
    ns := s.ns
    n8 := s.n8 }
end
/-- A made function's parts. -/
structure SV (p : Nat) (w : World) (base : Nat) (v : Value) (x : PSubFits.S27) (v1 v2 v4 v5 : Value) : Prop where
  n : Kd.string.R 9 w base (fun k => k ≠ p ∧ some k ≠ v.ownBlock) v1 x.f1
  l : PSubFits.k25.R 25 w base (fun k => k ≠ p ∧ some k ≠ v.ownBlock) v2 x.f2
  r : TV p w base v x.f3 v4 v5
theorem SV.go {p : Nat} {w w' : World} {base : Nat} {v v' : Value} {x : PSubFits.S27} {v1 v2 v4 v5 : Value} (t : SV p w base v x v1 v2 v4 v5) (a : Go p w v w' v') : SV p w' base v' x v1 v2 v4 v5 := ⟨a.row t.n, a.row t.l, t.r.go a⟩
theorem SV.lower {p : Nat} {w : World} {base base' : Nat} {v : Value} {x : PSubFits.S27} {v1 v2 v4 v5 : Value} (t : SV p w base v x v1 v2 v4 v5) (h : base' ≤ base) : SV p w base' v x v1 v2 v4 v5 := ⟨Kd.R_lower t.n h, Kd.R_lower t.l h, t.r.lower h⟩
theorem SV.set {p : Nat} {w : World} {base : Nat} {v : Value} {x : PSubFits.S27} {v1 v2 v4 v5 : Value} (t : SV p w base v x v1 v2 v4 v5) {g : Nat} {cs : Array Value} {T : TypeId} (hb : w.heap[g]? = some (.cells cs T (0, 0))) (h9 : T ≠ 9) (h25 : T ≠ 25) (j : Nat) (u : Value) : SV p (w.setCell ⟨g, j, none⟩ u) base v x v1 v2 v4 v5 :=
  ⟨Kd.R_set t.n hb (by intro q hq; rcases List.mem_cons.1 hq with rfl | hq; exact h9.symm; cases hq) j u,
   Kd.R_set t.l hb (by intro q hq; have hq2 : q ∈ [25, 9, 25] := hq; simp at hq2; rcases hq2 with rfl | rfl | rfl; exact h25.symm; exact h9.symm; exact h25.symm) j u,
   ⟨Kd.R_set t.r.n hb (by intro q hq; rcases List.mem_cons.1 hq with rfl | hq; exact h9.symm; cases hq) j u,
    Kd.R_set t.r.l hb (by intro q hq; have hq2 : q ∈ [25, 9, 25] := hq; simp at hq2; rcases hq2 with rfl | rfl | rfl; exact h25.symm; exact h9.symm; exact h25.symm) j u⟩⟩
def GoodS (n : Nat) (x : PSubFits.S27) : Prop := (∀ y ∈ x.f2, GoodT n y) ∧ GoodT n x.f3
theorem GoodS.more {n m : Nat} (hm : n ≤ m) {x : PSubFits.S27} (g : GoodS n x) : GoodS m x := ⟨fun y hy => (g.1 y hy).more hm, g.2.more hm⟩
def s27C (x : PSubFits.S27) (A1 : Option Addr) (c1 : Nat) (A2 : Option Addr) (c2 : Nat) (A4 : Option Addr) (c4 : Nat) (A5 : Option Addr) (c5 : Nat) : Array Value :=
  #[.string x.f0, .slice A1 x.f1.length c1, .slice A2 x.f2.length c2, .int .i64 x.f3.f0, .slice A4 x.f3.f1.length c4, .slice A5 x.f3.f2.length c5, .int .i64 x.f3.f3]
/-- A function done, in its box. -/
structure SF (h : Hd) (p : Nat) (vi vo : Value) (w : World) (v : Value) (E : Int) (res : List ByteArray) (g8 g9 : Nat) (wx : World) (v1 : Value) (E1 : Int) (res1 : List ByteArray) (x : PSubFits.S27) (A1 : Option Addr) (c1 : Nat) (A2 : Option Addr) (c2 : Nat) (A4 : Option Addr) (c4 : Nat) (A5 : Option Addr) (c5 : Nat) : Prop where
  nx : Nx h p vi vo 0 w v E res wx v1 E1 res1
  k8 : wx.heap[g8]? = some (.cells Z27 27 (0, 0))
  k9 : wx.heap[g9]? = some (.cells (s27C x A1 c1 A2 c2 A4 c4 A5 c5) 27 (0, 0))
  b9 : w.heap.size ≤ g9
  sv : SV p wx (g9 + 1) v1 x (.slice A1 x.f1.length c1) (.slice A2 x.f2.length c2) (.slice A4 x.f3.f1.length c4) (.slice A5 x.f3.f2.length c5)
  gd : E1 = 0 → GoodS res1.length x
  n8 : g8 ≠ g9
section
variable {h : Hd} {p : Nat} {vi vo : Value} {w : World} {v : Value} {E : Int} {res : List ByteArray} {g5 g6 g8 g9 : Nat} {c5 c6 : Array Value} {n m : Nat}
  {wx w2 : World} {v1 v2 : Value} {E1 E2 : Int} {res1 res2 : List ByteArray} {nm : ByteArray} {P : List ByteArray} {AP : Option Addr} {cP : Nat} {T : List PSubFits.S25} {AT : Option Addr} {cT : Nat} {rk rr : Int}
theorem SG.fin (s : SG h p vi vo w v E res g5 g6 g8 g9 c5 c6 n m wx v1 E1 res1 nm P AP cP T AT cT rk rr) : SF h p vi vo w v E res g8 g9 wx v1 E1 res1 ⟨nm, P, T, ⟨rk, [], [], rr⟩⟩ AP cP AT cT none 0 none 0 where
  nx := s.nx
  k8 := s.k8
  k9 := s.k9
  b9 := s.b9
  sv := ⟨s.rp, Kd.R_mono s.rt (fun k hk => hk.1), ⟨Kd.R_nil _ _ _ _ _, Kd.R_nil _ _ _ _ _⟩⟩
  gd := fun e => ⟨(s.gt e).1, .mk (s.gt e).2 (fun y hy => by cases hy)⟩
  n8 := s.n8
theorem SG.finR {y : PSubFits.S25} {A4 : Option Addr} {c4 : Nat} {A5 : Option Addr} {c5' : Nat} (s : SG h p vi vo w v E res g5 g6 g8 g9 c5 c6 n m wx v1 E1 res1 nm P AP cP T AT cT rk rr) (hy : E1 = 0 → GoodT res1.length y) (ty : TV p wx (g9 + 1) v1 y (.slice A4 y.f1.length c4) (.slice A5 y.f2.length c5')) :
    SF h p vi vo w v E res g8 g9 ((((wx.setCell ⟨g9, 3, none⟩ (.int .i64 y.f0)).setCell ⟨g9, 4, none⟩ (.slice A4 y.f1.length c4)).setCell ⟨g9, 5, none⟩ (.slice A5 y.f2.length c5')).setCell ⟨g9, 6, none⟩ (.int .i64 y.f3)) v1 E1 res1 ⟨nm, P, T, y⟩ AP cP AT cT A4 c4 A5 c5' := by
  have k0 := blk_put s.k9 3 (.int .i64 y.f0) rfl
  have k1 := blk_put k0 4 (.slice A4 y.f1.length c4) rfl
  have k2 := blk_put k1 5 (.slice A5 y.f2.length c5') rfl
  have k3 := blk_put k2 6 (.int .i64 y.f3) rfl
  have sv : SV p wx (g9 + 1) v1 ⟨nm, P, T, y⟩ (.slice AP P.length cP) (.slice AT T.length cT) (.slice A4 y.f1.length c4) (.slice A5 y.f2.length c5') := ⟨s.rp, Kd.R_mono s.rt (fun k hk => hk.1), ty⟩
  exact {
    nx := (((s.nx.set s.own 3 _).set (Own.mk' s.b9 k0 (by decide) (by decide)) 4 _).set (Own.mk' s.b9 k1 (by decide) (by decide)) 5 _).set (Own.mk' s.b9 k2 (by decide) (by decide)) 6 _
    k8 := blk_far (blk_far (blk_far (blk_far s.k8 s.n8 _) s.n8 _) s.n8 _) s.n8 _
    k9 := k3
    b9 := s.b9
    sv := (((sv.set s.k9 (by decide) (by decide) 3 _).set k0 (by decide) (by decide) 4 _).set k1 (by decide) (by decide) 5 _).set k2 (by decide) (by decide) 6 _
    gd := fun e => ⟨(s.gt e).1, hy e⟩
    n8 := s.n8 }
variable {x : PSubFits.S27} {A1 : Option Addr} {c1 : Nat} {A2 : Option Addr} {c2 : Nat} {A4 : Option Addr} {c4 : Nat} {A5 : Option Addr} {c5' : Nat}
theorem SF.go (s : SF h p vi vo w v E res g8 g9 wx v1 E1 res1 x A1 c1 A2 c2 A4 c4 A5 c5') (hn : Nx h p vi vo 0 wx v1 E1 res1 w2 v2 E2 res2) : SF h p vi vo w v E res g8 g9 w2 v2 E2 res2 x A1 c1 A2 c2 A4 c4 A5 c5' where
  nx := s.nx.trans hn
  k8 := hn.blk s.k8 (by decide) (by decide)
  k9 := hn.blk s.k9 (by decide) (by decide)
  b9 := s.b9
  sv := s.sv.go hn.go
  gd := fun e => (s.gd (hn.er e)).more hn.le
  n8 := s.n8
theorem SF.below (s : SF h p vi vo w v E res g8 g9 wx v1 E1 res1 x A1 c1 A2 c2 A4 c4 A5 c5') (hb : Below wx.heap.size wx w2) : SF h p vi vo w v E res g8 g9 w2 v1 E1 res1 x A1 c1 A2 c2 A4 c4 A5 c5' := by
  obtain ⟨sz, m⟩ := s.nx.m1
  exact s.go ((Nx.refl m).below hb)
/-- The box is copied to the result's. -/
theorem SF.ret (s : SF h p vi vo w v E res g8 g9 wx v1 E1 res1 x A1 c1 A2 c2 A4 c4 A5 c5') (h8 : w.heap.size ≤ g8) (wf : World)
    (hwf : wf = (((((((wx.setCell ⟨g8, 0, none⟩ (.string x.f0)).setCell ⟨g8, 1, none⟩ (.slice A1 x.f1.length c1)).setCell ⟨g8, 2, none⟩ (.slice A2 x.f2.length c2)).setCell ⟨g8, 3, none⟩ (.int .i64 x.f3.f0)).setCell ⟨g8, 4, none⟩ (.slice A4 x.f3.f1.length c4)).setCell ⟨g8, 5, none⟩ (.slice A5 x.f3.f2.length c5')).setCell ⟨g8, 6, none⟩ (.int .i64 x.f3.f3))) :
    Nx h p vi vo 0 w v E res wf v1 E1 res1 ∧ wf.heap[g8]? = some (.cells (s27C x A1 c1 A2 c2 A4 c4 A5 c5') 27 (0, 0)) ∧ SV p wf w.heap.size v1 x (.slice A1 x.f1.length c1) (.slice A2 x.f2.length c2) (.slice A4 x.f3.f1.length c4) (.slice A5 x.f3.f2.length c5') := by
  subst hwf
  have k0 := blk_put s.k8 0 (.string x.f0) rfl
  have k1 := blk_put k0 1 (.slice A1 x.f1.length c1) rfl
  have k2 := blk_put k1 2 (.slice A2 x.f2.length c2) rfl
  have k3 := blk_put k2 3 (.int .i64 x.f3.f0) rfl
  have k4 := blk_put k3 4 (.slice A4 x.f3.f1.length c4) rfl
  have k5 := blk_put k4 5 (.slice A5 x.f3.f2.length c5') rfl
  have hp := s.nx.put7 (g := g8) (t := 27) (a0 := .string ⟨#[]⟩) (a1 := .slice none 0 0) (a2 := .slice none 0 0) (a3 := .int .i64 0) (a4 := .slice none 0 0) (a5 := .slice none 0 0) (a6 := .int .i64 0) s.k8 (by decide) (by decide) h8 (.string x.f0) (.slice A1 x.f1.length c1) (.slice A2 x.f2.length c2) (.int .i64 x.f3.f0) (.slice A4 x.f3.f1.length c4) (.slice A5 x.f3.f2.length c5') (.int .i64 x.f3.f3)
  exact ⟨hp.1, hp.2.1, ((((((((s.sv.set s.k8 (by decide) (by decide) 0 _).set k0 (by decide) (by decide) 1 _).set k1 (by decide) (by decide) 2 _).set k2 (by decide) (by decide) 3 _).set k3 (by decide) (by decide) 4 _).set k4 (by decide) (by decide) 5 _).set k5 (by decide) (by decide) 6 _)).lower (Nat.le_succ_of_le s.b9)⟩
end
end Go.Proofs.Ytmpmcffhlnlejaa.Mkr
end
