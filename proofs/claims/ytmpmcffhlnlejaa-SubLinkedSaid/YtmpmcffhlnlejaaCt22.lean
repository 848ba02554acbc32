/- A part of the proof of the law that its last file names: texts of this seat's author and of the kit's printer, cut to what the theorem uses. Part 22: Slf6, SubOpen, SubSized. -/
import Derived.Test.YtmpmcffhlnlejaaCt21
section
namespace Go.Proofs.Ytmpmcffhlnlejaa.Slf
open Go.RowKit Go.Proofs.YtmpmcffhlnlejaaW.PrintWords Go.Proofs.YtmpmcffhlnlejaaW.PrintLast Go.Proofs.YtmpmcffhlnlejaaW.PrintMore
open Go.Proofs.Ytmpmcffhlnlejaa.SubEq Go.Proofs.Ytmpmcffhlnlejaa.Mkr
open Go.Proofs.Ytmpmcffhlnlejaa.PSubSelf (S120 k120)
open Go.Proofs.Ytmpmcffhlnlejaa.Wld (SmP)
set_option linter.unusedVariables false
set_option linter.unusedSimpArgs false
theorem el27f {w : World} {A : Option Addr} {l : List PSubFits.S27} (h : Kd.C PSubFits.k27 w A l.length l) {k : Nat} (hk : k < l.length) :
    ∃ ad A1 c1 A2 c2 A4 c4 A5 c5, A = some ad ∧ (∀ w' : World, Below w.heap.size w w' → w'.cell? (ad.add (k * 7)) = some (.string l[k].f0) ∧ w'.cell? ⟨(ad.add (k * 7)).block, (ad.add (k * 7)).off + 1, none⟩ = some (.slice A1 l[k].f1.length c1) ∧ w'.cell? ⟨(ad.add (k * 7)).block, (ad.add (k * 7)).off + 2, none⟩ = some (.slice A2 l[k].f2.length c2) ∧ w'.cell? ⟨(ad.add (k * 7)).block, (ad.add (k * 7)).off + 3, none⟩ = some (.int .i64 l[k].f3.f0) ∧ w'.cell? ⟨(ad.add (k * 7)).block, (ad.add (k * 7)).off + 4, none⟩ = some (.slice A4 l[k].f3.f1.length c4) ∧ w'.cell? ⟨(ad.add (k * 7)).block, (ad.add (k * 7)).off + 5, none⟩ = some (.slice A5 l[k].f3.f2.length c5) ∧ w'.cell? ⟨(ad.add (k * 7)).block, (ad.add (k * 7)).off + 6, none⟩ = some (.int .i64 l[k].f3.f3)) ∧ PSubFits.k25.C w A2 l[k].f2.length l[k].f2 ∧ PSubFits.k25.C w A5 l[k].f3.f2.length l[k].f3.f2 := by
  obtain ⟨ad, A1, c1, A2, c2, A4, c4, A5, c5, hae, x0, x1, x2, x3, x4, x5, x6, l1, g1, l2, g2, l4, g4, l5, g5⟩ := PSubFits.at_T27 h (k : Int) (by omega) (by omega)
  have e : PSubFits.rd_T27 l (k : Int) = l[k] := by simp [PSubFits.rd_T27, List.getD, hk]
  rw [e] at x0 x1 x2 x3 x4 x5 x6 l1 g1 l2 g2 l4 g4 l5 g5
  rw [Int.toNat_natCast] at x0 x1 x2 x3 x4 x5 x6
  exact ⟨ad, A1, c1, A2, c2, A4, c4, A5, c5, hae, fun w' hb => ⟨Wld.cell_keep x0 hb, Wld.cell_keep x1 hb, Wld.cell_keep x2 hb, Wld.cell_keep x3 hb, Wld.cell_keep x4 hb, Wld.cell_keep x5 hb, Wld.cell_keep x6 hb⟩, g2, g5⟩
set_option maxHeartbeats 16000000 in
set_option maxRecDepth 100000 in
theorem law_linked {P : List S120} {A : Option Addr} (c : Nat) {w : World} (hP : k120.C w A P.length P) (hsm : ∀ q ∈ P, SmP q) (hc : P.length ≤ c) (pkg : Int) (name : ByteArray) :
    Calls Try.prog 7 #[.slice A P.length c, .int .i64 pkg, .string name] w fun e w' => e = .returned (.bool true) ∧ Below w.heap.size w w' := by
  have HOF := Aside0.mk (of_any c hP hsm pkg name hc)
  clear hP hsm
  go_enter Try.func7, Try.ntmps7
  go_wp2_with fail
  refine HOF.out.mono ?_
  rintro e w1 ⟨a, A1, c1, A2, c2, A3, c3, ok, rfl, hb, hr, hg⟩
  have HB7 := Aside0.mk (below_alloc hb (.cells #[.slice A1 a.res.length c1, .slice A2 a.ins.length c2, .slice A3 a.outs.length c3] 40))
  have HR7 := Aside0.mk (hr.below (below_alloc (Below.refl _ _) (.cells #[.slice A1 a.res.length c1, .slice A2 a.ins.length c2, .slice A3 a.outs.length c3] 40)))
  have K7 := Aside0.mk (blk_new w1 (.cells #[.slice A1 a.res.length c1, .slice A2 a.ins.length c2, .slice A3 a.outs.length c3] 40))
  have HG := Aside0.mk hg
  clear hb hr hg HOF
  cases ok with
  | false =>
    go_wp2_with fail
    refine (awake_calls _).mono ?_
    rintro e w2 ⟨rfl, hb2⟩
    have HE := Aside0.mk (below_step HB7.out hb2)
    clear hb2
    go_wp2_with fail
    go_ret
    exact ⟨rfl, HE.out⟩
  | true =>
    have GC := Aside0.mk (HG.out rfl)
    clear HG
    have hni : a.ins.length ≤ 200 := GC.out.li
    have hlr : a.res.length ≤ 1000000 := GC.out.lr
    have HRZ : Aside0 (a.res.length * 16 ≤ 140737488351232) := ⟨by omega⟩
    have HSS : Aside0 (∀ s ∈ a.res, s.size ≤ 140737488351232) := ⟨fun s hs => by have := (txt_size8 (GC.out.tx s hs)).2; omega⟩
    have z0 : (w1.alloc (.cells #[.slice A1 a.res.length c1, .slice A2 a.ins.length c2, .slice A3 a.outs.length c3] 40)).cell? ⟨w1.heap.size, 0, none⟩ = some (.slice A1 a.res.length c1) := (blk_cell K7.out 0).trans rfl
    have z1 : (w1.alloc (.cells #[.slice A1 a.res.length c1, .slice A2 a.ins.length c2, .slice A3 a.outs.length c3] 40)).cell? ⟨w1.heap.size, 1, none⟩ = some (.slice A2 a.ins.length c2) := (blk_cell K7.out 1).trans rfl
    have z2 : (w1.alloc (.cells #[.slice A1 a.res.length c1, .slice A2 a.ins.length c2, .slice A3 a.outs.length c3] 40)).cell? ⟨w1.heap.size, 2, none⟩ = some (.slice A3 a.outs.length c3) := (blk_cell K7.out 2).trans rfl
    go_wp2_with fail
    clear z0 z1 z2
    obtain ⟨wl, hwl⟩ : ∃ wl : World, wl = ((w1.alloc (.cells #[.slice A1 a.res.length c1, .slice A2 a.ins.length c2, .slice A3 a.outs.length c3] 40)).alloc (.cells #[.slice none 0 0, .slice none 0 0, .slice A2 a.ins.length c2] 40)) := ⟨_, rfl⟩
    have HBl : Aside0 (Below w.heap.size w wl) := ⟨by rw [hwl]; exact below_alloc HB7.out _⟩
    have HRl : Aside0 (ConR wl w.heap.size a A1 c1 A2 c2 A3 c3) := ⟨by rw [hwl]; exact HR7.out.below (below_alloc (Below.refl _ _) _)⟩
    have K7l : Aside0 (wl.heap[w1.heap.size]? = some (.cells #[.slice A1 a.res.length c1, .slice A2 a.ins.length c2, .slice A3 a.outs.length c3] 40 (0, 0))) := ⟨by rw [hwl]; exact blk_alloc K7.out _⟩
    have K9l : Aside0 (wl.heap[w1.heap.size + 1]? = some (.cells #[.slice none 0 0, .slice none 0 0, .slice A2 a.ins.length c2] 40 (0, 0))) := ⟨by rw [hwl]; have := blk_new (w1.alloc (.cells #[.slice A1 a.res.length c1, .slice A2 a.ins.length c2, .slice A3 a.outs.length c3] 40)) (.cells #[.slice none 0 0, .slice none 0 0, .slice A2 a.ins.length c2] 40); simp only [World.size_alloc] at this; exact this⟩
    have HG9 : Aside0 (w.heap.size ≤ w1.heap.size + 1) := ⟨by have h1 := HB7.out.size; simp only [World.size_alloc] at h1; exact h1⟩
    have HRn := Aside0.mk (ConN.of HRl.out)
    rw [← hwl]
    clear hwl HB7 HR7 K7
    have n79 : w1.heap.size ≠ w1.heap.size + 1 := by omega
    generalize w1.heap.size + 1 = g9 at *
    generalize w1.heap.size = g7 at *
    have n97 := n79.symm
    obtain ⟨N, hNN⟩ : ∃ N : Nat, N = wl.heap.size := ⟨_, rfl⟩
    rw [← hNN] at HRn
    have HNB : Aside0 (w.heap.size ≤ N) := ⟨by rw [hNN]; exact HBl.out.size⟩
    have HNl : Aside0 (N ≤ wl.heap.size) := ⟨Nat.le_of_eq hNN⟩
    clear hNN HRl
    go_loopw [10] (fun v10 wr => ∃ (k : Nat) (R1 : Option Addr) (d1 : Nat), k ≤ a.res.length ∧ v10 = .int .i64 k ∧ Aside0 (Below w.heap.size w wr) ∧ Aside0 (ConN wr w.heap.size N a A1 c1 A2 c2 A3 c3) ∧ Aside0 (wr.heap[g7]? = some (.cells #[.slice A1 a.res.length c1, .slice A2 a.ins.length c2, .slice A3 a.outs.length c3] 40 (0, 0))) ∧ Aside0 (wr.heap[g9]? = some (.cells #[.slice R1 k d1, .slice none 0 0, .slice A2 a.ins.length c2] 40 (0, 0))) ∧ Aside0 (Kd.string.R 9 wr N (fun _ : Nat => True) (.slice R1 k d1) ((a.res.take k).map flipF)) ∧ Aside0 (N ≤ wr.heap.size)) (fun v10 _ => a.res.length - (intOf v10).toNat)
    case atStart => exact ⟨0, none, 0, Nat.zero_le _, rfl, HBl, HRn, K7l, K9l, ⟨Kd.R_nil _ _ _ _ _⟩, HNl⟩
    case round =>
      clear HBl HRn K7l K9l HNl
      obtain ⟨k, R1, d1, hk, rfl, HBr, HRn, K7r, K9r, HRr, HNw⟩ := hrel
      have y0 : wr.cell? ⟨g9, 0, none⟩ = some (.slice R1 k d1) := (blk_cell K9r.out 0).trans rfl
      have p0 : wr.cell? ⟨g7, 0, none⟩ = some (.slice A1 a.res.length c1) := (blk_cell K7r.out 0).trans rfl
      by_cases hlt : k < a.res.length
      · obtain ⟨ad, hae, hx⟩ := str_at HRn.out.toR.toAt.h1 hlt
        have xs0 := hx wr (Below.refl _ _)
        have HT := Aside0.mk (txt_size8 (GC.out.tx _ (List.getElem_mem hlt)))
        have HTK : Aside0 (((a.res.take k).map flipF).length = k) := ⟨by rw [List.length_map, List.length_take]; omega⟩
        have HTE : Aside0 ((a.res.take (k + 1)).map flipF = (a.res.take k).map flipF ++ [flipF a.res[k]]) := ⟨by rw [List.take_succ_eq_append_getElem hlt, List.map_append]; rfl⟩
        have k0 : (0 : Int) ≤ (k : Int) := by omega
        have k1 : (k : Int) < (a.res.length : Int) := by omega
        rw [hae] at p0
        clear hae hx
        generalize a.res[k] = s at *
        generalize hTk : (a.res.take k).map flipF = Tk at *
        clear hTk
        have t8 : (7 : Int) < (s.size : Int) := by have := HT.out; omega
        have t8n : 7 < s.size := by have := HT.out; omega
        have t7 : (7 : Int) ≤ (s.size : Int) := by omega
        have d7 : decide ((7 : Int) < (s.size : Int)) = true := decide_eq_true t8
        have d7n : decide (7 < s.size) = true := decide_eq_true t8n
        have sx : (9223372036854775807 < 7 + (s.extract 7 s.size).size) = False := eq_false (by have := HT.out; rw [ByteArray.size_extract]; omega)
        have sy : (9223372036854775807 < 7 + (s.size - 7)) = False := eq_false (by have := HT.out; omega)
        by_cases hp : (s.extract 0 7).toList = ([105, 109, 112, 111, 114, 116, 32] : List UInt8)
        · have e5 : ((s.extract 0 7).toList == ([105, 109, 112, 111, 114, 116, 32] : List UInt8)) = true := beq_iff_eq.mpr hp
          have e6 : ((s.extract 0 7).toList != ([105, 109, 112, 111, 114, 116, 32] : List UInt8)) = false := bne_eq_false_iff_eq.mpr hp
          have HF : Aside0 (flipF s = (⟨#[101, 120, 112, 111, 114, 116, 32]⟩ : ByteArray) ++ s.extract 7 s.size) := ⟨by unfold flipF; rw [if_pos hp]⟩
          clear hp
          go_wp2_with (at_builtin; refine Kd.R_append Kd.string (w0 := wr) N rfl (.tmp 54) (.tmp 56) 22 9 (.string ⟨#[]⟩) 16 rfl Try.underlying22 Mkr.info9 rfl (by decide) (by decide) (.slice R1 k d1) (Tk) ((⟨#[101, 120, 112, 111, 114, 116, 32]⟩ : ByteArray) ++ s.extract 7 s.size) [.string ((⟨#[101, 120, 112, 111, 114, 116, 32]⟩ : ByteArray) ++ s.extract 7 s.size)] (fun _ : Nat => True) (fun _ => False) rfl rfl rfl (fun _ hf => hf.elim) (fun _ _ => trivial) HRr.out (Below.refl _ _) HNw.out (by rw [HTK.out]; omega) ?_)
          intro v1 w4 r1 r2 r3 r4
          obtain ⟨R2, d2, hv1, _⟩ := Kd.R_reads r1
          replace hv1 : v1 = .slice R2 (k + 1) d2 := by rw [hv1]; simp [HTK.out]
          subst hv1
          have hown := Kd.R_base HRr.out
          have K7g := Aside0.mk (blk_grown K7r.out r3 (Kd.R_ne HRr.out K7r.out (by decide)))
          have K9g := Aside0.mk (blk_grown K9r.out r3 (Kd.R_ne HRr.out K9r.out (by decide)))
          have HBg := Aside0.mk (HBr.out.trans (r2.mono HNB.out))
          have HRg := Aside0.mk r1
          have HRng := Aside0.mk (HRn.out.grown r3 hown)
          have HNg : Aside0 (N ≤ w4.heap.size) := ⟨Nat.le_trans HNw.out r3.size⟩
          have g1 : w4.cell? ⟨g9, 0, none⟩ = some (.slice R1 k d1) := (blk_cell K9g.out 0).trans rfl
          have gf1 : w4.frozen? ⟨g9, 0, none⟩ = false := blk_frozen K9g.out 0
          clear r1 r2 r3 r4 hown y0
          go_wp2_with fail
          go_roundw
          case rel => exact ⟨k + 1, R2, d2, by omega, by go_num, ⟨HBg.out.setCell (p := ⟨g9, 0, none⟩) HG9.out _⟩, ⟨HRng.out.set K9g.out 0 _⟩, ⟨blk_far K7g.out n79 _⟩, ⟨blk_put K9g.out 0 _ rfl⟩, ⟨by rw [HTE.out, HF.out]; exact Kd.R_set HRg.out K9g.out (by decide) 0 _⟩, ⟨by simpa [World.setCell] using HNg.out⟩⟩
          case measure => simp [intOf]; omega
        · have e5 : ((s.extract 0 7).toList == ([105, 109, 112, 111, 114, 116, 32] : List UInt8)) = false := beq_eq_false_iff_ne.mpr hp
          have e6 : ((s.extract 0 7).toList != ([105, 109, 112, 111, 114, 116, 32] : List UInt8)) = true := bne_iff_ne.mpr hp
          have HF : Aside0 (flipF s = (⟨#[105, 109, 112, 111, 114, 116, 32]⟩ : ByteArray) ++ s.extract 7 s.size) := ⟨by unfold flipF; rw [if_neg hp]⟩
          clear hp
          go_wp2_with (at_builtin; refine Kd.R_append Kd.string (w0 := wr) N rfl (.tmp 54) (.tmp 56) 22 9 (.string ⟨#[]⟩) 16 rfl Try.underlying22 Mkr.info9 rfl (by decide) (by decide) (.slice R1 k d1) (Tk) ((⟨#[105, 109, 112, 111, 114, 116, 32]⟩ : ByteArray) ++ s.extract 7 s.size) [.string ((⟨#[105, 109, 112, 111, 114, 116, 32]⟩ : ByteArray) ++ s.extract 7 s.size)] (fun _ : Nat => True) (fun _ => False) rfl rfl rfl (fun _ hf => hf.elim) (fun _ _ => trivial) HRr.out (Below.refl _ _) HNw.out (by rw [HTK.out]; omega) ?_)
          intro v1 w4 r1 r2 r3 r4
          obtain ⟨R2, d2, hv1, _⟩ := Kd.R_reads r1
          replace hv1 : v1 = .slice R2 (k + 1) d2 := by rw [hv1]; simp [HTK.out]
          subst hv1
          have hown := Kd.R_base HRr.out
          have K7g := Aside0.mk (blk_grown K7r.out r3 (Kd.R_ne HRr.out K7r.out (by decide)))
          have K9g := Aside0.mk (blk_grown K9r.out r3 (Kd.R_ne HRr.out K9r.out (by decide)))
          have HBg := Aside0.mk (HBr.out.trans (r2.mono HNB.out))
          have HRg := Aside0.mk r1
          have HRng := Aside0.mk (HRn.out.grown r3 hown)
          have HNg : Aside0 (N ≤ w4.heap.size) := ⟨Nat.le_trans HNw.out r3.size⟩
          have g1 : w4.cell? ⟨g9, 0, none⟩ = some (.slice R1 k d1) := (blk_cell K9g.out 0).trans rfl
          have gf1 : w4.frozen? ⟨g9, 0, none⟩ = false := blk_frozen K9g.out 0
          clear r1 r2 r3 r4 hown y0
          go_wp2_with fail
          go_roundw
          case rel => exact ⟨k + 1, R2, d2, by omega, by go_num, ⟨HBg.out.setCell (p := ⟨g9, 0, none⟩) HG9.out _⟩, ⟨HRng.out.set K9g.out 0 _⟩, ⟨blk_far K7g.out n79 _⟩, ⟨blk_put K9g.out 0 _ rfl⟩, ⟨by rw [HTE.out, HF.out]; exact Kd.R_set HRg.out K9g.out (by decide) 0 _⟩, ⟨by simpa [World.setCell] using HNg.out⟩⟩
          case measure => simp [intOf]; omega
      · obtain rfl : k = a.res.length := by omega
        have HRo : Aside0 (Kd.string.R 9 wr N (fun _ : Nat => True) (.slice R1 a.res.length d1) (a.res.map flipF)) := ⟨by have := HRr.out; rw [List.take_length] at this; exact this⟩
        go_wp2_with fail
        clear y0 p0 HRr
        go_loopw [12] (fun v12 wr => ∃ k : Nat, k ≤ a.ins.length ∧ v12 = .int .i64 k ∧ Aside0 (Below w.heap.size w wr) ∧ Aside0 (ConR wr w.heap.size a A1 c1 A2 c2 A3 c3) ∧ Aside0 (wr.heap[g7]? = some (.cells #[.slice A1 a.res.length c1, .slice A2 a.ins.length c2, .slice A3 a.outs.length c3] 40 (0, 0))) ∧ Aside0 (wr.heap[g9]? = some (.cells #[.slice R1 a.res.length d1, .slice none 0 0, .slice A2 a.ins.length c2] 40 (0, 0))) ∧ Aside0 (Kd.string.R 9 wr N (fun _ : Nat => True) (.slice R1 a.res.length d1) (a.res.map flipF)) ∧ Aside0 (∀ x ∈ a.ins.take k, RS (Imp a.res) x)) (fun v12 _ => a.ins.length - (intOf v12).toNat)
        case atStart => exact ⟨0, Nat.zero_le _, rfl, HBr, ⟨HRn.out.toR⟩, K7r, K9r, HRo, ⟨fun x hx => by simp at hx⟩⟩
        case round =>
          clear HBr HRn K7r K9r HRo
          obtain ⟨k, hk, rfl, HBr, HRc, K7r, K9r, HRo, HA⟩ := hrel
          have p1 : wr.cell? ⟨g7, 1, none⟩ = some (.slice A2 a.ins.length c2) := (blk_cell K7r.out 1).trans rfl
          by_cases hlt : k < a.ins.length
          · obtain ⟨ad, G1, e1, G2, e2, G4, e4, G5, e5, hae, hx, g2, g5⟩ := el27f HRc.out.toAt.h2 hlt
            cases hae
            have HX := Aside0.mk hx
            have HMI := Aside0.mk (fun w' hb hr => mine_any (a := a) GC.out.tx A1 c1 (some ad) c2 A3 c3 a.ins[k] (GC.out.gi _ (List.getElem_mem hlt)) w' G1 e1 G2 e2 G4 e4 G5 e5 (Kd.C_below g2 hb) (Kd.C_below g5 hb) hr)
            have HW := Aside0.mk (fun h => Wld.take_all (P := fun z => RS (Imp a.res) z) HA.out hlt h)
            have k0 : (0 : Int) ≤ (k : Int) := by omega
            have k1 : (k : Int) < (a.ins.length : Int) := by omega
            clear hx g2 g5
            generalize a.ins[k] = x at *
            go_wp2_with fail
            clear p1
            have HBd := Aside0.mk (below_drew1 (Below.refl wr.heap.size wr))
            have K7d : Aside0 (wr.drew.heap[g7]? = some (.cells #[.slice A1 a.res.length c1, .slice (some ad) a.ins.length c2, .slice A3 a.outs.length c3] 40 (0, 0))) := ⟨K7r.out⟩
            have HS : Aside0 (∀ w' : World, w'.heap[g7]? = some (.cells #[.slice A1 a.res.length c1, .slice (some ad) a.ins.length c2, .slice A3 a.outs.length c3] 40 (0, 0)) → Below wr.heap.size wr w' → w'.cell? ⟨g7, 0, none⟩ = some (.slice A1 a.res.length c1) ∧ w'.cell? ⟨g7, 1, none⟩ = some (.slice (some ad) a.ins.length c2) ∧ w'.cell? ⟨g7, 2, none⟩ = some (.slice A3 a.outs.length c3) ∧ w'.cell? (ad.add (k * 7)) = some (.string x.f0) ∧ w'.cell? ⟨(ad.add (k * 7)).block, (ad.add (k * 7)).off + 1, none⟩ = some (.slice G1 x.f1.length e1) ∧ w'.cell? ⟨(ad.add (k * 7)).block, (ad.add (k * 7)).off + 2, none⟩ = some (.slice G2 x.f2.length e2) ∧ w'.cell? ⟨(ad.add (k * 7)).block, (ad.add (k * 7)).off + 3, none⟩ = some (.int .i64 x.f3.f0) ∧ w'.cell? ⟨(ad.add (k * 7)).block, (ad.add (k * 7)).off + 4, none⟩ = some (.slice G4 x.f3.f1.length e4) ∧ w'.cell? ⟨(ad.add (k * 7)).block, (ad.add (k * 7)).off + 5, none⟩ = some (.slice G5 x.f3.f2.length e5) ∧ w'.cell? ⟨(ad.add (k * 7)).block, (ad.add (k * 7)).off + 6, none⟩ = some (.int .i64 x.f3.f3)) :=
              ⟨fun w' h1 h3 => ⟨(blk_cell h1 0).trans rfl, (blk_cell h1 1).trans rfl, (blk_cell h1 2).trans rfl, HX.out w' h3⟩⟩
            go_region_held3 (fun w' => w'.cell? ⟨g7, 0, none⟩ = some (.slice A1 a.res.length c1) ∧ w'.cell? ⟨g7, 1, none⟩ = some (.slice (some ad) a.ins.length c2) ∧ w'.cell? ⟨g7, 2, none⟩ = some (.slice A3 a.outs.length c3) ∧ w'.cell? (ad.add (k * 7)) = some (.string x.f0) ∧ w'.cell? ⟨(ad.add (k * 7)).block, (ad.add (k * 7)).off + 1, none⟩ = some (.slice G1 x.f1.length e1) ∧ w'.cell? ⟨(ad.add (k * 7)).block, (ad.add (k * 7)).off + 2, none⟩ = some (.slice G2 x.f2.length e2) ∧ w'.cell? ⟨(ad.add (k * 7)).block, (ad.add (k * 7)).off + 3, none⟩ = some (.int .i64 x.f3.f0) ∧ w'.cell? ⟨(ad.add (k * 7)).block, (ad.add (k * 7)).off + 4, none⟩ = some (.slice G4 x.f3.f1.length e4) ∧ w'.cell? ⟨(ad.add (k * 7)).block, (ad.add (k * 7)).off + 5, none⟩ = some (.slice G5 x.f3.f2.length e5) ∧ w'.cell? ⟨(ad.add (k * 7)).block, (ad.add (k * 7)).off + 6, none⟩ = some (.int .i64 x.f3.f3))
              (first
                | with_reducible exact HS.out _ K7d.out HBd.out
                | with_reducible exact HS.out _ K7e.out HBe.out
                | fail)
              ((go_at_call 25; refine (HMI.out _ HBd.out (HRc.out.below HBd.out).toAt.h1).mono ?_; rintro e w3 ⟨⟨b, rfl, hbt⟩, hb⟩; have HBe := Aside0.mk (below_step HBd.out hb); have K7e := Aside0.mk (blk_below K7d.out hb); have HBT := Aside0.mk hbt; clear hb hbt))
            cases b with
            | false =>
              have HBX := Aside0.mk (below_step HBr.out HBe.out)
              go_wp2_with fail
              refine (awake_calls _).mono ?_
              rintro e w9 ⟨rfl, hb9⟩
              have HE := Aside0.mk (below_step HBX.out hb9)
              clear hb9
              go_wp2_with fail
              go_ret
              exact ⟨rfl, HE.out⟩
            | true =>
              go_wp2_with fail
              go_roundw
              case rel => exact ⟨k + 1, by omega, by go_num, ⟨below_step HBr.out HBe.out⟩, ⟨HRc.out.below HBe.out⟩, K7e, ⟨blk_below K9r.out HBe.out⟩, ⟨Kd.R_below HRo.out HBe.out⟩, ⟨HW.out (HBT.out rfl)⟩⟩
              case measure => simp [intOf]; omega
          · obtain rfl : k = a.ins.length := by omega
            have HAL := Aside0.mk (fun x hx => HA.out x (by rw [List.take_length]; exact hx))
            have hFl : (a.res.map flipF).length = a.res.length := List.length_map _
            have HCO := Aside0.mk (ConR.toAt (a := ⟨a.res.map flipF, [], a.ins⟩) ⟨by have := Kd.R_lower HRo.out HNB.out; rw [← hFl] at this; exact this, Kd.R_nil _ _ _ _ _, HRc.out.r2⟩)
            have HL1 : Aside0 (∀ w', Below wr.heap.size wr w' → Calls Try.prog 26 #[.agg #[.slice A1 a.res.length c1, .slice A2 a.ins.length c2, .slice A3 a.outs.length c3], .agg #[.slice R1 a.res.length d1, .slice none 0 0, .slice A2 a.ins.length c2]] w' fun e w'' => e = .returned (.int .i64 0) ∧ Below w'.heap.size w' w'') := ⟨fun w' hb => by
              have h := links_calls a ⟨a.res.map flipF, [], a.ins⟩ w' A1 c1 A2 c2 A3 c3 R1 d1 none 0 A2 c2 (HRc.out.toAt.below hb) (HCO.out.below hb) HRZ.out HSS.out
              rw [links_all GC.out HAL.out] at h
              dsimp only at h
              rw [hFl] at h
              exact h⟩
            obtain ⟨AL, hAL⟩ : ∃ AL : Option Addr, AL = (if c2 = 1 then A2 else Option.map (fun x => x.add (1 * 7)) A2) := ⟨_, rfl⟩
            have HALX := Aside0.mk hAL
            have HL2 : Aside0 (a.ins.length ≠ 0 → ∀ w', Below wr.heap.size wr w' → Calls Try.prog 26 #[.agg #[.slice A1 a.res.length c1, .slice AL (a.ins.length - 1) (c2 - 1), .slice A3 a.outs.length c3], .agg #[.slice R1 a.res.length d1, .slice none 0 0, .slice A2 a.ins.length c2]] w' fun e w'' => e = .returned (.int .i64 0) ∧ Below w'.heap.size w' w'') := ⟨fun h0 w' hb => by
              have hat : ConAt wr ⟨a.res, a.ins.drop 1, a.outs⟩ A1 c1 AL (c2 - 1) A3 c3 := ⟨HRc.out.toAt.h1, HRc.out.toAt.l1, by rw [hAL]; exact Kd.C_drop HRc.out.toAt.h2 (by omega) HRc.out.toAt.l2, by have := HRc.out.toAt.l2; rw [List.length_drop]; omega, HRc.out.toAt.h3, HRc.out.toAt.l3⟩
              have h := links_calls ⟨a.res, a.ins.drop 1, a.outs⟩ ⟨a.res.map flipF, [], a.ins⟩ w' A1 c1 AL (c2 - 1) A3 c3 R1 d1 none 0 A2 c2 (hat.below hb) (HCO.out.below hb) HRZ.out HSS.out
              rw [links_less GC.out HAL.out] at h
              dsimp only at h
              rw [hFl, List.length_drop] at h
              exact h⟩
            clear hAL
            have HL3 : Aside0 (a.ins.length ≠ 0 → ∀ w', Below wr.heap.size wr w' → Calls Try.prog 26 #[.agg #[.slice A1 a.res.length c1, .slice A2 a.ins.length c2, .slice A3 a.outs.length c3], .agg #[.slice R1 a.res.length d1, .slice none 0 0, .slice none 0 0]] w' fun e w'' => e = .returned (.int .i64 11) ∧ Below w'.heap.size w' w'') := ⟨fun h0 w' hb => by
              have hat : ConAt wr ⟨a.res.map flipF, [], []⟩ R1 d1 none 0 none 0 := ⟨HCO.out.h1, HCO.out.l1, C_nil _ _, Nat.le_refl _, C_nil _ _, Nat.le_refl _⟩
              have h := links_calls a ⟨a.res.map flipF, [], []⟩ w' A1 c1 A2 c2 A3 c3 R1 d1 none 0 none 0 (HRc.out.toAt.below hb) (hat.below hb) HRZ.out HSS.out
              rw [links_none h0] at h
              dsimp only at h
              rw [hFl] at h
              exact h⟩
            clear hFl
            have z0 : wr.cell? ⟨g7, 0, none⟩ = some (.slice A1 a.res.length c1) := (blk_cell K7r.out 0).trans rfl
            have z1 : wr.cell? ⟨g7, 1, none⟩ = some (.slice A2 a.ins.length c2) := (blk_cell K7r.out 1).trans rfl
            have z2 : wr.cell? ⟨g7, 2, none⟩ = some (.slice A3 a.outs.length c3) := (blk_cell K7r.out 2).trans rfl
            have o0 : wr.cell? ⟨g9, 0, none⟩ = some (.slice R1 a.res.length d1) := (blk_cell K9r.out 0).trans rfl
            have o1 : wr.cell? ⟨g9, 1, none⟩ = some (.slice none 0 0) := (blk_cell K9r.out 1).trans rfl
            have o2 : wr.cell? ⟨g9, 2, none⟩ = some (.slice A2 a.ins.length c2) := (blk_cell K9r.out 2).trans rfl
            go_wp2_with fail
            clear z0 z1 z2 o0 o1 o2
            refine (HL1.out _ (Below.refl _ _)).mono ?_
            rintro e w5 ⟨rfl, hb5⟩
            have HB5 := Aside0.mk (below_alloc hb5 (.cells #[.slice A1 a.res.length c1, .slice A2 a.ins.length c2, .slice A3 a.outs.length c3] 40))
            have HBw5 := Aside0.mk (below_alloc (below_step HBr.out hb5) (.cells #[.slice A1 a.res.length c1, .slice A2 a.ins.length c2, .slice A3 a.outs.length c3] 40))
            have K75 := Aside0.mk (blk_alloc (blk_below K7r.out hb5) (.cells #[.slice A1 a.res.length c1, .slice A2 a.ins.length c2, .slice A3 a.outs.length c3] 40))
            have K95 := Aside0.mk (blk_alloc (blk_below K9r.out hb5) (.cells #[.slice A1 a.res.length c1, .slice A2 a.ins.length c2, .slice A3 a.outs.length c3] 40))
            have K135 := Aside0.mk (blk_new w5 (.cells #[.slice A1 a.res.length c1, .slice A2 a.ins.length c2, .slice A3 a.outs.length c3] 40))
            have n713 : g7 ≠ w5.heap.size := by have := blk_lt (blk_below K7r.out hb5); omega
            have n913 : g9 ≠ w5.heap.size := by have := blk_lt (blk_below K9r.out hb5); omega
            have n137 := n713.symm
            have n139 := n913.symm
            have HG13 : Aside0 (w.heap.size ≤ w5.heap.size) := ⟨(below_step HBr.out hb5).size⟩
            have zz : w5.cell? ⟨g7, 0, none⟩ = some (.slice A1 a.res.length c1) := (blk_cell (blk_below K7r.out hb5) 0).trans rfl
            have zz1 : w5.cell? ⟨g7, 1, none⟩ = some (.slice A2 a.ins.length c2) := (blk_cell (blk_below K7r.out hb5) 1).trans rfl
            have zz2 : w5.cell? ⟨g7, 2, none⟩ = some (.slice A3 a.outs.length c3) := (blk_cell (blk_below K7r.out hb5) 2).trans rfl
            have z0 : (w5.alloc (.cells #[.slice A1 a.res.length c1, .slice A2 a.ins.length c2, .slice A3 a.outs.length c3] 40)).cell? ⟨g7, 0, none⟩ = some (.slice A1 a.res.length c1) := (blk_cell K75.out 0).trans rfl
            have z1 : (w5.alloc (.cells #[.slice A1 a.res.length c1, .slice A2 a.ins.length c2, .slice A3 a.outs.length c3] 40)).cell? ⟨g7, 1, none⟩ = some (.slice A2 a.ins.length c2) := (blk_cell K75.out 1).trans rfl
            have z2 : (w5.alloc (.cells #[.slice A1 a.res.length c1, .slice A2 a.ins.length c2, .slice A3 a.outs.length c3] 40)).cell? ⟨g7, 2, none⟩ = some (.slice A3 a.outs.length c3) := (blk_cell K75.out 2).trans rfl
            have o0 : (w5.alloc (.cells #[.slice A1 a.res.length c1, .slice A2 a.ins.length c2, .slice A3 a.outs.length c3] 40)).cell? ⟨g9, 0, none⟩ = some (.slice R1 a.res.length d1) := (blk_cell K95.out 0).trans rfl
            have o1 : (w5.alloc (.cells #[.slice A1 a.res.length c1, .slice A2 a.ins.length c2, .slice A3 a.outs.length c3] 40)).cell? ⟨g9, 1, none⟩ = some (.slice none 0 0) := (blk_cell K95.out 1).trans rfl
            have o2 : (w5.alloc (.cells #[.slice A1 a.res.length c1, .slice A2 a.ins.length c2, .slice A3 a.outs.length c3] 40)).cell? ⟨g9, 2, none⟩ = some (.slice A2 a.ins.length c2) := (blk_cell K95.out 2).trans rfl
            have l0 : (w5.alloc (.cells #[.slice A1 a.res.length c1, .slice A2 a.ins.length c2, .slice A3 a.outs.length c3] 40)).cell? ⟨w5.heap.size, 0, none⟩ = some (.slice A1 a.res.length c1) := (blk_cell K135.out 0).trans rfl
            have l1 : (w5.alloc (.cells #[.slice A1 a.res.length c1, .slice A2 a.ins.length c2, .slice A3 a.outs.length c3] 40)).cell? ⟨w5.heap.size, 1, none⟩ = some (.slice A2 a.ins.length c2) := (blk_cell K135.out 1).trans rfl
            have l2 : (w5.alloc (.cells #[.slice A1 a.res.length c1, .slice A2 a.ins.length c2, .slice A3 a.outs.length c3] 40)).cell? ⟨w5.heap.size, 2, none⟩ = some (.slice A3 a.outs.length c3) := (blk_cell K135.out 2).trans rfl
            have lf0 : (w5.alloc (.cells #[.slice A1 a.res.length c1, .slice A2 a.ins.length c2, .slice A3 a.outs.length c3] 40)).frozen? ⟨w5.heap.size, 0, none⟩ = false := blk_frozen K135.out 0
            have lf1 : (w5.alloc (.cells #[.slice A1 a.res.length c1, .slice A2 a.ins.length c2, .slice A3 a.outs.length c3] 40)).frozen? ⟨w5.heap.size, 1, none⟩ = false := blk_frozen K135.out 1
            have lf2 : (w5.alloc (.cells #[.slice A1 a.res.length c1, .slice A2 a.ins.length c2, .slice A3 a.outs.length c3] 40)).frozen? ⟨w5.heap.size, 2, none⟩ = false := blk_frozen K135.out 2
            by_cases h0 : a.ins.length = 0
            · have e1 : decide ((0 : Int) < (a.ins.length : Int)) = false := decide_eq_false (by omega)
              have e1n : decide (0 < a.ins.length) = false := decide_eq_false (by omega)
              have e2 : decide ((a.ins.length : Int) = 0) = true := decide_eq_true (by omega)
              have e3 : ((a.ins.length : Int) == 0) = true := beq_iff_eq.mpr (by omega)
              have e3n : (a.ins.length == 0) = true := beq_iff_eq.mpr h0
              have e2n : decide (a.ins.length = 0) = true := decide_eq_true h0
              clear h0
              go_wp2_with fail
              clear zz zz1 zz2 z0 z1 z2 o0 o1 o2 l0 l1 l2 lf0 lf1 lf2
              refine (HL1.out _ HB5.out).mono ?_
              rintro e w6 ⟨rfl, hb6⟩
              have K76 := Aside0.mk (blk_below K75.out hb6)
              have HBX := Aside0.mk (below_step HBw5.out hb6)
              have z0 : w6.cell? ⟨g7, 0, none⟩ = some (.slice A1 a.res.length c1) := (blk_cell K76.out 0).trans rfl
              have z1 : w6.cell? ⟨g7, 1, none⟩ = some (.slice A2 a.ins.length c2) := (blk_cell K76.out 1).trans rfl
              have z2 : w6.cell? ⟨g7, 2, none⟩ = some (.slice A3 a.outs.length c3) := (blk_cell K76.out 2).trans rfl
              clear hb6
              go_wp2_with fail
              refine (awake_calls _).mono ?_
              rintro e w9 ⟨rfl, hb9⟩
              have HE := Aside0.mk (below_step HBX.out hb9)
              clear hb9
              go_wp2_with fail
              go_ret
              exact ⟨rfl, HE.out⟩
            · have e1 : decide ((0 : Int) < (a.ins.length : Int)) = true := decide_eq_true (by omega)
              have e1n : decide (0 < a.ins.length) = true := decide_eq_true (by omega)
              have e2 : decide ((a.ins.length : Int) = 0) = false := decide_eq_false (by omega)
              have e3 : ((a.ins.length : Int) == 0) = false := beq_eq_false_iff_ne.mpr (by omega)
              have e3n : (a.ins.length == 0) = false := beq_eq_false_iff_ne.mpr h0
              have e2n : decide (a.ins.length = 0) = false := decide_eq_false h0
              have H0 := Aside0.mk h0
              have hl1 : (1 : Int) ≤ (a.ins.length : Int) := by omega
              have hlc : (a.ins.length : Int) ≤ (c2 : Int) := by have := HRc.out.toAt.l2; omega
              have hlc1 : (1 : Int) ≤ (c2 : Int) := by omega
              clear h0
              go_upto_region 23 with fail
              have hAL2 : (if c2 = 1 then A2 else Option.map (fun x : Addr => (⟨x.block, x.off + 7, none⟩ : Addr)) A2) = AL := by
                rw [HALX.out]
                split
                · rfl
                · cases A2 <;> rfl
              rw [hAL2]
              clear hAL2 e1 e1n hl1 hlc hlc1 zz zz1 zz2 z0 z1 z2 o0 o1 o2 l0 l1 l2 lf0 lf1 lf2
              have HB6 := Aside0.mk (below_alloc hb5 (.cells #[.slice A1 a.res.length c1, .slice AL (a.ins.length - 1) (c2 - 1), .slice A3 a.outs.length c3] 40))
              have HBw6 := Aside0.mk (below_alloc (below_step HBr.out hb5) (.cells #[.slice A1 a.res.length c1, .slice AL (a.ins.length - 1) (c2 - 1), .slice A3 a.outs.length c3] 40))
              have K76 := Aside0.mk (blk_alloc (blk_below K7r.out hb5) (.cells #[.slice A1 a.res.length c1, .slice AL (a.ins.length - 1) (c2 - 1), .slice A3 a.outs.length c3] 40))
              have K96 := Aside0.mk (blk_alloc (blk_below K9r.out hb5) (.cells #[.slice A1 a.res.length c1, .slice AL (a.ins.length - 1) (c2 - 1), .slice A3 a.outs.length c3] 40))
              have K136 := Aside0.mk (blk_new w5 (.cells #[.slice A1 a.res.length c1, .slice AL (a.ins.length - 1) (c2 - 1), .slice A3 a.outs.length c3] 40))
              obtain ⟨w6, hw6⟩ : ∃ w6 : World, w6 = w5.alloc (.cells #[.slice A1 a.res.length c1, .slice AL (a.ins.length - 1) (c2 - 1), .slice A3 a.outs.length c3] 40) := ⟨_, rfl⟩
              rw [← hw6] at HB6 HBw6 K76 K96 K136 ⊢
              clear hw6 HB5 HBw5 K75 K95 K135
              have z0 : w6.cell? ⟨g7, 0, none⟩ = some (.slice A1 a.res.length c1) := (blk_cell K76.out 0).trans rfl
              have z1 : w6.cell? ⟨g7, 1, none⟩ = some (.slice A2 a.ins.length c2) := (blk_cell K76.out 1).trans rfl
              have z2 : w6.cell? ⟨g7, 2, none⟩ = some (.slice A3 a.outs.length c3) := (blk_cell K76.out 2).trans rfl
              have o0 : w6.cell? ⟨g9, 0, none⟩ = some (.slice R1 a.res.length d1) := (blk_cell K96.out 0).trans rfl
              have o1 : w6.cell? ⟨g9, 1, none⟩ = some (.slice none 0 0) := (blk_cell K96.out 1).trans rfl
              have o2 : w6.cell? ⟨g9, 2, none⟩ = some (.slice A2 a.ins.length c2) := (blk_cell K96.out 2).trans rfl
              have l0 : w6.cell? ⟨w5.heap.size, 0, none⟩ = some (.slice A1 a.res.length c1) := (blk_cell K136.out 0).trans rfl
              have l1 : w6.cell? ⟨w5.heap.size, 1, none⟩ = some (.slice AL (a.ins.length - 1) (c2 - 1)) := (blk_cell K136.out 1).trans rfl
              have l2 : w6.cell? ⟨w5.heap.size, 2, none⟩ = some (.slice A3 a.outs.length c3) := (blk_cell K136.out 2).trans rfl
              go_wp2_with fail
              clear z0 z1 z2 o0 o1 o2 l0 l1 l2
              refine (HL2.out H0.out _ HB6.out).mono ?_
              rintro e w7 ⟨rfl, hb7⟩
              have HB7 := Aside0.mk (below_step HB6.out hb7)
              have HBw7 := Aside0.mk (below_step HBw6.out hb7)
              have K77 := Aside0.mk (blk_below K76.out hb7)
              have K97 := Aside0.mk (blk_below K96.out hb7)
              clear hb7
              have z0 : w7.cell? ⟨g7, 0, none⟩ = some (.slice A1 a.res.length c1) := (blk_cell K77.out 0).trans rfl
              have z1 : w7.cell? ⟨g7, 1, none⟩ = some (.slice A2 a.ins.length c2) := (blk_cell K77.out 1).trans rfl
              have z2 : w7.cell? ⟨g7, 2, none⟩ = some (.slice A3 a.outs.length c3) := (blk_cell K77.out 2).trans rfl
              have o0 : w7.cell? ⟨g9, 0, none⟩ = some (.slice R1 a.res.length d1) := (blk_cell K97.out 0).trans rfl
              have o1 : w7.cell? ⟨g9, 1, none⟩ = some (.slice none 0 0) := (blk_cell K97.out 1).trans rfl
              have o2 : w7.cell? ⟨g9, 2, none⟩ = some (.slice A2 a.ins.length c2) := (blk_cell K97.out 2).trans rfl
              go_wp2_with fail
              clear z0 z1 z2 o0 o1 o2
              refine (HL3.out H0.out _ HB7.out).mono ?_
              rintro e w8 ⟨rfl, hb8⟩
              have HBX := Aside0.mk (below_step HBw7.out hb8)
              clear hb8
              go_wp2_with fail
              refine (awake_calls _).mono ?_
              rintro e w9 ⟨rfl, hb9⟩
              have HE := Aside0.mk (below_step HBX.out hb9)
              clear hb9
              go_wp2_with fail
              go_ret
              exact ⟨rfl, HE.out⟩
end Go.Proofs.Ytmpmcffhlnlejaa.Slf
end
section
namespace Go.Proofs.Ytmpmcffhlnlejaa.SubEq
open Go.RowKit Go.Proofs.YtmpmcffhlnlejaaW.PrintWords Go.Proofs.YtmpmcffhlnlejaaW.PrintLast Go.Proofs.YtmpmcffhlnlejaaW.PrintMore
open Go.Proofs.Ytmpmcffhlnlejaa.PSubFits
open Go.ChangeShapes Go.WideShapes
set_option linter.unusedVariables false
set_option linter.unusedSimpArgs false
set_option maxRecDepth 100000
theorem cells3 : Try.prog.cellsOf 3 = 1 := by kernel_rfl
theorem cells9 : Try.prog.cellsOf 9 = 1 := by kernel_rfl
theorem cells25 : Try.prog.cellsOf 25 = 4 := by kernel_rfl
section
variable {H : Type} {enc : TypeId × Value → H} {w : World} {base : Nat} {spare : Nat → Bool} {held : Bool}
theorem choose_list {α : Type} {p : Nat → α → Prop} : ∀ (n : Nat), (∀ i, i < n → ∃ x, p i x) → ∃ xs : List α, xs.length = n ∧ ∀ j x, xs[j]? = some x → p j x
  | 0, _ => ⟨[], rfl, fun j x h => by simp at h⟩
  | n + 1, h => by
    obtain ⟨xs, hl, hx⟩ := choose_list n (fun i hi => h i (by omega))
    obtain ⟨y, hy⟩ := h n (by omega)
    refine ⟨xs ++ [y], by simp [hl], fun j x hj => ?_⟩
    rcases Nat.lt_or_ge j xs.length with hlt | hge
    · rw [List.getElem?_append_left hlt] at hj
      exact hx j x hj
    · have hj' : j = xs.length := by
        have := (List.getElem?_eq_some_iff.1 hj).1
        simp at this
        omega
      subst hj'
      have e : y = x := by simpa using hj
      rw [← e, hl]
      exact hy
/-- A slice, opened by what its elements open to. -/
theorem open_C {α : Type} {d : Kd α} {t e : TypeId} {fuel : Nat} {cs : List Value} {x : DataW H × List MemPlace} (ht : Try.prog.underlying t = some (.slice e)) (hsz : Try.prog.cellsOf e = d.sz)
    (hel : ∀ n, n < fuel → ∀ (cs : List Value) (y : DataW H × List MemPlace), DataW.trod enc Try.prog w base spare held n e cs = some y → ∃ v : α, d.K w v cs)
    (h : DataW.trod enc Try.prog w base spare held fuel t cs = some x) : ∃ (A : Option Addr) (xs : List α) (c : Nat), cs = [.slice A xs.length c] ∧ xs.length ≤ c ∧ d.C w A xs.length xs := by
  rcases DataW.trod_slice ht h with ⟨rfl, _⟩ | ⟨a, len, cap, elems, rest, n, rfl, rfl, _, _, hlc, hcm, hle, hall, _, _⟩
  · exact ⟨none, [], 0, rfl, Nat.le_refl _, ⟨rfl, by simp, fun h => absurd h (by simp)⟩⟩
  · have hone : ∀ i, i < len → ∃ v : α, ∃ c : List Value, c.length = d.sz ∧ d.K w v c ∧ ∀ j u, c[j]? = some u → w.cell? (a.add (i * d.sz + j)) = some u := by
      intro i hi
      have h1 := hall i hi
      rw [List.getElem?_eq_getElem (by omega)] at h1
      obtain ⟨c, hc, hc2⟩ := Option.bind_eq_some_iff.1 h1
      obtain ⟨v, hv⟩ := hel n (by omega) c _ hc2
      obtain ⟨_, hl, hcell⟩ := World.cells?_some hc
      rw [hsz] at hl hcell
      refine ⟨v, c, hl, hv, fun j u hu => ?_⟩
      have hj : j < d.sz := by
        have := (List.getElem?_eq_some_iff.1 hu).1
        omega
      have := hcell j hj
      rw [add_add] at this
      exact this.trans hu
    obtain ⟨xs, hl, hx⟩ := choose_list len hone
    subst hl
    refine ⟨some a, xs, cap, rfl, hlc, rfl, by simp only [maxLen] at hcm; omega, fun _ => ⟨a, rfl, fun j p hj => ?_⟩⟩
    exact hx j p hj
where
  add_add (a : Addr) (i j : Nat) : (a.add i).add j = a.add (i + j) := by
    unfold Addr.add
    by_cases hi : i = 0 <;> by_cases hj : j = 0 <;> simp [hi, hj, Nat.add_assoc]
theorem open_str {n : Nat} {cs : List Value} {y : DataW H × List MemPlace} (h : DataW.trod enc Try.prog w base spare held n 9 cs = some y) : ∃ v : ByteArray, Kd.string.K w v cs := by
  obtain ⟨s, rfl, _, _⟩ := DataW.trod_string Try.underlying9 h
  exact ⟨s, rfl⟩
end
end Go.Proofs.Ytmpmcffhlnlejaa.SubEq
end
section
namespace Go.Proofs.Ytmpmcffhlnlejaa.SubEq
open Go.RowKit Go.Proofs.YtmpmcffhlnlejaaW.PrintWords Go.Proofs.YtmpmcffhlnlejaaW.PrintLast Go.Proofs.YtmpmcffhlnlejaaW.PrintMore
open Go.Proofs.Ytmpmcffhlnlejaa.PSubFits
open Go.ChangeShapes Go.WideShapes
set_option linter.unusedVariables false
set_option linter.unusedSimpArgs false
set_option maxRecDepth 100000
section
variable {H : Type} {enc : TypeId × Value → H} {w : World} {base : Nat} {spare : Nat → Bool} {held : Bool}
/-- All that is within is within the reach. -/
def Within (t : TypeId) (d : DataW H) : Prop := ∀ n ∈ d.weights Try.prog t, n ≤ 140737488351232
theorem weights_all_mem {e : TypeId} : ∀ {l : List (DataW H)} {d : DataW H}, d ∈ l → ∀ n ∈ d.weights Try.prog e, n ∈ DataW.weightsAll Try.prog e l
  | a :: l, d, h, n, hn => by
    simp only [DataW.weightsAll, List.mem_append]
    rcases List.mem_cons.1 h with rfl | h
    · exact .inl hn
    · exact .inr (weights_all_mem h n hn)
theorem within_elem {t e : TypeId} (ht : Try.prog.underlying t = some (.slice e)) {elems spare' : List (DataW H)} (h : Within t (.slice elems spare')) : (∀ d ∈ elems, Within e d) ∧ elems.length * Try.prog.bytesOf e ≤ 140737488351232 := by
  unfold Within at h
  simp only [DataW.weights, ht] at h
  refine ⟨fun d hd n hn => h n ?_, ?_⟩
  · simp only [List.mem_cons, List.mem_append]
    exact .inr (.inl (weights_all_mem hd n hn))
  · have h1 := h ((elems.length + spare'.length) * Try.prog.bytesOf e) List.mem_cons_self
    exact Nat.le_trans (Nat.mul_le_mul_right _ (Nat.le_add_right _ _)) h1
theorem within_field {t : TypeId} {fs : Array Field} (ht : Try.prog.underlying t = some (.struct fs)) {parts : List (DataW H)} (h : Within t (.agg parts)) {i : Nat} {f : Field} {d : DataW H} (hf : fs[i]? = some f) (hd : parts[i]? = some d) : Within f.type d := by
  intro n hn
  refine h n ?_
  simp only [DataW.weights, ht]
  refine DataW.weights_mem_each (j := i) (t := f.type) (d := d) ?_ hd n hn
  simp [hf]
theorem open_CW {α : Type} {d : Kd α} {p : α → Prop} {t e : TypeId} {fuel : Nat} {cs : List Value} {x : DataW H × List MemPlace} (ht : Try.prog.underlying t = some (.slice e)) (hsz : Try.prog.cellsOf e = d.sz)
    (hel : ∀ n, n < fuel → ∀ (cs : List Value) (y : DataW H × List MemPlace), DataW.trod enc Try.prog w base spare held n e cs = some y → Within e y.1 → ∃ v : α, d.K w v cs ∧ p v)
    (h : DataW.trod enc Try.prog w base spare held fuel t cs = some x) (hw : Within t x.1) :
    ∃ (A : Option Addr) (xs : List α) (c : Nat), cs = [.slice A xs.length c] ∧ xs.length ≤ c ∧ d.C w A xs.length xs ∧ (∀ v ∈ xs, p v) ∧ xs.length * Try.prog.bytesOf e ≤ 140737488351232 := by
  rcases DataW.trod_slice ht h with ⟨rfl, _⟩ | ⟨a, len, cap, elems, rest, n, rfl, rfl, rfl, _, hlc, hcm, hle, hall, _, _⟩
  · exact ⟨none, [], 0, rfl, Nat.le_refl _, ⟨rfl, by simp, fun h => absurd h (by simp)⟩, fun v hv => by simp at hv, by simp⟩
  · obtain ⟨hwe, hwl⟩ := within_elem ht hw
    have hone : ∀ i, i < len → ∃ v : α, p v ∧ ∃ c : List Value, c.length = d.sz ∧ d.K w v c ∧ ∀ j u, c[j]? = some u → w.cell? (a.add (i * d.sz + j)) = some u := by
      intro i hi
      have h1 := hall i hi
      rw [List.getElem?_eq_getElem (by omega)] at h1
      obtain ⟨c, hc, hc2⟩ := Option.bind_eq_some_iff.1 h1
      obtain ⟨v, hv, hp⟩ := hel n (by omega) c _ hc2 (hwe _ (List.mem_map_of_mem (List.getElem_mem _)))
      obtain ⟨_, hl, hcell⟩ := World.cells?_some hc
      rw [hsz] at hl hcell
      refine ⟨v, hp, c, hl, hv, fun j u hu => ?_⟩
      have hj : j < d.sz := by
        have := (List.getElem?_eq_some_iff.1 hu).1
        omega
      have := hcell j hj
      rw [open_C.add_add] at this
      exact this.trans hu
    obtain ⟨xs, hl, hx⟩ := choose_list len hone
    subst hl
    refine ⟨some a, xs, cap, rfl, hlc, ⟨rfl, by simp only [maxLen] at hcm; omega, fun _ => ⟨a, rfl, fun j q hj => (hx j q hj).2⟩⟩, fun v hv => ?_, ?_⟩
    · obtain ⟨i, hi, rfl⟩ := List.mem_iff_getElem.1 hv
      exact (hx i _ (List.getElem?_eq_getElem hi)).1
    · have e : (elems.map (·.1)).length = xs.length := by simp [hle]
      rw [e] at hwl
      exact hwl
theorem open_strW {n : Nat} {cs : List Value} {y : DataW H × List MemPlace} (h : DataW.trod enc Try.prog w base spare held n 9 cs = some y) (hw : Within 9 y.1) : ∃ v : ByteArray, Kd.string.K w v cs ∧ v.size ≤ 140737488351232 := by
  obtain ⟨s, rfl, hy, _⟩ := DataW.trod_string Try.underlying9 h
  refine ⟨s, rfl, ?_⟩
  rw [hy] at hw
  have h2 : s.data.toList.length ≤ 140737488351232 := hw s.data.toList.length (by simp only [DataW.weights]; exact List.mem_singleton_self _)
  rw [Array.length_toList] at h2
  exact h2
theorem bytes9 : Try.prog.bytesOf 9 = 16 := by kernel_rfl
theorem within_of {ts : List TypeId} {ds : List (DataW H)} (h : (DataW.weightsEach Try.prog ts ds).all (· ≤ reachBytes) = true) {j : Nat} {t : TypeId} {d : DataW H} (ht : ts[j]? = some t) (hd : ds[j]? = some d) : Within t d := by
  intro n hn
  exact of_decide_eq_true (List.all_eq_true.1 h n (DataW.weights_mem_each ht hd n hn))
end
end Go.Proofs.Ytmpmcffhlnlejaa.SubEq
end
