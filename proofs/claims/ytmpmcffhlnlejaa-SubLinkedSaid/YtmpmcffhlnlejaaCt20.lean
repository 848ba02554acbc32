/- A part of the proof of the law that its last file names: texts of this seat's author and of the kit's printer, cut to what the theorem uses. Part 20: Mk13, Slf2. -/
import Derived.Test.YtmpmcffhlnlejaaCt19
import Derived.BigQuiet
import Derived.Deep.DeepCutAuto
import Derived.Deep.RegionLaw
import Derived.Deep.RegionHeld3
import Derived.ProofKit
import Derived.ChangeArms
import Derived.SizedLaws
section
namespace Go.Proofs.Ytmpmcffhlnlejaa.Mkr
open Go.RowKit Go.Proofs.YtmpmcffhlnlejaaW.PrintWords Go.Proofs.YtmpmcffhlnlejaaW.PrintLast Go.Proofs.YtmpmcffhlnlejaaW.PrintMore
open Go.Proofs.Ytmpmcffhlnlejaa.PSubSelf Go.Proofs.Ytmpmcffhlnlejaa.Wld
set_option linter.unusedVariables false
set_option linter.unusedSimpArgs false
set_option maxHeartbeats 16000000 in
set_option maxRecDepth 100000 in
theorem world_any {P : List S120} {A : Option Addr} (c : Nat) {w : World} (hP : k120.C w A P.length P) (hsm : ∀ q ∈ P, SmP q) (n5 : P.length ≤ 5) (pkg : Int) (name : ByteArray) :
    Calls Try.prog 54 #[.slice A P.length c, .int .i64 pkg, .string name] w (WorldOk w) := by
  have HP := Aside0.mk hP
  have HSM := Aside0.mk hsm
  clear hP hsm
  go_enter Try.func54, Try.ntmps54
  go_wp2_with fail
  obtain ⟨wb, hwb⟩ : ∃ wb : World, wb = ((w.alloc (.cells #[.slice none 0 0, .slice none 0 0, .slice none 0 0] 40)).alloc (.cells #[.slice none 0 0, .slice none 0 0, .slice none 0 0] 40)) := ⟨_, rfl⟩
  have HB0 : Aside0 (Below w.heap.size w wb) := ⟨by rw [hwb]; exact below_alloc (below_alloc (Below.refl _ _) _) _⟩
  have K6a : Aside0 (wb.heap[w.heap.size]? = some (.cells #[.slice none 0 0, .slice none 0 0, .slice none 0 0] 40 (0, 0))) := ⟨by rw [hwb]; exact blk_alloc (blk_new w _) _⟩
  have K8a : Aside0 (wb.heap[w.heap.size + 1]? = some (.cells #[.slice none 0 0, .slice none 0 0, .slice none 0 0] 40 (0, 0))) := ⟨by rw [hwb]; have := blk_new (w.alloc (.cells #[.slice none 0 0, .slice none 0 0, .slice none 0 0] 40)) (.cells #[.slice none 0 0, .slice none 0 0, .slice none 0 0] 40); simp only [World.size_alloc] at this; exact this⟩
  have HG : Aside0 (w.heap.size ≤ w.heap.size ∧ w.heap.size < w.heap.size + 1) := ⟨by omega⟩
  rw [← hwb]
  clear hwb
  generalize w.heap.size + 1 = g8 at *
  obtain ⟨g6, hg6⟩ : ∃ g6 : Nat, g6 = w.heap.size := ⟨_, rfl⟩
  replace HG : Aside0 (w.heap.size ≤ g6 ∧ g6 < g8) := ⟨by rw [hg6]; exact Nat.le_refl _, by rw [hg6]; exact HG.out.2⟩
  have K6c : Aside0 (wb.heap[g6]? = some (.cells #[.slice none 0 0, .slice none 0 0, .slice none 0 0] 40 (0, 0))) := ⟨by rw [hg6]; exact K6a.out⟩
  rw [← hg6]
  clear hg6 K6a
  go_loopw [9] (fun v9 wr => ∃ i : Nat, i ≤ P.length ∧ v9 = .int .i64 i ∧ Aside0 (∀ q ∈ P.take i, WfP q) ∧ Aside0 (Below w.heap.size w wr) ∧ Aside0 (wr.heap[g6]? = some (.cells #[.slice none 0 0, .slice none 0 0, .slice none 0 0] 40 (0, 0))) ∧ Aside0 (wr.heap[g8]? = some (.cells #[.slice none 0 0, .slice none 0 0, .slice none 0 0] 40 (0, 0)))) (fun v9 _ => P.length - (intOf v9).toNat)
  case atStart => exact ⟨0, Nat.zero_le _, rfl, ⟨take_none⟩, HB0, K6c, K8a⟩
  case round =>
    clear HB0 K6c K8a
    obtain ⟨i, hi, rfl, HW, HB, K6, K8⟩ := hrel
    by_cases hlt : i < P.length
    · obtain ⟨ad, A3, c3, A4, c4, hae, hx, l1, g1, l2, g2⟩ := el120 HP.out hlt
      cases hae
      obtain ⟨x0, x1, x2, x3, x4⟩ := hx wr HB.out
      have HR := Aside0.mk (right_any P[i] (HSM.out _ (List.getElem_mem hlt)) wr A3 c3 A4 c4 (Kd.C_below g1 HB.out) (Kd.C_below g2 HB.out))
      have HWT := Aside0.mk (fun h => take_all (P := WfP) HW.out hlt h)
      have i0 : (0 : Int) ≤ (i : Int) := by omega
      have i1 : (i : Int) < (P.length : Int) := by omega
      clear hx l1 g1 l2 g2
      go_wp2_with fail
      clear x0 x1 x2 x3 x4
      refine HR.out.mono ?_
      rintro e w1 ⟨⟨b, rfl, hb⟩, hbl⟩
      have HB1 := Aside0.mk (below_step HB.out hbl)
      have K6b := Aside0.mk (blk_below K6.out hbl)
      have K8b := Aside0.mk (blk_below K8.out hbl)
      have HBB := Aside0.mk hb
      clear hbl HB K6 K8 HR hb
      cases b with
      | false =>
        go_upto_region 6 with fail
        have z0 : w1.cell? ⟨g8, 0, none⟩ = some (.slice none 0 0) := (blk_cell K8b.out 0).trans rfl
        have z1 : w1.cell? ⟨g8, 1, none⟩ = some (.slice none 0 0) := (blk_cell K8b.out 1).trans rfl
        have z2 : w1.cell? ⟨g8, 2, none⟩ = some (.slice none 0 0) := (blk_cell K8b.out 2).trans rfl
        have s0 : w1.cell? ⟨g6, 0, none⟩ = some (.slice none 0 0) := (blk_cell K6b.out 0).trans rfl
        have s1 : w1.cell? ⟨g6, 1, none⟩ = some (.slice none 0 0) := (blk_cell K6b.out 1).trans rfl
        have s2 : w1.cell? ⟨g6, 2, none⟩ = some (.slice none 0 0) := (blk_cell K6b.out 2).trans rfl
        have sf0 : w1.frozen? ⟨g6, 0, none⟩ = false := blk_frozen K6b.out 0
        have sf1 : w1.frozen? ⟨g6, 1, none⟩ = false := blk_frozen K6b.out 1
        have sf2 : w1.frozen? ⟨g6, 2, none⟩ = false := blk_frozen K6b.out 2
        have n68 : g6 ≠ g8 := by have := HG.out; omega
        have n86 := n68.symm
        have k0 := blk_put K6b.out 0 (.slice none 0 0) (show _ = #[.slice none 0 0, .slice none 0 0, .slice none 0 0] from rfl)
        have k1 := blk_put k0 1 (.slice none 0 0) (show _ = #[.slice none 0 0, .slice none 0 0, .slice none 0 0] from rfl)
        have K6z := Aside0.mk (blk_put k1 2 (.slice none 0 0) (show _ = #[.slice none 0 0, .slice none 0 0, .slice none 0 0] from rfl))
        have HBz := Aside0.mk ((((HB1.out).setCell (p := ⟨g6, 0, none⟩) HG.out.1 (.slice none 0 0)).setCell (p := ⟨g6, 1, none⟩) HG.out.1 (.slice none 0 0)).setCell (p := ⟨g6, 2, none⟩) HG.out.1 (.slice none 0 0))
        clear k0 k1
        go_wp2_with fail
        clear s0 s1 s2 sf0 sf1 sf2 z0 z1 z2
        obtain ⟨wf, hwf⟩ : ∃ wf : World, wf = (((w1.setCell ⟨g6, 0, none⟩ (.slice none 0 0)).setCell ⟨g6, 1, none⟩ (.slice none 0 0)).setCell ⟨g6, 2, none⟩ (.slice none 0 0)) := ⟨_, rfl⟩
        rw [← hwf] at K6z HBz ⊢
        clear hwf
        have s0 : wf.cell? ⟨g6, 0, none⟩ = some (.slice none 0 0) := (blk_cell K6z.out 0).trans rfl
        have s1 : wf.cell? ⟨g6, 1, none⟩ = some (.slice none 0 0) := (blk_cell K6z.out 1).trans rfl
        have s2 : wf.cell? ⟨g6, 2, none⟩ = some (.slice none 0 0) := (blk_cell K6z.out 2).trans rfl
        exact bodyPost_ret (v := .tuple #[.agg #[.slice none 0 0, .slice none 0 0, .slice none 0 0], .int .i64 1]) (by simp [results, Try.results54, go_sem, *]) rfl ⟨⟨[], [], []⟩, none, 0, none, 0, none, 0, 1, rfl, HBz.out, ConR.nil _ _, fun h => by cases h⟩
      | true =>
        have HW2 : Aside0 (∀ {q : S120}, q ∈ P.take (i + 1) → WfP q) := ⟨fun hq => HWT.out (HBB.out rfl) _ hq⟩
        clear HWT HBB HW
        go_wp2_with fail
        go_loopw [10] (fun v10 wr => ∃ j : Nat, j ≤ i ∧ v10 = .int .i64 j ∧ Aside0 (Below w.heap.size w wr) ∧ Aside0 (wr.heap[g6]? = some (.cells #[.slice none 0 0, .slice none 0 0, .slice none 0 0] 40 (0, 0))) ∧ Aside0 (wr.heap[g8]? = some (.cells #[.slice none 0 0, .slice none 0 0, .slice none 0 0] 40 (0, 0)))) (fun v10 _ => i - (intOf v10).toNat)
        case atStart => exact ⟨0, Nat.zero_le _, rfl, HB1, K6b, K8b⟩
        case round =>
          clear HB1 K6b K8b
          obtain ⟨j, hj, rfl, HB, K6, K8⟩ := hrel
          by_cases hjt : j < i
          · obtain ⟨ad, A3, c3, A4, c4, hae, hx, _⟩ := el120 HP.out hlt
            cases hae
            obtain ⟨ad', A3', c3', A4', c4', hae', hx', _⟩ := el120 HP.out (k := j) (by omega)
            cases hae'
            obtain ⟨x0, x1, x2, _⟩ := hx wr HB.out
            obtain ⟨y0, y1, y2, _⟩ := hx' wr HB.out
            have j0 : (0 : Int) ≤ (j : Int) := by omega
            have j1 : (j : Int) < (P.length : Int) := by omega
            have j2 : (0 : Int) ≤ (i : Int) := by omega
            have j3 : (i : Int) < (P.length : Int) := by omega
            clear hx hx'
            have hjP : j < P.length := by omega
            generalize P[i] = yb at *
            generalize P[j]'hjP = ya at *
            have HBd := Aside0.mk (fun n => pw_below_drewN HB.out n)
            by_cases c0 : ya.f0.toList = yb.f0.toList
            · have t0 : (ya.f0.toList == yb.f0.toList) = true := beq_iff_eq.mpr c0
              clear c0
              by_cases c1 : ya.f1.toList = yb.f1.toList
              · have t1 : (ya.f1.toList == yb.f1.toList) = true := beq_iff_eq.mpr c1
                clear c1
                by_cases c2 : ya.f2.toList = yb.f2.toList
                · have t2 : (ya.f2.toList == yb.f2.toList) = true := beq_iff_eq.mpr c2
                  clear c2
                  go_wp2_with fail
                  go_quiet (fail)
                  go_upto_region 11 with fail
                  generalize hwq : wr.drewN _ = wq
                  have K6q : Aside0 (wq.heap[g6]? = some (.cells #[.slice none 0 0, .slice none 0 0, .slice none 0 0] 40 (0, 0))) := ⟨by rw [← hwq]; exact K6.out⟩
                  have K8q : Aside0 (wq.heap[g8]? = some (.cells #[.slice none 0 0, .slice none 0 0, .slice none 0 0] 40 (0, 0))) := ⟨by rw [← hwq]; exact K8.out⟩
                  have HBq : Aside0 (Below w.heap.size w wq) := ⟨by rw [← hwq]; exact HBd.out _⟩
                  clear hwq K6 K8 HB HBd
                  have z0 : wq.cell? ⟨g8, 0, none⟩ = some (.slice none 0 0) := (blk_cell K8q.out 0).trans rfl
                  have z1 : wq.cell? ⟨g8, 1, none⟩ = some (.slice none 0 0) := (blk_cell K8q.out 1).trans rfl
                  have z2 : wq.cell? ⟨g8, 2, none⟩ = some (.slice none 0 0) := (blk_cell K8q.out 2).trans rfl
                  have s0 : wq.cell? ⟨g6, 0, none⟩ = some (.slice none 0 0) := (blk_cell K6q.out 0).trans rfl
                  have s1 : wq.cell? ⟨g6, 1, none⟩ = some (.slice none 0 0) := (blk_cell K6q.out 1).trans rfl
                  have s2 : wq.cell? ⟨g6, 2, none⟩ = some (.slice none 0 0) := (blk_cell K6q.out 2).trans rfl
                  have sf0 : wq.frozen? ⟨g6, 0, none⟩ = false := blk_frozen K6q.out 0
                  have sf1 : wq.frozen? ⟨g6, 1, none⟩ = false := blk_frozen K6q.out 1
                  have sf2 : wq.frozen? ⟨g6, 2, none⟩ = false := blk_frozen K6q.out 2
                  have n68 : g6 ≠ g8 := by have := HG.out; omega
                  have n86 := n68.symm
                  have k0 := blk_put K6q.out 0 (.slice none 0 0) (show _ = #[.slice none 0 0, .slice none 0 0, .slice none 0 0] from rfl)
                  have k1 := blk_put k0 1 (.slice none 0 0) (show _ = #[.slice none 0 0, .slice none 0 0, .slice none 0 0] from rfl)
                  have K6z := Aside0.mk (blk_put k1 2 (.slice none 0 0) (show _ = #[.slice none 0 0, .slice none 0 0, .slice none 0 0] from rfl))
                  have HBz := Aside0.mk ((((HBq.out).setCell (p := ⟨g6, 0, none⟩) HG.out.1 (.slice none 0 0)).setCell (p := ⟨g6, 1, none⟩) HG.out.1 (.slice none 0 0)).setCell (p := ⟨g6, 2, none⟩) HG.out.1 (.slice none 0 0))
                  clear k0 k1
                  go_wp2_with fail
                  clear s0 s1 s2 sf0 sf1 sf2 z0 z1 z2
                  obtain ⟨wf, hwf⟩ : ∃ wf : World, wf = (((wq.setCell ⟨g6, 0, none⟩ (.slice none 0 0)).setCell ⟨g6, 1, none⟩ (.slice none 0 0)).setCell ⟨g6, 2, none⟩ (.slice none 0 0)) := ⟨_, rfl⟩
                  rw [← hwf] at K6z HBz ⊢
                  clear hwf
                  have s0 : wf.cell? ⟨g6, 0, none⟩ = some (.slice none 0 0) := (blk_cell K6z.out 0).trans rfl
                  have s1 : wf.cell? ⟨g6, 1, none⟩ = some (.slice none 0 0) := (blk_cell K6z.out 1).trans rfl
                  have s2 : wf.cell? ⟨g6, 2, none⟩ = some (.slice none 0 0) := (blk_cell K6z.out 2).trans rfl
                  exact bodyPost_ret (v := .tuple #[.agg #[.slice none 0 0, .slice none 0 0, .slice none 0 0], .int .i64 10]) (by simp [results, Try.results54, go_sem, *]) rfl ⟨⟨[], [], []⟩, none, 0, none, 0, none, 0, 10, rfl, HBz.out, ConR.nil _ _, fun h => by cases h⟩
                · have t2 : (ya.f2.toList == yb.f2.toList) = false := beq_eq_false_iff_ne.mpr c2
                  clear c2
                  go_wp2_with fail
                  go_quiet (fail)
                  go_wp2_with fail
                  go_roundw
                  case rel => exact ⟨j + 1, by omega, by go_num, ⟨HBd.out _⟩, ⟨K6.out⟩, ⟨K8.out⟩⟩
                  case measure => simp [intOf]; omega
              · have t1 : (ya.f1.toList == yb.f1.toList) = false := beq_eq_false_iff_ne.mpr c1
                clear c1
                go_wp2_with fail
                go_quiet (fail)
                go_wp2_with fail
                go_roundw
                case rel => exact ⟨j + 1, by omega, by go_num, ⟨HBd.out _⟩, ⟨K6.out⟩, ⟨K8.out⟩⟩
                case measure => simp [intOf]; omega
            · have t0 : (ya.f0.toList == yb.f0.toList) = false := beq_eq_false_iff_ne.mpr c0
              clear c0
              go_wp2_with fail
              go_quiet (fail)
              go_wp2_with fail
              go_roundw
              case rel => exact ⟨j + 1, by omega, by go_num, ⟨HBd.out _⟩, ⟨K6.out⟩, ⟨K8.out⟩⟩
              case measure => simp [intOf]; omega
          · obtain rfl : j = i := by omega
            go_wp2_with fail
            go_roundw
            case rel => exact ⟨j + 1, by omega, by go_num, ⟨fun q hq => HW2.out hq⟩, HB, K6, K8⟩
            case measure => simp [intOf]; omega
    · obtain rfl : i = P.length := by omega
      have HWA := Aside0.mk (take_whole HW.out)
      by_cases hp0 : pkg < 0
      · have e1 : decide (pkg < 0) = true := decide_eq_true hp0
        go_upto_region 13 with fail
        have z0 : wr.cell? ⟨g8, 0, none⟩ = some (.slice none 0 0) := (blk_cell K8.out 0).trans rfl
        have z1 : wr.cell? ⟨g8, 1, none⟩ = some (.slice none 0 0) := (blk_cell K8.out 1).trans rfl
        have z2 : wr.cell? ⟨g8, 2, none⟩ = some (.slice none 0 0) := (blk_cell K8.out 2).trans rfl
        have s0 : wr.cell? ⟨g6, 0, none⟩ = some (.slice none 0 0) := (blk_cell K6.out 0).trans rfl
        have s1 : wr.cell? ⟨g6, 1, none⟩ = some (.slice none 0 0) := (blk_cell K6.out 1).trans rfl
        have s2 : wr.cell? ⟨g6, 2, none⟩ = some (.slice none 0 0) := (blk_cell K6.out 2).trans rfl
        have sf0 : wr.frozen? ⟨g6, 0, none⟩ = false := blk_frozen K6.out 0
        have sf1 : wr.frozen? ⟨g6, 1, none⟩ = false := blk_frozen K6.out 1
        have sf2 : wr.frozen? ⟨g6, 2, none⟩ = false := blk_frozen K6.out 2
        have n68 : g6 ≠ g8 := by have := HG.out; omega
        have n86 := n68.symm
        have k0 := blk_put K6.out 0 (.slice none 0 0) (show _ = #[.slice none 0 0, .slice none 0 0, .slice none 0 0] from rfl)
        have k1 := blk_put k0 1 (.slice none 0 0) (show _ = #[.slice none 0 0, .slice none 0 0, .slice none 0 0] from rfl)
        have K6z := Aside0.mk (blk_put k1 2 (.slice none 0 0) (show _ = #[.slice none 0 0, .slice none 0 0, .slice none 0 0] from rfl))
        have HBz := Aside0.mk ((((HB.out).setCell (p := ⟨g6, 0, none⟩) HG.out.1 (.slice none 0 0)).setCell (p := ⟨g6, 1, none⟩) HG.out.1 (.slice none 0 0)).setCell (p := ⟨g6, 2, none⟩) HG.out.1 (.slice none 0 0))
        clear k0 k1
        go_wp2_with fail
        clear s0 s1 s2 sf0 sf1 sf2 z0 z1 z2
        obtain ⟨wf, hwf⟩ : ∃ wf : World, wf = (((wr.setCell ⟨g6, 0, none⟩ (.slice none 0 0)).setCell ⟨g6, 1, none⟩ (.slice none 0 0)).setCell ⟨g6, 2, none⟩ (.slice none 0 0)) := ⟨_, rfl⟩
        rw [← hwf] at K6z HBz ⊢
        clear hwf
        have s0 : wf.cell? ⟨g6, 0, none⟩ = some (.slice none 0 0) := (blk_cell K6z.out 0).trans rfl
        have s1 : wf.cell? ⟨g6, 1, none⟩ = some (.slice none 0 0) := (blk_cell K6z.out 1).trans rfl
        have s2 : wf.cell? ⟨g6, 2, none⟩ = some (.slice none 0 0) := (blk_cell K6z.out 2).trans rfl
        exact bodyPost_ret (v := .tuple #[.agg #[.slice none 0 0, .slice none 0 0, .slice none 0 0], .int .i64 11]) (by simp [results, Try.results54, go_sem, *]) rfl ⟨⟨[], [], []⟩, none, 0, none, 0, none, 0, 11, rfl, HBz.out, ConR.nil _ _, fun h => by cases h⟩
      · by_cases hp1 : (P.length : Int) ≤ pkg
        · have e1 : decide (pkg < 0) = false := decide_eq_false hp0
          have e2 : decide ((P.length : Int) ≤ pkg) = true := decide_eq_true hp1
          go_upto_region 13 with fail
          have z0 : wr.cell? ⟨g8, 0, none⟩ = some (.slice none 0 0) := (blk_cell K8.out 0).trans rfl
          have z1 : wr.cell? ⟨g8, 1, none⟩ = some (.slice none 0 0) := (blk_cell K8.out 1).trans rfl
          have z2 : wr.cell? ⟨g8, 2, none⟩ = some (.slice none 0 0) := (blk_cell K8.out 2).trans rfl
          have s0 : wr.cell? ⟨g6, 0, none⟩ = some (.slice none 0 0) := (blk_cell K6.out 0).trans rfl
          have s1 : wr.cell? ⟨g6, 1, none⟩ = some (.slice none 0 0) := (blk_cell K6.out 1).trans rfl
          have s2 : wr.cell? ⟨g6, 2, none⟩ = some (.slice none 0 0) := (blk_cell K6.out 2).trans rfl
          have sf0 : wr.frozen? ⟨g6, 0, none⟩ = false := blk_frozen K6.out 0
          have sf1 : wr.frozen? ⟨g6, 1, none⟩ = false := blk_frozen K6.out 1
          have sf2 : wr.frozen? ⟨g6, 2, none⟩ = false := blk_frozen K6.out 2
          have n68 : g6 ≠ g8 := by have := HG.out; omega
          have n86 := n68.symm
          have k0 := blk_put K6.out 0 (.slice none 0 0) (show _ = #[.slice none 0 0, .slice none 0 0, .slice none 0 0] from rfl)
          have k1 := blk_put k0 1 (.slice none 0 0) (show _ = #[.slice none 0 0, .slice none 0 0, .slice none 0 0] from rfl)
          have K6z := Aside0.mk (blk_put k1 2 (.slice none 0 0) (show _ = #[.slice none 0 0, .slice none 0 0, .slice none 0 0] from rfl))
          have HBz := Aside0.mk ((((HB.out).setCell (p := ⟨g6, 0, none⟩) HG.out.1 (.slice none 0 0)).setCell (p := ⟨g6, 1, none⟩) HG.out.1 (.slice none 0 0)).setCell (p := ⟨g6, 2, none⟩) HG.out.1 (.slice none 0 0))
          clear k0 k1
          go_wp2_with fail
          clear s0 s1 s2 sf0 sf1 sf2 z0 z1 z2
          obtain ⟨wf, hwf⟩ : ∃ wf : World, wf = (((wr.setCell ⟨g6, 0, none⟩ (.slice none 0 0)).setCell ⟨g6, 1, none⟩ (.slice none 0 0)).setCell ⟨g6, 2, none⟩ (.slice none 0 0)) := ⟨_, rfl⟩
          rw [← hwf] at K6z HBz ⊢
          clear hwf
          have s0 : wf.cell? ⟨g6, 0, none⟩ = some (.slice none 0 0) := (blk_cell K6z.out 0).trans rfl
          have s1 : wf.cell? ⟨g6, 1, none⟩ = some (.slice none 0 0) := (blk_cell K6z.out 1).trans rfl
          have s2 : wf.cell? ⟨g6, 2, none⟩ = some (.slice none 0 0) := (blk_cell K6z.out 2).trans rfl
          exact bodyPost_ret (v := .tuple #[.agg #[.slice none 0 0, .slice none 0 0, .slice none 0 0], .int .i64 11]) (by simp [results, Try.results54, go_sem, *]) rfl ⟨⟨[], [], []⟩, none, 0, none, 0, none, 0, 11, rfl, HBz.out, ConR.nil _ _, fun h => by cases h⟩
        · have e1 : decide (pkg < 0) = false := decide_eq_false hp0
          have e2 : decide ((P.length : Int) ≤ pkg) = false := decide_eq_false hp1
          obtain ⟨k0, rfl⟩ : ∃ k0 : Nat, pkg = (k0 : Int) := ⟨pkg.toNat, by omega⟩
          have hk0 : k0 < P.length := by omega
          obtain ⟨ad, A3, c3, A4, c4, hae, hx, l1, g1, l2, g2⟩ := el120 HP.out hk0
          cases hae
          have HX := Aside0.mk hx
          have HCW := Aside0.mk g2
          have HWQ := Aside0.mk (HWA.out _ (List.getElem_mem hk0))
          have i0 : (0 : Int) ≤ (k0 : Int) := by omega
          have i1 : (k0 : Int) < (P.length : Int) := by omega
          clear hx l1 g1 l2 g2 hp0 hp1
          generalize P[k0] = Q at *
          have hwl := HWQ.out.wl
          go_wp2_with fail
          clear e1 e2
          go_loopw [11] (fun v11 wr => ∃ j : Nat, j ≤ Q.f4.length ∧ v11 = .int .i64 j ∧ Aside0 (Below w.heap.size w wr) ∧ Aside0 (wr.heap[g6]? = some (.cells #[.slice none 0 0, .slice none 0 0, .slice none 0 0] 40 (0, 0))) ∧ Aside0 (wr.heap[g8]? = some (.cells #[.slice none 0 0, .slice none 0 0, .slice none 0 0] 40 (0, 0)))) (fun v11 _ => Q.f4.length - (intOf v11).toNat)
          case atStart => exact ⟨0, Nat.zero_le _, rfl, HB, K6, K8⟩
          case round =>
            clear HB K6 K8
            obtain ⟨j, hj, rfl, HB, K6, K8⟩ := hrel
            have y4 := (HX.out wr HB.out).2.2.2.2
            by_cases hjt : j < Q.f4.length
            · obtain ⟨ad2, U, cU, D, cD, I, cI, O, cO, hae2, hx2, l1, g1, l2, g2, l3, g3, l4, g4⟩ := el125 HCW.out hjt
              rw [hae2] at y4
              have HU := Aside0.mk g1
              have HD := Aside0.mk g2
              have HI := Aside0.mk g3
              have HO := Aside0.mk g4
              have HWD := Aside0.mk (HWQ.out.ws _ (List.getElem_mem hjt))
              obtain ⟨x0, x1, x2, x3, x4⟩ := hx2 wr HB.out
              have j0 : (0 : Int) ≤ (j : Int) := by omega
              have j1 : (j : Int) < (Q.f4.length : Int) := by omega
              clear hx2 hae2 l1 g1 l2 g2 l3 g3 l4 g4
              generalize Q.f4[j] = wd at *
              have HBd := Aside0.mk (below_alloc HB.out (.cells #[.string wd.f0, .slice U wd.f1.length cU, .slice D wd.f2.length cD, .slice I wd.f3.length cI, .slice O wd.f4.length cO] 125))
              have K6d := Aside0.mk (blk_alloc K6.out (.cells #[.string wd.f0, .slice U wd.f1.length cU, .slice D wd.f2.length cD, .slice I wd.f3.length cI, .slice O wd.f4.length cO] 125))
              have K8d := Aside0.mk (blk_alloc K8.out (.cells #[.string wd.f0, .slice U wd.f1.length cU, .slice D wd.f2.length cD, .slice I wd.f3.length cI, .slice O wd.f4.length cO] 125))
              have K12d := Aside0.mk (blk_new wr (.cells #[.string wd.f0, .slice U wd.f1.length cU, .slice D wd.f2.length cD, .slice I wd.f3.length cI, .slice O wd.f4.length cO] 125))
              have nu0 : (wr.alloc (.cells #[.string wd.f0, .slice U wd.f1.length cU, .slice D wd.f2.length cD, .slice I wd.f3.length cI, .slice O wd.f4.length cO] 125)).cell? ⟨wr.heap.size, 0, none⟩ = some (.string wd.f0) := (blk_cell K12d.out 0).trans rfl
              by_cases hd : wd.f0.toList = name.toList
              · have t2 : (wd.f0.toList == name.toList) = true := beq_iff_eq.mpr hd
                have t3 : (wd.f0.toList != name.toList) = false := bne_eq_false_iff_eq.mpr hd
                clear hd
                go_upto_region 19 with fail
                clear x0 x1 x2 x3 x4 nu0 t2 t3 y4
                obtain ⟨wd0, hwd⟩ : ∃ wd0 : World, wd0 = wr.alloc (.cells #[.string wd.f0, .slice U wd.f1.length cU, .slice D wd.f2.length cD, .slice I wd.f3.length cI, .slice O wd.f4.length cO] 125) := ⟨_, rfl⟩
                rw [← hwd] at HBd K6d K8d K12d ⊢
                clear hwd HB K6 K8
                generalize wr.heap.size = g12 at *
                have OKH := Aside0.mk (hd_ok (A := some ad) (c := c) (pkg := k0) (wd := wd) (cU := cU) (cD := cD) (cI := cI) (cO := cO) HP.out HU.out HD.out HI.out HO.out HWA.out HWD.out hk0 n5)
                have HM : Aside0 (Mk (hdOf P (some ad) c k0 wd U cU D cD I cI O cO w) wd0.heap.size (wd0.alloc (.cells #[.slice (some ad) P.length c, .int .i64 (k0 : Int), .string wd.f0, .slice U wd.f1.length cU, .slice D wd.f2.length cD, .slice I wd.f3.length cI, .slice O wd.f4.length cO, .slice none 0 0, .slice none 0 0, .slice none 0 0, .int .i64 0, .int .i64 0, .int .i64 0] 128)) (.slice none 0 0) (.slice none 0 0) (.slice none 0 0) 0 0 0 []) := ⟨⟨below_alloc HBd.out _, blk_new wd0 _, HBd.out.size, Kd.R_nil _ _ _ _ _, List.nodup_nil, fun t ht => by cases ht⟩⟩
                have K6m := Aside0.mk (blk_alloc K6d.out (.cells #[.slice (some ad) P.length c, .int .i64 (k0 : Int), .string wd.f0, .slice U wd.f1.length cU, .slice D wd.f2.length cD, .slice I wd.f3.length cI, .slice O wd.f4.length cO, .slice none 0 0, .slice none 0 0, .slice none 0 0, .int .i64 0, .int .i64 0, .int .i64 0] 128))
                have K8m := Aside0.mk (blk_alloc K8d.out (.cells #[.slice (some ad) P.length c, .int .i64 (k0 : Int), .string wd.f0, .slice U wd.f1.length cU, .slice D wd.f2.length cD, .slice I wd.f3.length cI, .slice O wd.f4.length cO, .slice none 0 0, .slice none 0 0, .slice none 0 0, .int .i64 0, .int .i64 0, .int .i64 0] 128))
                have K12m := Aside0.mk (blk_alloc K12d.out (.cells #[.slice (some ad) P.length c, .int .i64 (k0 : Int), .string wd.f0, .slice U wd.f1.length cU, .slice D wd.f2.length cD, .slice I wd.f3.length cI, .slice O wd.f4.length cO, .slice none 0 0, .slice none 0 0, .slice none 0 0, .int .i64 0, .int .i64 0, .int .i64 0] 128))
                have wu0 : wd0.cell? ⟨g12, 0, none⟩ = some (.string wd.f0) := (blk_cell K12d.out 0).trans rfl
                have wu1 : wd0.cell? ⟨g12, 1, none⟩ = some (.slice U wd.f1.length cU) := (blk_cell K12d.out 1).trans rfl
                have wu2 : wd0.cell? ⟨g12, 2, none⟩ = some (.slice D wd.f2.length cD) := (blk_cell K12d.out 2).trans rfl
                have wu3 : wd0.cell? ⟨g12, 3, none⟩ = some (.slice I wd.f3.length cI) := (blk_cell K12d.out 3).trans rfl
                have wu4 : wd0.cell? ⟨g12, 4, none⟩ = some (.slice O wd.f4.length cO) := (blk_cell K12d.out 4).trans rfl
                have uu0 : (wd0.alloc (.cells #[.slice (some ad) P.length c, .int .i64 (k0 : Int), .string wd.f0, .slice U wd.f1.length cU, .slice D wd.f2.length cD, .slice I wd.f3.length cI, .slice O wd.f4.length cO, .slice none 0 0, .slice none 0 0, .slice none 0 0, .int .i64 0, .int .i64 0, .int .i64 0] 128)).cell? ⟨g12, 0, none⟩ = some (.string wd.f0) := (blk_cell K12m.out 0).trans rfl
                have uu1 : (wd0.alloc (.cells #[.slice (some ad) P.length c, .int .i64 (k0 : Int), .string wd.f0, .slice U wd.f1.length cU, .slice D wd.f2.length cD, .slice I wd.f3.length cI, .slice O wd.f4.length cO, .slice none 0 0, .slice none 0 0, .slice none 0 0, .int .i64 0, .int .i64 0, .int .i64 0] 128)).cell? ⟨g12, 1, none⟩ = some (.slice U wd.f1.length cU) := (blk_cell K12m.out 1).trans rfl
                have uu2 : (wd0.alloc (.cells #[.slice (some ad) P.length c, .int .i64 (k0 : Int), .string wd.f0, .slice U wd.f1.length cU, .slice D wd.f2.length cD, .slice I wd.f3.length cI, .slice O wd.f4.length cO, .slice none 0 0, .slice none 0 0, .slice none 0 0, .int .i64 0, .int .i64 0, .int .i64 0] 128)).cell? ⟨g12, 2, none⟩ = some (.slice D wd.f2.length cD) := (blk_cell K12m.out 2).trans rfl
                have uu3 : (wd0.alloc (.cells #[.slice (some ad) P.length c, .int .i64 (k0 : Int), .string wd.f0, .slice U wd.f1.length cU, .slice D wd.f2.length cD, .slice I wd.f3.length cI, .slice O wd.f4.length cO, .slice none 0 0, .slice none 0 0, .slice none 0 0, .int .i64 0, .int .i64 0, .int .i64 0] 128)).cell? ⟨g12, 3, none⟩ = some (.slice I wd.f3.length cI) := (blk_cell K12m.out 3).trans rfl
                have uu4 : (wd0.alloc (.cells #[.slice (some ad) P.length c, .int .i64 (k0 : Int), .string wd.f0, .slice U wd.f1.length cU, .slice D wd.f2.length cD, .slice I wd.f3.length cI, .slice O wd.f4.length cO, .slice none 0 0, .slice none 0 0, .slice none 0 0, .int .i64 0, .int .i64 0, .int .i64 0] 128)).cell? ⟨g12, 4, none⟩ = some (.slice O wd.f4.length cO) := (blk_cell K12m.out 4).trans rfl
                go_wp2_with fail
                clear wu0 wu1 wu2 wu3 wu4 uu0 uu1 uu2 uu3 uu4
                obtain ⟨wm, hwm⟩ : ∃ wm : World, wm = wd0.alloc (.cells #[.slice (some ad) P.length c, .int .i64 (k0 : Int), .string wd.f0, .slice U wd.f1.length cU, .slice D wd.f2.length cD, .slice I wd.f3.length cI, .slice O wd.f4.length cO, .slice none 0 0, .slice none 0 0, .slice none 0 0, .int .i64 0, .int .i64 0, .int .i64 0] 128) := ⟨_, rfl⟩
                rw [← hwm] at HM K6m K8m K12m ⊢
                have HPM : Aside0 (g6 ≠ wd0.heap.size ∧ g8 ≠ wd0.heap.size) := ⟨by have h1 := blk_lt K6d.out; have h2 := blk_lt K8d.out; omega⟩
                clear hwm K6d K8d K12d HBd
                generalize wd0.heap.size = p at *
                refine (scoped_any ⟨_, HM.out⟩ cU cD 0 HU.out HD.out (F := none) (fs := []) ⟨rfl, by simp, fun h => absurd h (by simp)⟩ HWD.out.h (by simp)).mono ?_
                rintro e w1 ⟨rfl, E1, hn1⟩
                have K61 := Aside0.mk (hn1.blk K6m.out (by decide) (by decide))
                have K81 := Aside0.mk (hn1.blk K8m.out (by decide) (by decide))
                have K121 := Aside0.mk (hn1.blk K12m.out (by decide) (by decide))
                have HN1 := Aside0.mk hn1
                clear hn1 K6m K8m K12m
                have wu0 : w1.cell? ⟨g12, 0, none⟩ = some (.string wd.f0) := (blk_cell K121.out 0).trans rfl
                have wu1 : w1.cell? ⟨g12, 1, none⟩ = some (.slice U wd.f1.length cU) := (blk_cell K121.out 1).trans rfl
                have wu2 : w1.cell? ⟨g12, 2, none⟩ = some (.slice D wd.f2.length cD) := (blk_cell K121.out 2).trans rfl
                have wu3 : w1.cell? ⟨g12, 3, none⟩ = some (.slice I wd.f3.length cI) := (blk_cell K121.out 3).trans rfl
                have wu4 : w1.cell? ⟨g12, 4, none⟩ = some (.slice O wd.f4.length cO) := (blk_cell K121.out 4).trans rfl
                go_wp2_with fail
                refine (ports_make OKH.out HN1.out.m1 wd.f3 I cI HI.out HWD.out.i false).mono ?_
                rintro e w2 ⟨v2, E2, res2, L2, AS2, cS2, rfl, hn2, hr2, hg2⟩
                have K62 := Aside0.mk (hn2.blk K61.out (by decide) (by decide))
                have K82 := Aside0.mk (hn2.blk K81.out (by decide) (by decide))
                have K122 := Aside0.mk (hn2.blk K121.out (by decide) (by decide))
                obtain ⟨sz2, m2⟩ := hn2.m1
                have z8 := m2.z8
                have f8 := m2.fz 8
                have HS2 := Aside0.mk (m2.set_ins (.slice AS2 L2.length cS2))
                have HR2 := Aside0.mk (Kd.R_set hr2 m2.hp (by decide) 8 (.slice AS2 L2.length cS2))
                have HG2 := Aside0.mk hg2
                have HLBa : Aside0 (w.heap.size ≤ w1.heap.size) := ⟨by obtain ⟨sq, mq⟩ := HN1.out.m1; exact mq.bl.size⟩
                have hn2le := hn2.le
                have hn2er := hn2.er
                have HP12 := Aside0.mk (blk_ne K122.out m2.hp (by decide))
                have HP62 := Aside0.mk (blk_ne K62.out m2.hp (by decide))
                have HP82 := Aside0.mk (blk_ne K82.out m2.hp (by decide))
                clear hn2 hr2 hg2 m2 K61 K81 K121 HN1 wu0 wu1 wu2 wu3 wu4
                have HLE2 := Aside0.mk (And.intro hn2le hn2er)
                go_upto_region 22 with fail
                clear z8 f8
                obtain ⟨wq, hwq⟩ : ∃ wq : World, wq = w2.setCell ⟨p, 8, none⟩ (.slice AS2 L2.length cS2) := ⟨_, rfl⟩
                have K6q : Aside0 (wq.heap[g6]? = some (.cells #[.slice none 0 0, .slice none 0 0, .slice none 0 0] 40 (0, 0))) := ⟨by rw [hwq]; exact blk_far K62.out HP62.out _⟩
                have K8q : Aside0 (wq.heap[g8]? = some (.cells #[.slice none 0 0, .slice none 0 0, .slice none 0 0] 40 (0, 0))) := ⟨by rw [hwq]; exact blk_far K82.out HP82.out _⟩
                have K12q : Aside0 (wq.heap[g12]? = some (.cells #[.string wd.f0, .slice U wd.f1.length cU, .slice D wd.f2.length cD, .slice I wd.f3.length cI, .slice O wd.f4.length cO] 125 (0, 0))) := ⟨by rw [hwq]; exact blk_far K122.out HP12.out _⟩
                rw [← hwq] at HS2 HR2 ⊢
                clear hwq K62 K82 K122
                have wu0 : wq.cell? ⟨g12, 0, none⟩ = some (.string wd.f0) := (blk_cell K12q.out 0).trans rfl
                have wu1 : wq.cell? ⟨g12, 1, none⟩ = some (.slice U wd.f1.length cU) := (blk_cell K12q.out 1).trans rfl
                have wu2 : wq.cell? ⟨g12, 2, none⟩ = some (.slice D wd.f2.length cD) := (blk_cell K12q.out 2).trans rfl
                have wu3 : wq.cell? ⟨g12, 3, none⟩ = some (.slice I wd.f3.length cI) := (blk_cell K12q.out 3).trans rfl
                have wu4 : wq.cell? ⟨g12, 4, none⟩ = some (.slice O wd.f4.length cO) := (blk_cell K12q.out 4).trans rfl
                go_wp2_with fail
                clear wu0 wu1 wu2 wu3 wu4
                refine (ports_make OKH.out ⟨_, HS2.out.1⟩ wd.f4 O cO HO.out HWD.out.o true).mono ?_
                rintro e w3 ⟨v3, E3, res3, L3, AS3, cS3, rfl, hn3, hr3, hg3⟩
                have K63 := hn3.blk K6q.out (by decide) (by decide)
                have K83 := hn3.blk K8q.out (by decide) (by decide)
                obtain ⟨sz3, m3⟩ := hn3.m1
                have z9 := m3.z9
                have f9 := m3.fz 9
                have MZ0 := (m3.set_outs (.slice AS3 L3.length cS3)).1
                have HRi0 := Kd.R_set (hn3.go.row HR2.out) m3.hp (by decide) 9 (.slice AS3 L3.length cS3)
                have HRo0 := Kd.R_set hr3 m3.hp (by decide) 9 (.slice AS3 L3.length cS3)
                have HG3 := Aside0.mk hg3
                have HLB : Aside0 (w.heap.size ≤ w1.heap.size ∧ w.heap.size ≤ wq.heap.size) := ⟨HLBa.out, HS2.out.1.bl.size⟩
                have HLE3 := Aside0.mk (And.intro hn3.le hn3.er)
                have HP63 := blk_ne K63 m3.hp (by decide)
                have HP83 := blk_ne K83 m3.hp (by decide)
                have K6y := blk_far K63 HP63 (p := ⟨p, 9, none⟩) (.slice AS3 L3.length cS3)
                have K8y := blk_far K83 HP83 (p := ⟨p, 9, none⟩) (.slice AS3 L3.length cS3)
                have MZ1 := Aside0.mk MZ0
                have HRi1 := Aside0.mk HRi0
                have HRo1 := Aside0.mk HRo0
                have K6z := Aside0.mk K6y
                have K8z := Aside0.mk K8y
                clear hn3 hr3 hg3 m3 MZ0 HRi0 HRo0 K6q K8q K12q HS2 HR2 K63 K83 HP63 HP83 K6y K8y
                go_upto_region 23 with fail
                clear z9 f9
                obtain ⟨wz, hwz⟩ : ∃ wz : World, wz = w3.setCell ⟨p, 9, none⟩ (.slice AS3 L3.length cS3) := ⟨_, rfl⟩
                rw [← hwz] at MZ1 HRi1 HRo1 K6z K8z ⊢
                clear hwz
                have z12 := MZ1.out.z12
                have HBz0 : Aside0 (Below w.heap.size w wz) := ⟨MZ1.out.bl⟩
                have HLR := Aside0.mk (Nat.le_trans (nodup_le MZ1.out.nd MZ1.out.sub) OKH.out.tl)
                have HTX := Aside0.mk (fun t ht => all_txt HWA.out HWD.out t (MZ1.out.sub t ht))
                obtain ⟨A1, c1, hv, hc1, hC1⟩ := Kd.R_reads MZ1.out.hr
                have z7 : wz.cell? ⟨p, 7, none⟩ = some (.slice A1 res3.length c1) := by rw [← hv]; exact MZ1.out.z7
                have z8 := MZ1.out.z8
                have z9 := MZ1.out.z9
                have HRr := Aside0.mk MZ1.out.hr
                have HV := Aside0.mk hv
                clear hv hc1 hC1
                by_cases hE : E3 = 0
                · have e1 : decide (E3 = 0) = true := decide_eq_true hE
                  have e2 : (E3 == 0) = true := beq_iff_eq.mpr hE
                  have e3 : (E3 != 0) = false := bne_eq_false_iff_eq.mpr hE
                  have HE := Aside0.mk hE
                  clear hE
                  have s0 : wz.cell? ⟨g6, 0, none⟩ = some (.slice none 0 0) := (blk_cell K6z.out 0).trans rfl
                  have s1 : wz.cell? ⟨g6, 1, none⟩ = some (.slice none 0 0) := (blk_cell K6z.out 1).trans rfl
                  have s2 : wz.cell? ⟨g6, 2, none⟩ = some (.slice none 0 0) := (blk_cell K6z.out 2).trans rfl
                  have sf0 : wz.frozen? ⟨g6, 0, none⟩ = false := blk_frozen K6z.out 0
                  have sf1 : wz.frozen? ⟨g6, 1, none⟩ = false := blk_frozen K6z.out 1
                  have sf2 : wz.frozen? ⟨g6, 2, none⟩ = false := blk_frozen K6z.out 2
                  have n6p : g6 ≠ p := blk_ne K6z.out MZ1.out.hp (by decide)
                  have np6 := n6p.symm
                  go_wp2_with fail
                  clear e1 e2 e3 s0 s1 s2 sf0 sf1 sf2 z7 z8 z9 z12
                  have k0 := blk_put K6z.out 0 (.slice A1 res3.length c1) (show _ = #[.slice A1 res3.length c1, .slice none 0 0, .slice none 0 0] from rfl)
                  have k1 := blk_put k0 1 (.slice AS2 L2.length cS2) (show _ = #[.slice A1 res3.length c1, .slice AS2 L2.length cS2, .slice none 0 0] from rfl)
                  have K6f := Aside0.mk (blk_put k1 2 (.slice AS3 L3.length cS3) (show _ = #[.slice A1 res3.length c1, .slice AS2 L2.length cS2, .slice AS3 L3.length cS3] from rfl))
                  have HBf := Aside0.mk (((HBz0.out.setCell (p := ⟨g6, 0, none⟩) HG.out.1 (.slice A1 res3.length c1)).setCell (p := ⟨g6, 1, none⟩) HG.out.1 (.slice AS2 L2.length cS2)).setCell (p := ⟨g6, 2, none⟩) HG.out.1 (.slice AS3 L3.length cS3))
                  have HRrf := Aside0.mk (Kd.R_set (Kd.R_set (Kd.R_set HRr.out K6z.out (by decide) 0 (.slice A1 res3.length c1)) k0 (by decide) 1 (.slice AS2 L2.length cS2)) k1 (by decide) 2 (.slice AS3 L3.length cS3))
                  have HRif := Aside0.mk (Kd.R_set (Kd.R_set (Kd.R_set HRi1.out K6z.out (by decide) 0 (.slice A1 res3.length c1)) k0 (by decide) 1 (.slice AS2 L2.length cS2)) k1 (by decide) 2 (.slice AS3 L3.length cS3))
                  have HRof := Aside0.mk (Kd.R_set (Kd.R_set (Kd.R_set HRo1.out K6z.out (by decide) 0 (.slice A1 res3.length c1)) k0 (by decide) 1 (.slice AS2 L2.length cS2)) k1 (by decide) 2 (.slice AS3 L3.length cS3))
                  clear k0 k1
                  obtain ⟨wf, hwf⟩ : ∃ wf : World, wf = (((wz.setCell ⟨g6, 0, none⟩ (.slice A1 res3.length c1)).setCell ⟨g6, 1, none⟩ (.slice AS2 L2.length cS2)).setCell ⟨g6, 2, none⟩ (.slice AS3 L3.length cS3)) := ⟨_, rfl⟩
                  rw [← hwf] at K6f HBf HRrf HRif HRof ⊢
                  clear hwf
                  have s0 : wf.cell? ⟨g6, 0, none⟩ = some (.slice A1 res3.length c1) := (blk_cell K6f.out 0).trans rfl
                  have s1 : wf.cell? ⟨g6, 1, none⟩ = some (.slice AS2 L2.length cS2) := (blk_cell K6f.out 1).trans rfl
                  have s2 : wf.cell? ⟨g6, 2, none⟩ = some (.slice AS3 L3.length cS3) := (blk_cell K6f.out 2).trans rfl
                  have hr1 := HRrf.out
                  rw [HV.out] at hr1
                  exact bodyPost_ret (v := .tuple #[.agg #[.slice A1 res3.length c1, .slice AS2 L2.length cS2, .slice AS3 L3.length cS3], .int .i64 0]) (by simp [results, Try.results54, go_sem, *]) rfl
                    ⟨⟨res3, L2, L3⟩, A1, c1, AS2, cS2, AS3, cS3, 0, rfl, HBf.out, ⟨hr1, Kd.R_mono (Kd.R_lower HRif.out HLB.out.1) (fun _ _ => trivial), Kd.R_mono (Kd.R_lower HRof.out HLB.out.2) (fun _ _ => trivial)⟩,
                      fun _ => ⟨MZ1.out.nd, HTX.out, fun x hx => ((HG2.out (HLE3.out.2 HE.out)).1 x hx).more HLE3.out.1, (HG3.out HE.out).1, (HG2.out (HLE3.out.2 HE.out)).2.1, (HG3.out HE.out).2.1, (HG2.out (HLE3.out.2 HE.out)).2.2, (HG3.out HE.out).2.2, HLR.out⟩⟩
                · have e1 : decide (E3 = 0) = false := decide_eq_false hE
                  have e2 : (E3 == 0) = false := beq_eq_false_iff_ne.mpr hE
                  have e3 : (E3 != 0) = true := bne_iff_ne.mpr hE
                  have HE := Aside0.mk hE
                  clear hE
                  go_upto_region 24 with fail
                  clear e1 e2 e3 z7 z8 z9
                  have n6p : g6 ≠ p := blk_ne K6z.out MZ1.out.hp (by decide)
                  have np6 := n6p.symm
                  have z0 : wz.cell? ⟨g8, 0, none⟩ = some (.slice none 0 0) := (blk_cell K8z.out 0).trans rfl
                  have z1 : wz.cell? ⟨g8, 1, none⟩ = some (.slice none 0 0) := (blk_cell K8z.out 1).trans rfl
                  have z2 : wz.cell? ⟨g8, 2, none⟩ = some (.slice none 0 0) := (blk_cell K8z.out 2).trans rfl
                  have s0 : wz.cell? ⟨g6, 0, none⟩ = some (.slice none 0 0) := (blk_cell K6z.out 0).trans rfl
                  have s1 : wz.cell? ⟨g6, 1, none⟩ = some (.slice none 0 0) := (blk_cell K6z.out 1).trans rfl
                  have s2 : wz.cell? ⟨g6, 2, none⟩ = some (.slice none 0 0) := (blk_cell K6z.out 2).trans rfl
                  have sf0 : wz.frozen? ⟨g6, 0, none⟩ = false := blk_frozen K6z.out 0
                  have sf1 : wz.frozen? ⟨g6, 1, none⟩ = false := blk_frozen K6z.out 1
                  have sf2 : wz.frozen? ⟨g6, 2, none⟩ = false := blk_frozen K6z.out 2
                  have n68 : g6 ≠ g8 := by have := HG.out; omega
                  have n86 := n68.symm
                  have k0 := blk_put K6z.out 0 (.slice none 0 0) (show _ = #[.slice none 0 0, .slice none 0 0, .slice none 0 0] from rfl)
                  have k1 := blk_put k0 1 (.slice none 0 0) (show _ = #[.slice none 0 0, .slice none 0 0, .slice none 0 0] from rfl)
                  obtain ⟨wf, hwf⟩ : ∃ wf : World, wf = ((((wz.setCell ⟨g6, 0, none⟩ (.slice none 0 0)).setCell ⟨g6, 1, none⟩ (.slice none 0 0)).setCell ⟨g6, 2, none⟩ (.slice none 0 0))).drew := ⟨_, rfl⟩
                  have K6f : Aside0 (wf.heap[g6]? = some (.cells #[.slice none 0 0, .slice none 0 0, .slice none 0 0] 40 (0, 0))) := ⟨by rw [hwf]; exact blk_put k1 2 (Value.slice none 0 0) rfl⟩
                  have HBf : Aside0 (Below w.heap.size w wf) := ⟨by rw [hwf]; exact below_drew1 (((HBz0.out.setCell (p := ⟨g6, 0, none⟩) HG.out.1 _).setCell (p := ⟨g6, 1, none⟩) HG.out.1 _).setCell (p := ⟨g6, 2, none⟩) HG.out.1 _)⟩
                  have HWF := Aside0.mk hwf
                  clear hwf
                  clear k0 k1
                  go_big_region
                  go_wp2_with fail
                  clear s0 s1 s2 sf0 sf1 sf2 z0 z1 z2 z12
                  rw [← HWF.out]
                  clear HWF
                  have s0 : wf.cell? ⟨g6, 0, none⟩ = some (.slice none 0 0) := (blk_cell K6f.out 0).trans rfl
                  have s1 : wf.cell? ⟨g6, 1, none⟩ = some (.slice none 0 0) := (blk_cell K6f.out 1).trans rfl
                  have s2 : wf.cell? ⟨g6, 2, none⟩ = some (.slice none 0 0) := (blk_cell K6f.out 2).trans rfl
                  exact bodyPost_ret (v := .tuple #[.agg #[.slice none 0 0, .slice none 0 0, .slice none 0 0], .int .i64 E3]) (by simp [results, Try.results54, go_sem, *]) rfl ⟨⟨[], [], []⟩, none, 0, none, 0, none, 0, E3, rfl, HBf.out, ConR.nil _ _, fun h => absurd h HE.out⟩
              · have t2 : (wd.f0.toList == name.toList) = false := beq_eq_false_iff_ne.mpr hd
                have t3 : (wd.f0.toList != name.toList) = true := bne_iff_ne.mpr hd
                clear hd
                go_wp2_with fail
                go_roundw
                case rel => exact ⟨j + 1, by omega, by go_num, HBd, K6d, K8d⟩
                case measure => simp [intOf]; omega
            · obtain rfl : j = Q.f4.length := by omega
              go_upto_region 26 with fail
              clear y4
              have z0 : wr.cell? ⟨g8, 0, none⟩ = some (.slice none 0 0) := (blk_cell K8.out 0).trans rfl
              have z1 : wr.cell? ⟨g8, 1, none⟩ = some (.slice none 0 0) := (blk_cell K8.out 1).trans rfl
              have z2 : wr.cell? ⟨g8, 2, none⟩ = some (.slice none 0 0) := (blk_cell K8.out 2).trans rfl
              have s0 : wr.cell? ⟨g6, 0, none⟩ = some (.slice none 0 0) := (blk_cell K6.out 0).trans rfl
              have s1 : wr.cell? ⟨g6, 1, none⟩ = some (.slice none 0 0) := (blk_cell K6.out 1).trans rfl
              have s2 : wr.cell? ⟨g6, 2, none⟩ = some (.slice none 0 0) := (blk_cell K6.out 2).trans rfl
              have sf0 : wr.frozen? ⟨g6, 0, none⟩ = false := blk_frozen K6.out 0
              have sf1 : wr.frozen? ⟨g6, 1, none⟩ = false := blk_frozen K6.out 1
              have sf2 : wr.frozen? ⟨g6, 2, none⟩ = false := blk_frozen K6.out 2
              have n68 : g6 ≠ g8 := by have := HG.out; omega
              have n86 := n68.symm
              have k0 := blk_put K6.out 0 (.slice none 0 0) (show _ = #[.slice none 0 0, .slice none 0 0, .slice none 0 0] from rfl)
              have k1 := blk_put k0 1 (.slice none 0 0) (show _ = #[.slice none 0 0, .slice none 0 0, .slice none 0 0] from rfl)
              have K6z := Aside0.mk (blk_put k1 2 (.slice none 0 0) (show _ = #[.slice none 0 0, .slice none 0 0, .slice none 0 0] from rfl))
              have HBz := Aside0.mk ((((HB.out).setCell (p := ⟨g6, 0, none⟩) HG.out.1 (.slice none 0 0)).setCell (p := ⟨g6, 1, none⟩) HG.out.1 (.slice none 0 0)).setCell (p := ⟨g6, 2, none⟩) HG.out.1 (.slice none 0 0))
              clear k0 k1
              go_wp2_with fail
              clear s0 s1 s2 sf0 sf1 sf2 z0 z1 z2
              obtain ⟨wf, hwf⟩ : ∃ wf : World, wf = (((wr.setCell ⟨g6, 0, none⟩ (.slice none 0 0)).setCell ⟨g6, 1, none⟩ (.slice none 0 0)).setCell ⟨g6, 2, none⟩ (.slice none 0 0)) := ⟨_, rfl⟩
              rw [← hwf] at K6z HBz ⊢
              clear hwf
              have s0 : wf.cell? ⟨g6, 0, none⟩ = some (.slice none 0 0) := (blk_cell K6z.out 0).trans rfl
              have s1 : wf.cell? ⟨g6, 1, none⟩ = some (.slice none 0 0) := (blk_cell K6z.out 1).trans rfl
              have s2 : wf.cell? ⟨g6, 2, none⟩ = some (.slice none 0 0) := (blk_cell K6z.out 2).trans rfl
              exact bodyPost_ret (v := .tuple #[.agg #[.slice none 0 0, .slice none 0 0, .slice none 0 0], .int .i64 11]) (by simp [results, Try.results54, go_sem, *]) rfl ⟨⟨[], [], []⟩, none, 0, none, 0, none, 0, 11, rfl, HBz.out, ConR.nil _ _, fun h => by cases h⟩
end Go.Proofs.Ytmpmcffhlnlejaa.Mkr
end
section
namespace Go.Proofs.Ytmpmcffhlnlejaa.Slf
open Go.RowKit Go.Proofs.YtmpmcffhlnlejaaW.PrintWords Go.Proofs.YtmpmcffhlnlejaaW.PrintLast Go.Proofs.YtmpmcffhlnlejaaW.PrintMore
open Go.Proofs.Ytmpmcffhlnlejaa.SubEq Go.Proofs.Ytmpmcffhlnlejaa.Mkr
open Go.Proofs.Ytmpmcffhlnlejaa.PSubSelf (S120 k120)
open Go.Proofs.Ytmpmcffhlnlejaa.Wld (SmP)
set_option linter.unusedVariables false
set_option linter.unusedSimpArgs false
def OfOk (w : World) (r : Ending) (w' : World) : Prop :=
  ∃ (a : Con) (A1 : Option Addr) (c1 : Nat) (A2 : Option Addr) (c2 : Nat) (A3 : Option Addr) (c3 : Nat) (b : Bool),
    r = .returned (.tuple #[.agg #[.slice A1 a.res.length c1, .slice A2 a.ins.length c2, .slice A3 a.outs.length c3], .bool b]) ∧ Below w.heap.size w w' ∧ ConR w' w.heap.size a A1 c1 A2 c2 A3 c3 ∧ (b = true → GoodC a)
theorem C_take {α : Type} {d : Kd α} {w : World} {A : Option Addr} {l : List α} (h : d.C w A l.length l) (k : Nat) (hk : k ≤ l.length) : d.C w A (l.take k).length (l.take k) := by
  obtain ⟨h1, h2, h3⟩ := h
  have hl : (l.take k).length = k := by rw [List.length_take]; omega
  refine ⟨rfl, by omega, fun hp => ?_⟩
  obtain ⟨ad, e, hx⟩ := h3 (by omega)
  refine ⟨ad, e, fun j q hj => hx j q ?_⟩
  rw [List.getElem?_take] at hj
  split at hj
  · exact hj
  · cases hj
set_option maxHeartbeats 8000000 in
set_option maxRecDepth 100000 in
theorem of_any {P : List S120} {A : Option Addr} (c : Nat) {w : World} (hP : k120.C w A P.length P) (hsm : ∀ q ∈ P, SmP q) (pkg : Int) (name : ByteArray) (hc : P.length ≤ c) :
    Calls Try.prog 21 #[.slice A P.length c, .int .i64 pkg, .string name] w (OfOk w) := by
  have HP := Aside0.mk hP
  have HSM := Aside0.mk hsm
  have hPl : P.length ≤ 9223372036854775807 := hP.2.1
  clear hP hsm
  have HB0 : Aside0 (Below w.heap.size w (w.alloc (.cells #[.slice none 0 0, .slice none 0 0, .slice none 0 0] 40))) := ⟨below_alloc (Below.refl _ _) _⟩
  have K6 : Aside0 ((w.alloc (.cells #[.slice none 0 0, .slice none 0 0, .slice none 0 0] 40)).heap[w.heap.size]? = some (.cells #[.slice none 0 0, .slice none 0 0, .slice none 0 0] 40 (0, 0))) := ⟨blk_new w _⟩
  go_enter Try.func21, Try.ntmps21
  by_cases h5 : 5 < P.length
  · have e1 : decide ((5 : Int) < (P.length : Int)) = true := decide_eq_true (by omega)
    have e2 : (5 : Int) ≤ (P.length : Int) := by omega
    have e3 : (5 : Int) ≤ (c : Int) := by omega
    go_wp2_with fail
    clear e1 e2 e3
    obtain ⟨wb, hwb⟩ : ∃ wb : World, wb = w.alloc (.cells #[.slice none 0 0, .slice none 0 0, .slice none 0 0] 40) := ⟨_, rfl⟩
    rw [← hwb] at HB0 K6 ⊢
    clear hwb
    have hl5 : (P.take 5).length = 5 := by rw [List.length_take]; omega
    have HWC := world_any c (Kd.C_below (C_take HP.out 5 (by omega)) HB0.out) (fun q hq => HSM.out q (List.mem_of_mem_take hq)) (by omega) pkg name; rw [hl5] at HWC
    refine HWC.mono ?_
    rintro e w1 ⟨a, A1, c1, A2, c2, A3, c3, e0, rfl, hb, hc, hg⟩
    have HB1 := Aside0.mk (below_step HB0.out hb)
    have K6b := Aside0.mk (blk_below K6.out hb)
    have HBo := Aside0.mk (below_alloc HB1.out (.cells #[.slice A1 a.res.length c1, .slice A2 a.ins.length c2, .slice A3 a.outs.length c3] 40))
    have HCo := Aside0.mk ((hc.lower HB0.out.size).below (below_alloc (Below.refl _ _) (.cells #[.slice A1 a.res.length c1, .slice A2 a.ins.length c2, .slice A3 a.outs.length c3] 40)))
    have K6o := Aside0.mk (blk_alloc K6b.out (.cells #[.slice A1 a.res.length c1, .slice A2 a.ins.length c2, .slice A3 a.outs.length c3] 40))
    have K8o := Aside0.mk (blk_new w1 (.cells #[.slice A1 a.res.length c1, .slice A2 a.ins.length c2, .slice A3 a.outs.length c3] 40))
    have HG := Aside0.mk hg
    have n68 : w.heap.size ≠ w1.heap.size := by have := blk_lt K6b.out; omega
    have n86 := n68.symm
    have z0 : (w1.alloc (.cells #[.slice A1 a.res.length c1, .slice A2 a.ins.length c2, .slice A3 a.outs.length c3] 40)).cell? ⟨w1.heap.size, 0, none⟩ = some (.slice A1 a.res.length c1) := (blk_cell K8o.out 0).trans rfl
    have z1 : (w1.alloc (.cells #[.slice A1 a.res.length c1, .slice A2 a.ins.length c2, .slice A3 a.outs.length c3] 40)).cell? ⟨w1.heap.size, 1, none⟩ = some (.slice A2 a.ins.length c2) := (blk_cell K8o.out 1).trans rfl
    have z2 : (w1.alloc (.cells #[.slice A1 a.res.length c1, .slice A2 a.ins.length c2, .slice A3 a.outs.length c3] 40)).cell? ⟨w1.heap.size, 2, none⟩ = some (.slice A3 a.outs.length c3) := (blk_cell K8o.out 2).trans rfl
    have s0 : (w1.alloc (.cells #[.slice A1 a.res.length c1, .slice A2 a.ins.length c2, .slice A3 a.outs.length c3] 40)).cell? ⟨w.heap.size, 0, none⟩ = some (.slice none 0 0) := (blk_cell K6o.out 0).trans rfl
    have s1 : (w1.alloc (.cells #[.slice A1 a.res.length c1, .slice A2 a.ins.length c2, .slice A3 a.outs.length c3] 40)).cell? ⟨w.heap.size, 1, none⟩ = some (.slice none 0 0) := (blk_cell K6o.out 1).trans rfl
    have s2 : (w1.alloc (.cells #[.slice A1 a.res.length c1, .slice A2 a.ins.length c2, .slice A3 a.outs.length c3] 40)).cell? ⟨w.heap.size, 2, none⟩ = some (.slice none 0 0) := (blk_cell K6o.out 2).trans rfl
    have sf0 : (w1.alloc (.cells #[.slice A1 a.res.length c1, .slice A2 a.ins.length c2, .slice A3 a.outs.length c3] 40)).frozen? ⟨w.heap.size, 0, none⟩ = false := blk_frozen K6o.out 0
    have sf1 : (w1.alloc (.cells #[.slice A1 a.res.length c1, .slice A2 a.ins.length c2, .slice A3 a.outs.length c3] 40)).frozen? ⟨w.heap.size, 1, none⟩ = false := blk_frozen K6o.out 1
    have sf2 : (w1.alloc (.cells #[.slice A1 a.res.length c1, .slice A2 a.ins.length c2, .slice A3 a.outs.length c3] 40)).frozen? ⟨w.heap.size, 2, none⟩ = false := blk_frozen K6o.out 2
    clear hb hc hg HB0 K6
    have k0 := blk_put K6o.out 0 (.slice A1 a.res.length c1) (show _ = #[.slice A1 a.res.length c1, .slice none 0 0, .slice none 0 0] from rfl)
    have k1 := blk_put k0 1 (.slice A2 a.ins.length c2) (show _ = #[.slice A1 a.res.length c1, .slice A2 a.ins.length c2, .slice none 0 0] from rfl)
    have K6f := Aside0.mk (blk_put k1 2 (.slice A3 a.outs.length c3) (show _ = #[.slice A1 a.res.length c1, .slice A2 a.ins.length c2, .slice A3 a.outs.length c3] from rfl))
    have HBf := Aside0.mk (((HBo.out.setCell (p := ⟨w.heap.size, 0, none⟩) (Nat.le_refl _) (.slice A1 a.res.length c1)).setCell (p := ⟨w.heap.size, 1, none⟩) (Nat.le_refl _) (.slice A2 a.ins.length c2)).setCell (p := ⟨w.heap.size, 2, none⟩) (Nat.le_refl _) (.slice A3 a.outs.length c3))
    have HCf := Aside0.mk (((HCo.out.set K6o.out 0 (.slice A1 a.res.length c1)).set k0 1 (.slice A2 a.ins.length c2)).set k1 2 (.slice A3 a.outs.length c3))
    clear k0 k1
    go_wp2_with fail
    clear z0 z1 z2 s0 s1 s2 sf0 sf1 sf2
    obtain ⟨wf, hwf⟩ : ∃ wf : World, wf = ((((w1.alloc (.cells #[.slice A1 a.res.length c1, .slice A2 a.ins.length c2, .slice A3 a.outs.length c3] 40)).setCell ⟨w.heap.size, 0, none⟩ (.slice A1 a.res.length c1)).setCell ⟨w.heap.size, 1, none⟩ (.slice A2 a.ins.length c2)).setCell ⟨w.heap.size, 2, none⟩ (.slice A3 a.outs.length c3)) := ⟨_, rfl⟩
    rw [← hwf] at K6f HBf HCf ⊢
    clear hwf
    have s0 : wf.cell? ⟨w.heap.size, 0, none⟩ = some (.slice A1 a.res.length c1) := (blk_cell K6f.out 0).trans rfl
    have s1 : wf.cell? ⟨w.heap.size, 1, none⟩ = some (.slice A2 a.ins.length c2) := (blk_cell K6f.out 1).trans rfl
    have s2 : wf.cell? ⟨w.heap.size, 2, none⟩ = some (.slice A3 a.outs.length c3) := (blk_cell K6f.out 2).trans rfl
    exact bodyPost_ret (v := .tuple #[.agg #[.slice A1 a.res.length c1, .slice A2 a.ins.length c2, .slice A3 a.outs.length c3], .bool (e0 == 0)]) (by simp [results, Try.results21, go_sem, *]) rfl ⟨a, A1, c1, A2, c2, A3, c3, e0 == 0, rfl, HBf.out, HCf.out, fun h => HG.out (by simpa using h)⟩
  · have e1 : decide ((5 : Int) < (P.length : Int)) = false := decide_eq_false (by omega)
    go_wp2_with fail
    clear e1
    obtain ⟨wb, hwb⟩ : ∃ wb : World, wb = w.alloc (.cells #[.slice none 0 0, .slice none 0 0, .slice none 0 0] 40) := ⟨_, rfl⟩
    rw [← hwb] at HB0 K6 ⊢
    clear hwb
    have HWC := world_any c (Kd.C_below HP.out HB0.out) HSM.out (by omega) pkg name
    refine HWC.mono ?_
    rintro e w1 ⟨a, A1, c1, A2, c2, A3, c3, e0, rfl, hb, hc, hg⟩
    have HB1 := Aside0.mk (below_step HB0.out hb)
    have K6b := Aside0.mk (blk_below K6.out hb)
    have HBo := Aside0.mk (below_alloc HB1.out (.cells #[.slice A1 a.res.length c1, .slice A2 a.ins.length c2, .slice A3 a.outs.length c3] 40))
    have HCo := Aside0.mk ((hc.lower HB0.out.size).below (below_alloc (Below.refl _ _) (.cells #[.slice A1 a.res.length c1, .slice A2 a.ins.length c2, .slice A3 a.outs.length c3] 40)))
    have K6o := Aside0.mk (blk_alloc K6b.out (.cells #[.slice A1 a.res.length c1, .slice A2 a.ins.length c2, .slice A3 a.outs.length c3] 40))
    have K8o := Aside0.mk (blk_new w1 (.cells #[.slice A1 a.res.length c1, .slice A2 a.ins.length c2, .slice A3 a.outs.length c3] 40))
    have HG := Aside0.mk hg
    have n68 : w.heap.size ≠ w1.heap.size := by have := blk_lt K6b.out; omega
    have n86 := n68.symm
    have z0 : (w1.alloc (.cells #[.slice A1 a.res.length c1, .slice A2 a.ins.length c2, .slice A3 a.outs.length c3] 40)).cell? ⟨w1.heap.size, 0, none⟩ = some (.slice A1 a.res.length c1) := (blk_cell K8o.out 0).trans rfl
    have z1 : (w1.alloc (.cells #[.slice A1 a.res.length c1, .slice A2 a.ins.length c2, .slice A3 a.outs.length c3] 40)).cell? ⟨w1.heap.size, 1, none⟩ = some (.slice A2 a.ins.length c2) := (blk_cell K8o.out 1).trans rfl
    have z2 : (w1.alloc (.cells #[.slice A1 a.res.length c1, .slice A2 a.ins.length c2, .slice A3 a.outs.length c3] 40)).cell? ⟨w1.heap.size, 2, none⟩ = some (.slice A3 a.outs.length c3) := (blk_cell K8o.out 2).trans rfl
    have s0 : (w1.alloc (.cells #[.slice A1 a.res.length c1, .slice A2 a.ins.length c2, .slice A3 a.outs.length c3] 40)).cell? ⟨w.heap.size, 0, none⟩ = some (.slice none 0 0) := (blk_cell K6o.out 0).trans rfl
    have s1 : (w1.alloc (.cells #[.slice A1 a.res.length c1, .slice A2 a.ins.length c2, .slice A3 a.outs.length c3] 40)).cell? ⟨w.heap.size, 1, none⟩ = some (.slice none 0 0) := (blk_cell K6o.out 1).trans rfl
    have s2 : (w1.alloc (.cells #[.slice A1 a.res.length c1, .slice A2 a.ins.length c2, .slice A3 a.outs.length c3] 40)).cell? ⟨w.heap.size, 2, none⟩ = some (.slice none 0 0) := (blk_cell K6o.out 2).trans rfl
    have sf0 : (w1.alloc (.cells #[.slice A1 a.res.length c1, .slice A2 a.ins.length c2, .slice A3 a.outs.length c3] 40)).frozen? ⟨w.heap.size, 0, none⟩ = false := blk_frozen K6o.out 0
    have sf1 : (w1.alloc (.cells #[.slice A1 a.res.length c1, .slice A2 a.ins.length c2, .slice A3 a.outs.length c3] 40)).frozen? ⟨w.heap.size, 1, none⟩ = false := blk_frozen K6o.out 1
    have sf2 : (w1.alloc (.cells #[.slice A1 a.res.length c1, .slice A2 a.ins.length c2, .slice A3 a.outs.length c3] 40)).frozen? ⟨w.heap.size, 2, none⟩ = false := blk_frozen K6o.out 2
    clear hb hc hg HB0 K6
    have k0 := blk_put K6o.out 0 (.slice A1 a.res.length c1) (show _ = #[.slice A1 a.res.length c1, .slice none 0 0, .slice none 0 0] from rfl)
    have k1 := blk_put k0 1 (.slice A2 a.ins.length c2) (show _ = #[.slice A1 a.res.length c1, .slice A2 a.ins.length c2, .slice none 0 0] from rfl)
    have K6f := Aside0.mk (blk_put k1 2 (.slice A3 a.outs.length c3) (show _ = #[.slice A1 a.res.length c1, .slice A2 a.ins.length c2, .slice A3 a.outs.length c3] from rfl))
    have HBf := Aside0.mk (((HBo.out.setCell (p := ⟨w.heap.size, 0, none⟩) (Nat.le_refl _) (.slice A1 a.res.length c1)).setCell (p := ⟨w.heap.size, 1, none⟩) (Nat.le_refl _) (.slice A2 a.ins.length c2)).setCell (p := ⟨w.heap.size, 2, none⟩) (Nat.le_refl _) (.slice A3 a.outs.length c3))
    have HCf := Aside0.mk (((HCo.out.set K6o.out 0 (.slice A1 a.res.length c1)).set k0 1 (.slice A2 a.ins.length c2)).set k1 2 (.slice A3 a.outs.length c3))
    clear k0 k1
    go_wp2_with fail
    clear z0 z1 z2 s0 s1 s2 sf0 sf1 sf2
    obtain ⟨wf, hwf⟩ : ∃ wf : World, wf = ((((w1.alloc (.cells #[.slice A1 a.res.length c1, .slice A2 a.ins.length c2, .slice A3 a.outs.length c3] 40)).setCell ⟨w.heap.size, 0, none⟩ (.slice A1 a.res.length c1)).setCell ⟨w.heap.size, 1, none⟩ (.slice A2 a.ins.length c2)).setCell ⟨w.heap.size, 2, none⟩ (.slice A3 a.outs.length c3)) := ⟨_, rfl⟩
    rw [← hwf] at K6f HBf HCf ⊢
    clear hwf
    have s0 : wf.cell? ⟨w.heap.size, 0, none⟩ = some (.slice A1 a.res.length c1) := (blk_cell K6f.out 0).trans rfl
    have s1 : wf.cell? ⟨w.heap.size, 1, none⟩ = some (.slice A2 a.ins.length c2) := (blk_cell K6f.out 1).trans rfl
    have s2 : wf.cell? ⟨w.heap.size, 2, none⟩ = some (.slice A3 a.outs.length c3) := (blk_cell K6f.out 2).trans rfl
    exact bodyPost_ret (v := .tuple #[.agg #[.slice A1 a.res.length c1, .slice A2 a.ins.length c2, .slice A3 a.outs.length c3], .bool (e0 == 0)]) (by simp [results, Try.results21, go_sem, *]) rfl ⟨a, A1, c1, A2, c2, A3, c3, e0 == 0, rfl, HBf.out, HCf.out, fun h => HG.out (by simpa using h)⟩
end Go.Proofs.Ytmpmcffhlnlejaa.Slf
end
