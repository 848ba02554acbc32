/- A part of the proof of the law that its last file names: texts of this seat's author and of the kit's printer, cut to what the theorem uses. Part 3: Wld2, WldEl. -/
import Derived.Test.YtmpmcffhlnlejaaCs02
section
namespace Go.Proofs.Ytmpmcffhlnlejaa.Wld
open Go.RowKit Go.Proofs.YtmpmcffhlnlejaaW.PrintWords Go.Proofs.YtmpmcffhlnlejaaW.PrintLast Go.Proofs.YtmpmcffhlnlejaaW.PrintMore
open Go.Proofs.Ytmpmcffhlnlejaa.PSubSelf
set_option linter.unusedVariables false
set_option linter.unusedSimpArgs false
/-- A type as it may be written: a name where one is asked for; not too much within. -/
inductive WfT : S25 → Prop
  | mk {x : S25} (hk : 20 ≤ x.f0 → x.f1.length ≠ 0) (hn : x.f1.length ≤ 64) (hl : x.f2.length ≤ 64) (hs : ∀ y ∈ x.f2, WfT y) : WfT x
theorem WfT.kd {x : S25} (h : WfT x) : 20 ≤ x.f0 → x.f1.length ≠ 0 := by cases h; assumption
theorem WfT.nl {x : S25} (h : WfT x) : x.f1.length ≤ 64 := by cases h; assumption
theorem WfT.ll {x : S25} (h : WfT x) : x.f2.length ≤ 64 := by cases h; assumption
theorem WfT.el {x : S25} (h : WfT x) : ∀ y ∈ x.f2, WfT y := by cases h; assumption
/-- Where a type's parts lie. -/
structure TA (w : World) (x : S25) (A1 : Option Addr) (c1 : Nat) (A2 : Option Addr) (c2 : Nat) : Prop where
  n : Kd.string.C w A1 x.f1.length x.f1
  cn : x.f1.length ≤ c1
  l : k25.C w A2 x.f2.length x.f2
  cl : x.f2.length ≤ c2
theorem TA.below {w w' : World} {x : S25} {A1 : Option Addr} {c1 : Nat} {A2 : Option Addr} {c2 : Nat} (h : TA w x A1 c1 A2 c2) (hb : Below w.heap.size w w') : TA w' x A1 c1 A2 c2 :=
  ⟨Kd.C_below h.n hb, h.cn, Kd.C_below h.l hb, h.cl⟩
def tyV (x : S25) (A1 : Option Addr) (c1 : Nat) (A2 : Option Addr) (c2 : Nat) : Value := .agg #[.int .i64 x.f0, .slice A1 x.f1.length c1, .slice A2 x.f2.length c2, .int .i64 x.f3]
def MayOk (x : S25) (w : World) (e : Ending) (w' : World) : Prop := (∃ b : Bool, e = .returned (.bool b) ∧ (b = true → WfT x)) ∧ Below w.heap.size w w'
def May101 (x : S25) : Prop := ∀ (d : Int) (half : Bool) (w : World) (A1 : Option Addr) (c1 : Nat) (A2 : Option Addr) (c2 : Nat), TA w x A1 c1 A2 c2 → Calls Try.prog 101 #[tyV x A1 c1 A2 c2, .int .i64 d, .bool half] w (MayOk x w)
theorem rdT25 {l : List S25} {k : Nat} (hk : k < l.length) : rd_T25 l (k : Int) = l[k] := by simp [rd_T25, List.getD, hk]
theorem wf_none {kd : Int} {ns : List ByteArray} {ls : List S25} {r : Int} (h : noneB kd ns.length ls.length r = true) : WfT ⟨kd, ns, ls, r⟩ := by
  have h' := of_decide_eq_true h
  have h2 : ls = [] := List.eq_nil_of_length_eq_zero h'.2.2.2
  subst h2
  exact .mk (fun h => absurd h (by show ¬ 20 ≤ kd; omega)) (by show ns.length ≤ 64; omega) (by simp) (fun y hy => by simp at hy)
set_option maxHeartbeats 4000000 in
set_option maxRecDepth 100000 in
theorem may_step {x : S25} (ih : ∀ y ∈ x.f2, May101 y) : May101 x := by
  intro d half w A1 c1 A2 c2 hta
  have HT := Aside0.mk hta
  have IH := Aside0.mk ih
  obtain ⟨kd, ns, ls, rr⟩ := x
  clear hta ih
  unfold tyV
  have K0 := blk_new w (.cells #[.int .i64 kd, .slice A1 ns.length c1, .slice A2 ls.length c2, .int .i64 rr] 25)
  have HB0 := Aside0.mk (below_alloc (Below.refl w.heap.size w) (.cells #[.int .i64 kd, .slice A1 ns.length c1, .slice A2 ls.length c2, .int .i64 rr] 25))
  have HK0 := Aside0.mk K0
  have HS : Aside0 (∀ w' : World, w'.heap[w.heap.size]? = (w.alloc (.cells #[.int .i64 kd, .slice A1 ns.length c1, .slice A2 ls.length c2, .int .i64 rr] 25)).heap[w.heap.size]? → w'.cell? ⟨w.heap.size, 0, none⟩ = some (.int .i64 kd) ∧ w'.cell? ⟨w.heap.size, 1, none⟩ = some (.slice A1 ns.length c1) ∧ w'.cell? ⟨w.heap.size, 2, none⟩ = some (.slice A2 ls.length c2) ∧ w'.cell? ⟨w.heap.size, 3, none⟩ = some (.int .i64 rr)) :=
    ⟨fun w' e => by have hq := e.trans K0; exact ⟨(blk_cell hq 0).trans rfl, (blk_cell hq 1).trans rfl, (blk_cell hq 2).trans rfl, (blk_cell hq 3).trans rfl⟩⟩
  clear K0
  have HN := Aside0.mk (fun w => none_any kd A1 ns.length c1 A2 ls.length c2 rr w)
  have HWN := Aside0.mk (fun h => wf_none (kd := kd) (ns := ns) (ls := ls) (r := rr) h)
  have HTn := Aside0.mk HT.out.n
  have HTl := Aside0.mk HT.out.l
  clear HT
  by_cases hc : d < 16 ∧ rr = 0 ∧ ls.length ≤ 64
  · obtain ⟨hc1, rfl, hc3⟩ := hc
    have e1 : decide (16 ≤ d) = false := decide_eq_false (by omega)
    have e3 : decide ((64 : Int) < (ls.length : Int)) = false := decide_eq_false (by omega)
    cases half with
    | false =>
      go_enter Try.func101, Try.ntmps101
      go_wp2_with fail
      clear e1 e3
      obtain ⟨wq, hwq⟩ : ∃ wq : World, wq = w.alloc (.cells #[.int .i64 kd, .slice A1 ns.length c1, .slice A2 ls.length c2, .int .i64 0] 25) := ⟨_, rfl⟩
      have HBq : Aside0 (Below w.heap.size w wq) := ⟨hwq ▸ HB0.out⟩
      have HKq : Aside0 (wq.heap[w.heap.size]? = (w.alloc (.cells #[.int .i64 kd, .slice A1 ns.length c1, .slice A2 ls.length c2, .int .i64 0] 25)).heap[w.heap.size]?) := ⟨by rw [hwq]⟩
      rw [← hwq]
      clear hwq HB0
      go_loopw [7] (fun v7 wr => ∃ k : Nat, k ≤ ls.length ∧ v7 = .int .i64 k ∧ Aside0 (∀ y ∈ ls.take k, WfT y) ∧ Aside0 (Below w.heap.size w wr) ∧ Aside0 (wr.heap[w.heap.size]? = (w.alloc (.cells #[.int .i64 kd, .slice A1 ns.length c1, .slice A2 ls.length c2, .int .i64 0] 25)).heap[w.heap.size]?)) (fun v7 _ => ls.length - (intOf v7).toNat)
      case atStart => exact ⟨0, Nat.zero_le _, rfl, ⟨take_none⟩, HBq, HKq⟩
      case round =>
        clear HBq HKq
        obtain ⟨k, hk, rfl, HA, HB, HK⟩ := hrel
        obtain ⟨z0, z1, z2, z3⟩ := HS.out wr HK.out
        by_cases hlt : k < ls.length
        · obtain ⟨ad, B1, d1, B2, d2, hae, x0, x1, x2, x3, l1, g1, l2, g2⟩ := at_T25 (Kd.C_below HTl.out HB.out) (k : Int) (by omega) (by omega)
          cases hae
          rw [rdT25 hlt] at x0 x1 x2 x3 l1 g1 l2 g2
          rw [Int.toNat_natCast] at x0 x1 x2 x3
          have HI := Aside0.mk (IH.out ls[k] (List.getElem_mem hlt))
          have HW := Aside0.mk (fun h => take_all (P := WfT) HA.out hlt h)
          have HY := Aside0.mk (TA.mk g1 l1 g2 l2)
          have HX : Aside0 (∀ w' : World, Below wr.heap.size wr w' → w'.cell? (ad.add (k * 4)) = some (.int .i64 ls[k].f0) ∧ w'.cell? ⟨(ad.add (k * 4)).block, (ad.add (k * 4)).off + 1, none⟩ = some (.slice B1 ls[k].f1.length d1) ∧ w'.cell? ⟨(ad.add (k * 4)).block, (ad.add (k * 4)).off + 2, none⟩ = some (.slice B2 ls[k].f2.length d2) ∧ w'.cell? ⟨(ad.add (k * 4)).block, (ad.add (k * 4)).off + 3, none⟩ = some (.int .i64 ls[k].f3) ∧ w'.cell? ⟨w.heap.size, 0, none⟩ = some (.int .i64 kd) ∧ w'.cell? ⟨w.heap.size, 2, none⟩ = some (.slice (some ad) ls.length c2)) :=
            ⟨fun w' hb => ⟨(hb.cell (World.block_lt_of_cell? wr _ x0)).trans x0, (hb.cell (World.block_lt_of_cell? wr _ x1)).trans x1, (hb.cell (World.block_lt_of_cell? wr _ x2)).trans x2, (hb.cell (World.block_lt_of_cell? wr _ x3)).trans x3, (hb.cell (World.block_lt_of_cell? wr _ z0)).trans z0, (hb.cell (World.block_lt_of_cell? wr _ z2)).trans z2⟩⟩
          generalize ls[k] = y at *
          clear l1 g1 l2 g2
          have i0 : (0 : Int) ≤ (k : Int) := by omega
          have i1 : (k : Int) < (ls.length : Int) := by omega
          go_wp2_with fail
          go_region_held3 (fun w' => w'.cell? (ad.add (k * 4)) = some (.int .i64 y.f0) ∧ w'.cell? ⟨(ad.add (k * 4)).block, (ad.add (k * 4)).off + 1, none⟩ = some (.slice B1 y.f1.length d1) ∧ w'.cell? ⟨(ad.add (k * 4)).block, (ad.add (k * 4)).off + 2, none⟩ = some (.slice B2 y.f2.length d2) ∧ w'.cell? ⟨(ad.add (k * 4)).block, (ad.add (k * 4)).off + 3, none⟩ = some (.int .i64 y.f3) ∧ w'.cell? ⟨w.heap.size, 0, none⟩ = some (.int .i64 kd) ∧ w'.cell? ⟨w.heap.size, 2, none⟩ = some (.slice (some ad) ls.length c2))
            (first
              | exact HX.out _ (below_drew1 (Below.refl _ _))
              | exact HX.out _ HQ.out)
            (first
              | (go_at_call 101; refine (HI.out _ _ _ B1 d1 B2 d2 (HY.out.below (below_drew1 (Below.refl _ _)))).mono ?_; rintro e w2 ⟨⟨b, rfl, hb⟩, hbl⟩; have HQ := Aside0.mk (below_step (below_drew1 (Below.refl wr.heap.size wr)) hbl); have HBB := Aside0.mk hb; clear hb hbl))
          have HB2 := Aside0.mk (below_step HB.out HQ.out)
          have HK2 := Aside0.mk ((HQ.out.block _ (blk_lt (HK.out.trans HK0.out))).trans HK.out)
          clear x0 x1 x2 x3 z0 z1 z2 z3 HX HB HK
          cases b with
          | false =>
            go_wp2_with fail
            go_ret
            exact ⟨⟨false, rfl, fun h => by cases h⟩, HB2.out⟩
          | true =>
            go_wp2_with fail
            go_roundw
            case rel => exact ⟨k + 1, by omega, by go_num, ⟨HW.out (HBB.out rfl)⟩, HB2, HK2⟩
            case measure => simp [intOf]; omega
        · obtain rfl : k = ls.length := by omega
          have HE := Aside0.mk (take_whole HA.out)
          clear HA hlt hk IH HS HN HWN
          by_cases hy : 20 ≤ kd ∧ kd ≤ 22 ∧ ls.length = 0 ∧ ns.length = 1
          · obtain ⟨hy1, hy2, hy3, hy4⟩ := hy
            have e1 : decide ((1 : Int) ≤ kd) = true := decide_eq_true (by omega)
            have e2 : decide (kd ≤ (11 : Int)) = false := decide_eq_false (by omega)
            have e3 : (kd == 12) = false := beq_eq_false_iff_ne.mpr (by omega)
            have e4 : (kd == 17) = false := beq_eq_false_iff_ne.mpr (by omega)
            have e5 : (kd == 14) = false := beq_eq_false_iff_ne.mpr (by omega)
            have e6 : (kd == 18) = false := beq_eq_false_iff_ne.mpr (by omega)
            have e7 : decide ((20 : Int) ≤ kd) = true := decide_eq_true (by omega)
            have e8 : decide (kd ≤ (22 : Int)) = true := decide_eq_true (by omega)
            have e9 : ((ls.length : Int) == 0) = true := beq_iff_eq.mpr (by omega)
            have e10 : ((ns.length : Int) == 1) = true := beq_iff_eq.mpr (by omega)
            have HY := Aside0.mk (And.intro hy3 hy4)
            have HNC := Aside0.mk (fun w' hb => names_any A1 c1 ns w' (Kd.C_below HTn.out hb) (by omega))
            clear hy1 hy2 hy3 hy4
            go_wp2_with fail
            refine (HNC.out _ HB.out).mono ?_
            rintro e w2 ⟨⟨b, rfl, hb⟩, rfl⟩
            go_wp2_with fail
            go_ret
            have hYY := HY.out
            exact ⟨⟨_, rfl, fun _ => .mk (fun _ => by show ns.length ≠ 0; omega) (by show ns.length ≤ 64; omega) hc3 HE.out⟩, HB.out⟩
          · have HY := Aside0.mk hy
            clear hy
            go_wp2_with fail
            all_goals (try simp only [beq_iff_eq, beq_eq_false_iff_ne, ne_eq] at *)
            all_goals first
              | (go_ret; refine ⟨⟨_, rfl, fun h => .mk (show 20 ≤ kd → ns.length ≠ 0 from ?_) (show ns.length ≤ 64 from ?_) hc3 HE.out⟩, HB.out⟩ <;> (have hYY := HY.out; (try intro hk); first | omega | (simp [*]; done) | (simp at h; done) | (simp at h; omega) | (simp_all; done) | (simp_all; omega)))
              | (exfalso; have hYY := HY.out; first | omega | (simp [*] at hYY; done) | (simp [*] at hYY; omega))
    | true =>
      go_enter Try.func101, Try.ntmps101
      go_wp2_with fail
      refine (HN.out _).mono ?_
      rintro e wq ⟨rfl, hb⟩
      have HBq := Aside0.mk (below_step HB0.out hb)
      have HKq : Aside0 (wq.heap[w.heap.size]? = (w.alloc (.cells #[.int .i64 kd, .slice A1 ns.length c1, .slice A2 ls.length c2, .int .i64 0] 25)).heap[w.heap.size]?) := ⟨hb.block _ (blk_lt HK0.out)⟩
      obtain ⟨z0, z1, z2, z3⟩ := HS.out wq HKq.out
      clear hb HB0
      cases hno : noneB kd ns.length ls.length 0 with
      | true =>
        go_wp2_with fail
        go_ret
        exact ⟨⟨true, rfl, fun _ => HWN.out hno⟩, HBq.out⟩
      | false =>
        clear hno
        go_wp2_with fail
        clear e1 e3 z0 z1 z2 z3
        go_loopw [7] (fun v7 wr => ∃ k : Nat, k ≤ ls.length ∧ v7 = .int .i64 k ∧ Aside0 (∀ y ∈ ls.take k, WfT y) ∧ Aside0 (Below w.heap.size w wr) ∧ Aside0 (wr.heap[w.heap.size]? = (w.alloc (.cells #[.int .i64 kd, .slice A1 ns.length c1, .slice A2 ls.length c2, .int .i64 0] 25)).heap[w.heap.size]?)) (fun v7 _ => ls.length - (intOf v7).toNat)
        case atStart => exact ⟨0, Nat.zero_le _, rfl, ⟨take_none⟩, HBq, HKq⟩
        case round =>
          clear HBq HKq
          obtain ⟨k, hk, rfl, HA, HB, HK⟩ := hrel
          obtain ⟨z0, z1, z2, z3⟩ := HS.out wr HK.out
          by_cases hlt : k < ls.length
          · obtain ⟨ad, B1, d1, B2, d2, hae, x0, x1, x2, x3, l1, g1, l2, g2⟩ := at_T25 (Kd.C_below HTl.out HB.out) (k : Int) (by omega) (by omega)
            cases hae
            rw [rdT25 hlt] at x0 x1 x2 x3 l1 g1 l2 g2
            rw [Int.toNat_natCast] at x0 x1 x2 x3
            have HI := Aside0.mk (IH.out ls[k] (List.getElem_mem hlt))
            have HW := Aside0.mk (fun h => take_all (P := WfT) HA.out hlt h)
            have HY := Aside0.mk (TA.mk g1 l1 g2 l2)
            have HX : Aside0 (∀ w' : World, Below wr.heap.size wr w' → w'.cell? (ad.add (k * 4)) = some (.int .i64 ls[k].f0) ∧ w'.cell? ⟨(ad.add (k * 4)).block, (ad.add (k * 4)).off + 1, none⟩ = some (.slice B1 ls[k].f1.length d1) ∧ w'.cell? ⟨(ad.add (k * 4)).block, (ad.add (k * 4)).off + 2, none⟩ = some (.slice B2 ls[k].f2.length d2) ∧ w'.cell? ⟨(ad.add (k * 4)).block, (ad.add (k * 4)).off + 3, none⟩ = some (.int .i64 ls[k].f3) ∧ w'.cell? ⟨w.heap.size, 0, none⟩ = some (.int .i64 kd) ∧ w'.cell? ⟨w.heap.size, 2, none⟩ = some (.slice (some ad) ls.length c2)) :=
              ⟨fun w' hb => ⟨(hb.cell (World.block_lt_of_cell? wr _ x0)).trans x0, (hb.cell (World.block_lt_of_cell? wr _ x1)).trans x1, (hb.cell (World.block_lt_of_cell? wr _ x2)).trans x2, (hb.cell (World.block_lt_of_cell? wr _ x3)).trans x3, (hb.cell (World.block_lt_of_cell? wr _ z0)).trans z0, (hb.cell (World.block_lt_of_cell? wr _ z2)).trans z2⟩⟩
            generalize ls[k] = y at *
            clear l1 g1 l2 g2
            have i0 : (0 : Int) ≤ (k : Int) := by omega
            have i1 : (k : Int) < (ls.length : Int) := by omega
            go_wp2_with fail
            go_region_held3 (fun w' => w'.cell? (ad.add (k * 4)) = some (.int .i64 y.f0) ∧ w'.cell? ⟨(ad.add (k * 4)).block, (ad.add (k * 4)).off + 1, none⟩ = some (.slice B1 y.f1.length d1) ∧ w'.cell? ⟨(ad.add (k * 4)).block, (ad.add (k * 4)).off + 2, none⟩ = some (.slice B2 y.f2.length d2) ∧ w'.cell? ⟨(ad.add (k * 4)).block, (ad.add (k * 4)).off + 3, none⟩ = some (.int .i64 y.f3) ∧ w'.cell? ⟨w.heap.size, 0, none⟩ = some (.int .i64 kd) ∧ w'.cell? ⟨w.heap.size, 2, none⟩ = some (.slice (some ad) ls.length c2))
              (first
                | exact HX.out _ (below_drew1 (Below.refl _ _))
                | exact HX.out _ HQ.out)
              (first
                | (go_at_call 101; refine (HI.out _ _ _ B1 d1 B2 d2 (HY.out.below (below_drew1 (Below.refl _ _)))).mono ?_; rintro e w2 ⟨⟨b, rfl, hb⟩, hbl⟩; have HQ := Aside0.mk (below_step (below_drew1 (Below.refl wr.heap.size wr)) hbl); have HBB := Aside0.mk hb; clear hb hbl))
            have HB2 := Aside0.mk (below_step HB.out HQ.out)
            have HK2 := Aside0.mk ((HQ.out.block _ (blk_lt (HK.out.trans HK0.out))).trans HK.out)
            clear x0 x1 x2 x3 z0 z1 z2 z3 HX HB HK
            cases b with
            | false =>
              go_wp2_with fail
              go_ret
              exact ⟨⟨false, rfl, fun h => by cases h⟩, HB2.out⟩
            | true =>
              go_wp2_with fail
              go_roundw
              case rel => exact ⟨k + 1, by omega, by go_num, ⟨HW.out (HBB.out rfl)⟩, HB2, HK2⟩
              case measure => simp [intOf]; omega
          · obtain rfl : k = ls.length := by omega
            have HE := Aside0.mk (take_whole HA.out)
            clear HA hlt hk IH HS HN HWN
            by_cases hy : 20 ≤ kd ∧ kd ≤ 22 ∧ ls.length = 0 ∧ ns.length = 1
            · obtain ⟨hy1, hy2, hy3, hy4⟩ := hy
              have e1 : decide ((1 : Int) ≤ kd) = true := decide_eq_true (by omega)
              have e2 : decide (kd ≤ (11 : Int)) = false := decide_eq_false (by omega)
              have e3 : (kd == 12) = false := beq_eq_false_iff_ne.mpr (by omega)
              have e4 : (kd == 17) = false := beq_eq_false_iff_ne.mpr (by omega)
              have e5 : (kd == 14) = false := beq_eq_false_iff_ne.mpr (by omega)
              have e6 : (kd == 18) = false := beq_eq_false_iff_ne.mpr (by omega)
              have e7 : decide ((20 : Int) ≤ kd) = true := decide_eq_true (by omega)
              have e8 : decide (kd ≤ (22 : Int)) = true := decide_eq_true (by omega)
              have e9 : ((ls.length : Int) == 0) = true := beq_iff_eq.mpr (by omega)
              have e10 : ((ns.length : Int) == 1) = true := beq_iff_eq.mpr (by omega)
              have HY := Aside0.mk (And.intro hy3 hy4)
              have HNC := Aside0.mk (fun w' hb => names_any A1 c1 ns w' (Kd.C_below HTn.out hb) (by omega))
              clear hy1 hy2 hy3 hy4
              go_wp2_with fail
              refine (HNC.out _ HB.out).mono ?_
              rintro e w2 ⟨⟨b, rfl, hb⟩, rfl⟩
              go_wp2_with fail
              go_ret
              have hYY := HY.out
              exact ⟨⟨_, rfl, fun _ => .mk (fun _ => by show ns.length ≠ 0; omega) (by show ns.length ≤ 64; omega) hc3 HE.out⟩, HB.out⟩
            · have HY := Aside0.mk hy
              clear hy
              go_wp2_with fail
              all_goals (try simp only [beq_iff_eq, beq_eq_false_iff_ne, ne_eq] at *)
              all_goals first
                | (go_ret; refine ⟨⟨_, rfl, fun h => .mk (show 20 ≤ kd → ns.length ≠ 0 from ?_) (show ns.length ≤ 64 from ?_) hc3 HE.out⟩, HB.out⟩ <;> (have hYY := HY.out; (try intro hk); first | omega | (simp [*]; done) | (simp at h; done) | (simp at h; omega) | (simp_all; done) | (simp_all; omega)))
                | (exfalso; have hYY := HY.out; first | omega | (simp [*] at hYY; done) | (simp [*] at hYY; omega))
  by_cases hd : 16 ≤ d
  · have e1 : decide (16 ≤ d) = true := decide_eq_true hd
    cases half with
    | false =>
      go_enter Try.func101, Try.ntmps101
      go_wp2_with fail
      go_ret
      exact ⟨⟨false, rfl, fun h => by cases h⟩, HB0.out⟩
    | true =>
      go_enter Try.func101, Try.ntmps101
      go_wp2_with fail
      refine (HN.out _).mono ?_
      rintro e wq ⟨rfl, hb⟩
      have HBq := Aside0.mk (below_step HB0.out hb)
      have HKq : Aside0 (wq.heap[w.heap.size]? = (w.alloc (.cells #[.int .i64 kd, .slice A1 ns.length c1, .slice A2 ls.length c2, .int .i64 rr] 25)).heap[w.heap.size]?) := ⟨hb.block _ (blk_lt HK0.out)⟩
      obtain ⟨z0, z1, z2, z3⟩ := HS.out wq HKq.out
      clear hb HB0
      cases hno : noneB kd ns.length ls.length rr with
      | true =>
        go_wp2_with fail
        go_ret
        exact ⟨⟨true, rfl, fun _ => HWN.out hno⟩, HBq.out⟩
      | false =>
        clear hno
        go_wp2_with fail
        go_ret
        exact ⟨⟨false, rfl, fun h => by cases h⟩, HBq.out⟩
  have e1 : decide (16 ≤ d) = false := decide_eq_false hd
  by_cases hr : rr = 0
  · subst hr
    have e3 : decide ((64 : Int) < (ls.length : Int)) = true := decide_eq_true (by omega)
    cases half with
    | false =>
      go_enter Try.func101, Try.ntmps101
      go_wp2_with fail
      go_ret
      exact ⟨⟨false, rfl, fun h => by cases h⟩, HB0.out⟩
    | true =>
      go_enter Try.func101, Try.ntmps101
      go_wp2_with fail
      refine (HN.out _).mono ?_
      rintro e wq ⟨rfl, hb⟩
      have HBq := Aside0.mk (below_step HB0.out hb)
      have HKq : Aside0 (wq.heap[w.heap.size]? = (w.alloc (.cells #[.int .i64 kd, .slice A1 ns.length c1, .slice A2 ls.length c2, .int .i64 0] 25)).heap[w.heap.size]?) := ⟨hb.block _ (blk_lt HK0.out)⟩
      obtain ⟨z0, z1, z2, z3⟩ := HS.out wq HKq.out
      clear hb HB0
      cases hno : noneB kd ns.length ls.length 0 with
      | true =>
        go_wp2_with fail
        go_ret
        exact ⟨⟨true, rfl, fun _ => HWN.out hno⟩, HBq.out⟩
      | false =>
        clear hno
        go_wp2_with fail
        go_ret
        exact ⟨⟨false, rfl, fun h => by cases h⟩, HBq.out⟩
  · have e2 : (rr == 0) = false := beq_eq_false_iff_ne.mpr hr
    have e3 : (rr != 0) = true := by simp [hr]
    cases half with
    | false =>
      go_enter Try.func101, Try.ntmps101
      go_wp2_with fail
      go_ret
      exact ⟨⟨false, rfl, fun h => by cases h⟩, HB0.out⟩
    | true =>
      go_enter Try.func101, Try.ntmps101
      go_wp2_with fail
      refine (HN.out _).mono ?_
      rintro e wq ⟨rfl, hb⟩
      have HBq := Aside0.mk (below_step HB0.out hb)
      have HKq : Aside0 (wq.heap[w.heap.size]? = (w.alloc (.cells #[.int .i64 kd, .slice A1 ns.length c1, .slice A2 ls.length c2, .int .i64 rr] 25)).heap[w.heap.size]?) := ⟨hb.block _ (blk_lt HK0.out)⟩
      obtain ⟨z0, z1, z2, z3⟩ := HS.out wq HKq.out
      clear hb HB0
      cases hno : noneB kd ns.length ls.length rr with
      | true =>
        go_wp2_with fail
        go_ret
        exact ⟨⟨true, rfl, fun _ => HWN.out hno⟩, HBq.out⟩
      | false =>
        clear hno
        go_wp2_with fail
        go_ret
        exact ⟨⟨false, rfl, fun h => by cases h⟩, HBq.out⟩
theorem may_all : ∀ (n : Nat) (x : S25), SizeOf.sizeOf x ≤ n → May101 x
  | 0, x, h => by
    cases x
    simp at h
  | n + 1, x, h => may_step (fun y hy => may_all n y (by
    have h1 := List.sizeOf_lt_of_mem hy
    obtain ⟨kd, ns, ls, rr⟩ := x
    simp at h h1
    omega))
theorem may_any (x : S25) : May101 x := may_all _ x (Nat.le_refl _)
end Go.Proofs.Ytmpmcffhlnlejaa.Wld
end
section
namespace Go.Proofs.Ytmpmcffhlnlejaa.Wld
open Go.RowKit Go.Proofs.YtmpmcffhlnlejaaW.PrintWords Go.Proofs.YtmpmcffhlnlejaaW.PrintLast Go.Proofs.YtmpmcffhlnlejaaW.PrintMore
open Go.Proofs.Ytmpmcffhlnlejaa.PSubSelf
set_option linter.unusedVariables false
set_option linter.unusedSimpArgs false
theorem cell_keep {w w' : World} {a : Addr} {v : Value} (h : w.cell? a = some v) (hb : Below w.heap.size w w') : w'.cell? a = some v := (hb.cell (World.block_lt_of_cell? w _ h)).trans h
theorem rdEl25 {l : List S25} {k : Nat} (hk : k < l.length) : rd_T25 l (k : Int) = l[k] := by simp [rd_T25, List.getD, hk]
theorem el25 {w : World} {A : Option Addr} {l : List S25} (h : Kd.C k25 w A l.length l) {k : Nat} (hk : k < l.length) :
    ∃ ad A1 c1 A2 c2, A = some ad ∧ (∀ w' : World, Below w.heap.size w w' → w'.cell? (ad.add (k * 4)) = some (.int .i64 l[k].f0) ∧ w'.cell? ⟨(ad.add (k * 4)).block, (ad.add (k * 4)).off + 1, none⟩ = some (.slice A1 l[k].f1.length c1) ∧ w'.cell? ⟨(ad.add (k * 4)).block, (ad.add (k * 4)).off + 2, none⟩ = some (.slice A2 l[k].f2.length c2) ∧ w'.cell? ⟨(ad.add (k * 4)).block, (ad.add (k * 4)).off + 3, none⟩ = some (.int .i64 l[k].f3)) ∧ l[k].f1.length ≤ c1 ∧ Kd.string.C w A1 l[k].f1.length l[k].f1 ∧ l[k].f2.length ≤ c2 ∧ k25.C w A2 l[k].f2.length l[k].f2 := by
  obtain ⟨ad, A1, c1, A2, c2, hae, x0, x1, x2, x3, y0, y1, y2, y3⟩ := at_T25 h (k : Int) (by omega) (by omega)
  rw [rdEl25 hk] at x0 x1 x2 x3 y0 y1 y2 y3
  rw [Int.toNat_natCast] at x0 x1 x2 x3
  exact ⟨ad, A1, c1, A2, c2, hae, fun w' hb => ⟨cell_keep x0 hb, cell_keep x1 hb, cell_keep x2 hb, cell_keep x3 hb⟩, y0, y1, y2, y3⟩
theorem rdEl146 {l : List S146} {k : Nat} (hk : k < l.length) : rd_T146 l (k : Int) = l[k] := by simp [rd_T146, List.getD, hk]
theorem el146 {w : World} {A : Option Addr} {l : List S146} (h : Kd.C k146 w A l.length l) {k : Nat} (hk : k < l.length) :
    ∃ ad A2 c2 A3 c3 A5 c5 A6 c6, A = some ad ∧ (∀ w' : World, Below w.heap.size w w' → w'.cell? (ad.add (k * 8)) = some (.string l[k].f0) ∧ w'.cell? ⟨(ad.add (k * 8)).block, (ad.add (k * 8)).off + 1, none⟩ = some (.int .i64 l[k].f1) ∧ w'.cell? ⟨(ad.add (k * 8)).block, (ad.add (k * 8)).off + 2, none⟩ = some (.slice A2 l[k].f2.length c2) ∧ w'.cell? ⟨(ad.add (k * 8)).block, (ad.add (k * 8)).off + 3, none⟩ = some (.slice A3 l[k].f3.length c3) ∧ w'.cell? ⟨(ad.add (k * 8)).block, (ad.add (k * 8)).off + 4, none⟩ = some (.int .i64 l[k].f4.f0) ∧ w'.cell? ⟨(ad.add (k * 8)).block, (ad.add (k * 8)).off + 5, none⟩ = some (.slice A5 l[k].f4.f1.length c5) ∧ w'.cell? ⟨(ad.add (k * 8)).block, (ad.add (k * 8)).off + 6, none⟩ = some (.slice A6 l[k].f4.f2.length c6) ∧ w'.cell? ⟨(ad.add (k * 8)).block, (ad.add (k * 8)).off + 7, none⟩ = some (.int .i64 l[k].f4.f3)) ∧ l[k].f2.length ≤ c2 ∧ Kd.string.C w A2 l[k].f2.length l[k].f2 ∧ l[k].f3.length ≤ c3 ∧ k25.C w A3 l[k].f3.length l[k].f3 ∧ l[k].f4.f1.length ≤ c5 ∧ Kd.string.C w A5 l[k].f4.f1.length l[k].f4.f1 ∧ l[k].f4.f2.length ≤ c6 ∧ k25.C w A6 l[k].f4.f2.length l[k].f4.f2 := by
  obtain ⟨ad, A2, c2, A3, c3, A5, c5, A6, c6, hae, x0, x1, x2, x3, x4, x5, x6, x7, y0, y1, y2, y3, y4, y5, y6, y7⟩ := at_T146 h (k : Int) (by omega) (by omega)
  rw [rdEl146 hk] at x0 x1 x2 x3 x4 x5 x6 x7 y0 y1 y2 y3 y4 y5 y6 y7
  rw [Int.toNat_natCast] at x0 x1 x2 x3 x4 x5 x6 x7
  exact ⟨ad, A2, c2, A3, c3, A5, c5, A6, c6, hae, fun w' hb => ⟨cell_keep x0 hb, cell_keep x1 hb, cell_keep x2 hb, cell_keep x3 hb, cell_keep x4 hb, cell_keep x5 hb, cell_keep x6 hb, cell_keep x7 hb⟩, y0, y1, y2, y3, y4, y5, y6, y7⟩
theorem rdEl151 {l : List S151} {k : Nat} (hk : k < l.length) : rd_T151 l (k : Int) = l[k] := by simp [rd_T151, List.getD, hk]
theorem el151 {w : World} {A : Option Addr} {l : List S151} (h : Kd.C k151 w A l.length l) {k : Nat} (hk : k < l.length) :
    ∃ ad A3 c3 A4 c4, A = some ad ∧ (∀ w' : World, Below w.heap.size w w' → w'.cell? (ad.add (k * 5)) = some (.string l[k].f0.f0) ∧ w'.cell? ⟨(ad.add (k * 5)).block, (ad.add (k * 5)).off + 1, none⟩ = some (.string l[k].f0.f1) ∧ w'.cell? ⟨(ad.add (k * 5)).block, (ad.add (k * 5)).off + 2, none⟩ = some (.string l[k].f0.f2) ∧ w'.cell? ⟨(ad.add (k * 5)).block, (ad.add (k * 5)).off + 3, none⟩ = some (.slice A3 l[k].f1.length c3) ∧ w'.cell? ⟨(ad.add (k * 5)).block, (ad.add (k * 5)).off + 4, none⟩ = some (.slice A4 l[k].f2.length c4)) ∧ l[k].f1.length ≤ c3 ∧ Kd.string.C w A3 l[k].f1.length l[k].f1 ∧ l[k].f2.length ≤ c4 ∧ Kd.string.C w A4 l[k].f2.length l[k].f2 := by
  obtain ⟨ad, A3, c3, A4, c4, hae, x0, x1, x2, x3, x4, y0, y1, y2, y3⟩ := at_T151 h (k : Int) (by omega) (by omega)
  rw [rdEl151 hk] at x0 x1 x2 x3 x4 y0 y1 y2 y3
  rw [Int.toNat_natCast] at x0 x1 x2 x3 x4
  exact ⟨ad, A3, c3, A4, c4, hae, fun w' hb => ⟨cell_keep x0 hb, cell_keep x1 hb, cell_keep x2 hb, cell_keep x3 hb, cell_keep x4 hb⟩, y0, y1, y2, y3⟩
theorem rdEl154 {l : List S154} {k : Nat} (hk : k < l.length) : rd_T154 l (k : Int) = l[k] := by simp [rd_T154, List.getD, hk]
theorem el154 {w : World} {A : Option Addr} {l : List S154} (h : Kd.C k154 w A l.length l) {k : Nat} (hk : k < l.length) :
    ∃ ad A3 c3 A4 c4 A6 c6, A = some ad ∧ (∀ w' : World, Below w.heap.size w w' → w'.cell? (ad.add (k * 7)) = some (.int .i64 l[k].f0) ∧ w'.cell? ⟨(ad.add (k * 7)).block, (ad.add (k * 7)).off + 1, none⟩ = some (.string l[k].f1) ∧ w'.cell? ⟨(ad.add (k * 7)).block, (ad.add (k * 7)).off + 2, none⟩ = some (.int .i64 l[k].f2.f0) ∧ w'.cell? ⟨(ad.add (k * 7)).block, (ad.add (k * 7)).off + 3, none⟩ = some (.slice A3 l[k].f2.f1.length c3) ∧ w'.cell? ⟨(ad.add (k * 7)).block, (ad.add (k * 7)).off + 4, none⟩ = some (.slice A4 l[k].f2.f2.length c4) ∧ w'.cell? ⟨(ad.add (k * 7)).block, (ad.add (k * 7)).off + 5, none⟩ = some (.int .i64 l[k].f2.f3) ∧ w'.cell? ⟨(ad.add (k * 7)).block, (ad.add (k * 7)).off + 6, none⟩ = some (.slice A6 l[k].f3.length c6)) ∧ l[k].f2.f1.length ≤ c3 ∧ Kd.string.C w A3 l[k].f2.f1.length l[k].f2.f1 ∧ l[k].f2.f2.length ≤ c4 ∧ k25.C w A4 l[k].f2.f2.length l[k].f2.f2 ∧ l[k].f3.length ≤ c6 ∧ k146.C w A6 l[k].f3.length l[k].f3 := by
  obtain ⟨ad, A3, c3, A4, c4, A6, c6, hae, x0, x1, x2, x3, x4, x5, x6, y0, y1, y2, y3, y4, y5⟩ := at_T154 h (k : Int) (by omega) (by omega)
  rw [rdEl154 hk] at x0 x1 x2 x3 x4 x5 x6 y0 y1 y2 y3 y4 y5
  rw [Int.toNat_natCast] at x0 x1 x2 x3 x4 x5 x6
  exact ⟨ad, A3, c3, A4, c4, A6, c6, hae, fun w' hb => ⟨cell_keep x0 hb, cell_keep x1 hb, cell_keep x2 hb, cell_keep x3 hb, cell_keep x4 hb, cell_keep x5 hb, cell_keep x6 hb⟩, y0, y1, y2, y3, y4, y5⟩
theorem rdEl157 {l : List S157} {k : Nat} (hk : k < l.length) : rd_T157 l (k : Int) = l[k] := by simp [rd_T157, List.getD, hk]
theorem el157 {w : World} {A : Option Addr} {l : List S157} (h : Kd.C k157 w A l.length l) {k : Nat} (hk : k < l.length) :
    ∃ ad A2 c2 A3 c3 A5 c5 A6 c6, A = some ad ∧ (∀ w' : World, Below w.heap.size w w' → w'.cell? (ad.add (k * 11)) = some (.string l[k].f0.f0) ∧ w'.cell? ⟨(ad.add (k * 11)).block, (ad.add (k * 11)).off + 1, none⟩ = some (.int .i64 l[k].f0.f1) ∧ w'.cell? ⟨(ad.add (k * 11)).block, (ad.add (k * 11)).off + 2, none⟩ = some (.slice A2 l[k].f0.f2.length c2) ∧ w'.cell? ⟨(ad.add (k * 11)).block, (ad.add (k * 11)).off + 3, none⟩ = some (.slice A3 l[k].f0.f3.length c3) ∧ w'.cell? ⟨(ad.add (k * 11)).block, (ad.add (k * 11)).off + 4, none⟩ = some (.int .i64 l[k].f0.f4.f0) ∧ w'.cell? ⟨(ad.add (k * 11)).block, (ad.add (k * 11)).off + 5, none⟩ = some (.slice A5 l[k].f0.f4.f1.length c5) ∧ w'.cell? ⟨(ad.add (k * 11)).block, (ad.add (k * 11)).off + 6, none⟩ = some (.slice A6 l[k].f0.f4.f2.length c6) ∧ w'.cell? ⟨(ad.add (k * 11)).block, (ad.add (k * 11)).off + 7, none⟩ = some (.int .i64 l[k].f0.f4.f3) ∧ w'.cell? ⟨(ad.add (k * 11)).block, (ad.add (k * 11)).off + 8, none⟩ = some (.string l[k].f1.f0) ∧ w'.cell? ⟨(ad.add (k * 11)).block, (ad.add (k * 11)).off + 9, none⟩ = some (.string l[k].f1.f1) ∧ w'.cell? ⟨(ad.add (k * 11)).block, (ad.add (k * 11)).off + 10, none⟩ = some (.string l[k].f1.f2)) ∧ l[k].f0.f2.length ≤ c2 ∧ Kd.string.C w A2 l[k].f0.f2.length l[k].f0.f2 ∧ l[k].f0.f3.length ≤ c3 ∧ k25.C w A3 l[k].f0.f3.length l[k].f0.f3 ∧ l[k].f0.f4.f1.length ≤ c5 ∧ Kd.string.C w A5 l[k].f0.f4.f1.length l[k].f0.f4.f1 ∧ l[k].f0.f4.f2.length ≤ c6 ∧ k25.C w A6 l[k].f0.f4.f2.length l[k].f0.f4.f2 := by
  obtain ⟨ad, A2, c2, A3, c3, A5, c5, A6, c6, hae, x0, x1, x2, x3, x4, x5, x6, x7, x8, x9, x10, y0, y1, y2, y3, y4, y5, y6, y7⟩ := at_T157 h (k : Int) (by omega) (by omega)
  rw [rdEl157 hk] at x0 x1 x2 x3 x4 x5 x6 x7 x8 x9 x10 y0 y1 y2 y3 y4 y5 y6 y7
  rw [Int.toNat_natCast] at x0 x1 x2 x3 x4 x5 x6 x7 x8 x9 x10
  exact ⟨ad, A2, c2, A3, c3, A5, c5, A6, c6, hae, fun w' hb => ⟨cell_keep x0 hb, cell_keep x1 hb, cell_keep x2 hb, cell_keep x3 hb, cell_keep x4 hb, cell_keep x5 hb, cell_keep x6 hb, cell_keep x7 hb, cell_keep x8 hb, cell_keep x9 hb, cell_keep x10 hb⟩, y0, y1, y2, y3, y4, y5, y6, y7⟩
theorem rdEl142 {l : List S142} {k : Nat} (hk : k < l.length) : rd_T142 l (k : Int) = l[k] := by simp [rd_T142, List.getD, hk]
theorem el142 {w : World} {A : Option Addr} {l : List S142} (h : Kd.C k142 w A l.length l) {k : Nat} (hk : k < l.length) :
    ∃ ad A1 c1 A2 c2 A3 c3, A = some ad ∧ (∀ w' : World, Below w.heap.size w w' → w'.cell? (ad.add (k * 4)) = some (.string l[k].f0) ∧ w'.cell? ⟨(ad.add (k * 4)).block, (ad.add (k * 4)).off + 1, none⟩ = some (.slice A1 l[k].f1.length c1) ∧ w'.cell? ⟨(ad.add (k * 4)).block, (ad.add (k * 4)).off + 2, none⟩ = some (.slice A2 l[k].f2.length c2) ∧ w'.cell? ⟨(ad.add (k * 4)).block, (ad.add (k * 4)).off + 3, none⟩ = some (.slice A3 l[k].f3.length c3)) ∧ l[k].f1.length ≤ c1 ∧ k151.C w A1 l[k].f1.length l[k].f1 ∧ l[k].f2.length ≤ c2 ∧ k154.C w A2 l[k].f2.length l[k].f2 ∧ l[k].f3.length ≤ c3 ∧ k146.C w A3 l[k].f3.length l[k].f3 := by
  obtain ⟨ad, A1, c1, A2, c2, A3, c3, hae, x0, x1, x2, x3, y0, y1, y2, y3, y4, y5⟩ := at_T142 h (k : Int) (by omega) (by omega)
  rw [rdEl142 hk] at x0 x1 x2 x3 y0 y1 y2 y3 y4 y5
  rw [Int.toNat_natCast] at x0 x1 x2 x3
  exact ⟨ad, A1, c1, A2, c2, A3, c3, hae, fun w' hb => ⟨cell_keep x0 hb, cell_keep x1 hb, cell_keep x2 hb, cell_keep x3 hb⟩, y0, y1, y2, y3, y4, y5⟩
theorem rdEl125 {l : List S125} {k : Nat} (hk : k < l.length) : rd_T125 l (k : Int) = l[k] := by simp [rd_T125, List.getD, hk]
theorem el125 {w : World} {A : Option Addr} {l : List S125} (h : Kd.C k125 w A l.length l) {k : Nat} (hk : k < l.length) :
    ∃ ad A1 c1 A2 c2 A3 c3 A4 c4, A = some ad ∧ (∀ w' : World, Below w.heap.size w w' → w'.cell? (ad.add (k * 5)) = some (.string l[k].f0) ∧ w'.cell? ⟨(ad.add (k * 5)).block, (ad.add (k * 5)).off + 1, none⟩ = some (.slice A1 l[k].f1.length c1) ∧ w'.cell? ⟨(ad.add (k * 5)).block, (ad.add (k * 5)).off + 2, none⟩ = some (.slice A2 l[k].f2.length c2) ∧ w'.cell? ⟨(ad.add (k * 5)).block, (ad.add (k * 5)).off + 3, none⟩ = some (.slice A3 l[k].f3.length c3) ∧ w'.cell? ⟨(ad.add (k * 5)).block, (ad.add (k * 5)).off + 4, none⟩ = some (.slice A4 l[k].f4.length c4)) ∧ l[k].f1.length ≤ c1 ∧ k151.C w A1 l[k].f1.length l[k].f1 ∧ l[k].f2.length ≤ c2 ∧ k154.C w A2 l[k].f2.length l[k].f2 ∧ l[k].f3.length ≤ c3 ∧ k157.C w A3 l[k].f3.length l[k].f3 ∧ l[k].f4.length ≤ c4 ∧ k157.C w A4 l[k].f4.length l[k].f4 := by
  obtain ⟨ad, A1, c1, A2, c2, A3, c3, A4, c4, hae, x0, x1, x2, x3, x4, y0, y1, y2, y3, y4, y5, y6, y7⟩ := at_T125 h (k : Int) (by omega) (by omega)
  rw [rdEl125 hk] at x0 x1 x2 x3 x4 y0 y1 y2 y3 y4 y5 y6 y7
  rw [Int.toNat_natCast] at x0 x1 x2 x3 x4
  exact ⟨ad, A1, c1, A2, c2, A3, c3, A4, c4, hae, fun w' hb => ⟨cell_keep x0 hb, cell_keep x1 hb, cell_keep x2 hb, cell_keep x3 hb, cell_keep x4 hb⟩, y0, y1, y2, y3, y4, y5, y6, y7⟩
theorem rdEl120 {l : List S120} {k : Nat} (hk : k < l.length) : rd_T120 l (k : Int) = l[k] := by simp [rd_T120, List.getD, hk]
theorem el120 {w : World} {A : Option Addr} {l : List S120} (h : Kd.C k120 w A l.length l) {k : Nat} (hk : k < l.length) :
    ∃ ad A3 c3 A4 c4, A = some ad ∧ (∀ w' : World, Below w.heap.size w w' → w'.cell? (ad.add (k * 5)) = some (.string l[k].f0) ∧ w'.cell? ⟨(ad.add (k * 5)).block, (ad.add (k * 5)).off + 1, none⟩ = some (.string l[k].f1) ∧ w'.cell? ⟨(ad.add (k * 5)).block, (ad.add (k * 5)).off + 2, none⟩ = some (.string l[k].f2) ∧ w'.cell? ⟨(ad.add (k * 5)).block, (ad.add (k * 5)).off + 3, none⟩ = some (.slice A3 l[k].f3.length c3) ∧ w'.cell? ⟨(ad.add (k * 5)).block, (ad.add (k * 5)).off + 4, none⟩ = some (.slice A4 l[k].f4.length c4)) ∧ l[k].f3.length ≤ c3 ∧ k142.C w A3 l[k].f3.length l[k].f3 ∧ l[k].f4.length ≤ c4 ∧ k125.C w A4 l[k].f4.length l[k].f4 := by
  obtain ⟨ad, A3, c3, A4, c4, hae, x0, x1, x2, x3, x4, y0, y1, y2, y3⟩ := at_T120 h (k : Int) (by omega) (by omega)
  rw [rdEl120 hk] at x0 x1 x2 x3 x4 y0 y1 y2 y3
  rw [Int.toNat_natCast] at x0 x1 x2 x3 x4
  exact ⟨ad, A3, c3, A4, c4, hae, fun w' hb => ⟨cell_keep x0 hb, cell_keep x1 hb, cell_keep x2 hb, cell_keep x3 hb, cell_keep x4 hb⟩, y0, y1, y2, y3⟩
end Go.Proofs.Ytmpmcffhlnlejaa.Wld
end
