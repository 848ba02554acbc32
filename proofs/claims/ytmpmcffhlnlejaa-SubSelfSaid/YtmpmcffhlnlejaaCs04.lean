/- A part of the proof of the law that its last file names: texts of this seat's author and of the kit's printer, cut to what the theorem uses. Part 4: Wld3. -/
import Derived.Test.YtmpmcffhlnlejaaCs03
section
namespace Go.Proofs.Ytmpmcffhlnlejaa.Wld
open Go.RowKit Go.Proofs.YtmpmcffhlnlejaaW.PrintWords Go.Proofs.YtmpmcffhlnlejaaW.PrintLast Go.Proofs.YtmpmcffhlnlejaaW.PrintMore
open Go.Proofs.Ytmpmcffhlnlejaa.PSubSelf
set_option linter.unusedVariables false
set_option linter.unusedSimpArgs false
/-- A function as it may be written. -/
structure WfF (f : S146) : Prop where
  pt : f.f2.length = f.f3.length
  pl : f.f2.length ≤ 64
  ts : ∀ t ∈ f.f3, WfT t
  r : WfT f.f4
  nm : f.f0.size ≤ 100
/-- What came in has a size. -/
structure SmF (f : S146) : Prop where
  p : f.f2.length ≤ 140737488351232
structure FA (w : World) (f : S146) (A2 : Option Addr) (c2 : Nat) (A3 : Option Addr) (c3 : Nat) (A5 : Option Addr) (c5 : Nat) (A6 : Option Addr) (c6 : Nat) : Prop where
  p : Kd.string.C w A2 f.f2.length f.f2
  cp : f.f2.length ≤ c2
  t : k25.C w A3 f.f3.length f.f3
  ct : f.f3.length ≤ c3
  r : TA w f.f4 A5 c5 A6 c6
theorem FA.below {w w' : World} {f : S146} {A2 : Option Addr} {c2 : Nat} {A3 : Option Addr} {c3 : Nat} {A5 : Option Addr} {c5 : Nat} {A6 : Option Addr} {c6 : Nat} (h : FA w f A2 c2 A3 c3 A5 c5 A6 c6) (hb : Below w.heap.size w w') : FA w' f A2 c2 A3 c3 A5 c5 A6 c6 :=
  ⟨Kd.C_below h.p hb, h.cp, Kd.C_below h.t hb, h.ct, h.r.below hb⟩
def fnC (f : S146) (A2 : Option Addr) (c2 : Nat) (A3 : Option Addr) (c3 : Nat) (A5 : Option Addr) (c5 : Nat) (A6 : Option Addr) (c6 : Nat) : Array Value :=
  #[.string f.f0, .int .i64 f.f1, .slice A2 f.f2.length c2, .slice A3 f.f3.length c3, .int .i64 f.f4.f0, .slice A5 f.f4.f1.length c5, .slice A6 f.f4.f2.length c6, .int .i64 f.f4.f3]
def FuncOk (f : S146) (w : World) (e : Ending) (w' : World) : Prop := (∃ b : Bool, e = .returned (.bool b) ∧ (b = true → WfF f)) ∧ Below w.heap.size w w'
theorem size_nil {s : ByteArray} (h : s.toList = []) : s.size = 0 := by
  rw [ByteArray.toList_eq] at h
  have h2 : s.data.toList.length = s.size := Array.length_toList
  rw [h] at h2
  exact h2.symm
set_option maxHeartbeats 4000000 in
set_option maxRecDepth 100000 in
theorem func_any (f : S146) (hsm : SmF f) (w : World) (A2 : Option Addr) (c2 : Nat) (A3 : Option Addr) (c3 : Nat) (A5 : Option Addr) (c5 : Nat) (A6 : Option Addr) (c6 : Nat) (h : FA w f A2 c2 A3 c3 A5 c5 A6 c6) :
    Calls Try.prog 87 #[.agg (fnC f A2 c2 A3 c3 A5 c5 A6 c6)] w (FuncOk f w) := by
  obtain ⟨nm, kd, ps, ts, ⟨rk, rn, rl, rr⟩⟩ := f
  have hps : ps.length ≤ 140737488351232 := hsm.p
  have Hp : Aside0 (Kd.string.C w A2 ps.length ps) := ⟨h.p⟩
  have Ht : Aside0 (k25.C w A3 ts.length ts) := ⟨h.t⟩
  have Hr : Aside0 (TA w ⟨rk, rn, rl, rr⟩ A5 c5 A6 c6) := ⟨h.r⟩
  clear h hsm
  unfold fnC
  have HB0 := Aside0.mk (below_alloc (Below.refl w.heap.size w) (.cells #[.string nm, .int .i64 kd, .slice A2 ps.length c2, .slice A3 ts.length c3, .int .i64 rk, .slice A5 rn.length c5, .slice A6 rl.length c6, .int .i64 rr] 146))
  have HK0 := Aside0.mk (blk_new w (.cells #[.string nm, .int .i64 kd, .slice A2 ps.length c2, .slice A3 ts.length c3, .int .i64 rk, .slice A5 rn.length c5, .slice A6 rl.length c6, .int .i64 rr] 146))
  have HS : Aside0 (∀ w' : World, w'.heap[w.heap.size]? = some (.cells #[.string nm, .int .i64 kd, .slice A2 ps.length c2, .slice A3 ts.length c3, .int .i64 rk, .slice A5 rn.length c5, .slice A6 rl.length c6, .int .i64 rr] 146 (0, 0)) → w'.cell? ⟨w.heap.size, 0, none⟩ = some (.string nm) ∧ w'.cell? ⟨w.heap.size, 1, none⟩ = some (.int .i64 kd) ∧ w'.cell? ⟨w.heap.size, 2, none⟩ = some (.slice A2 ps.length c2) ∧ w'.cell? ⟨w.heap.size, 3, none⟩ = some (.slice A3 ts.length c3) ∧ w'.cell? ⟨w.heap.size, 4, none⟩ = some (.int .i64 rk) ∧ w'.cell? ⟨w.heap.size, 5, none⟩ = some (.slice A5 rn.length c5) ∧ w'.cell? ⟨w.heap.size, 6, none⟩ = some (.slice A6 rl.length c6) ∧ w'.cell? ⟨w.heap.size, 7, none⟩ = some (.int .i64 rr)) :=
    ⟨fun w' hq => ⟨(blk_cell hq 0).trans rfl, (blk_cell hq 1).trans rfl, (blk_cell hq 2).trans rfl, (blk_cell hq 3).trans rfl, (blk_cell hq 4).trans rfl, (blk_cell hq 5).trans rfl, (blk_cell hq 6).trans rfl, (blk_cell hq 7).trans rfl⟩⟩
  by_cases hpt : ps.length = ts.length
  · have e0 : ((ps.length : Int) != (ts.length : Int)) = false := by simp [hpt]
    have HP := Aside0.mk hpt
    have hts : ts.length ≤ 140737488351232 := by omega
    clear hpt
    go_enter Try.func87, Try.ntmps87
    go_wp2_with fail
    refine (names_any A2 c2 ps _ (Kd.C_below Hp.out HB0.out) (by omega)).mono ?_
    rintro e w1 ⟨⟨b0, rfl, hb0⟩, rfl⟩
    have HN := Aside0.mk hb0
    clear hb0
    cases b0 with
    | false =>
      go_wp2_with fail
      go_ret
      exact ⟨⟨false, rfl, fun h => by cases h⟩, HB0.out⟩
    | true =>
      go_wp2_with fail
      refine (may_any ⟨rk, rn, rl, rr⟩ 0 true _ A5 c5 A6 c6 (Hr.out.below HB0.out)).mono ?_
      rintro e w2 ⟨⟨b1, rfl, hb1⟩, hbl⟩
      have HR := Aside0.mk hb1
      have HB2 := Aside0.mk (below_step HB0.out hbl)
      have HK2 := Aside0.mk (blk_below HK0.out hbl)
      clear hb1 hbl HB0 HK0
      obtain ⟨z0, z1, z2, z3, z4, z5, z6, z7⟩ := HS.out w2 HK2.out
      cases b1 with
      | false =>
        go_wp2_with fail
        go_ret
        exact ⟨⟨false, rfl, fun h => by cases h⟩, HB2.out⟩
      | true =>
        go_wp2_with fail
        clear z0 z1 z2 z3 z4 z5 z6 z7
        go_loopw [3] (fun v3 wr => ∃ k : Nat, k ≤ ts.length ∧ v3 = .int .i64 k ∧ Aside0 (∀ y ∈ ts.take k, WfT y) ∧ Aside0 (Below w.heap.size w wr) ∧ Aside0 (wr.heap[w.heap.size]? = some (.cells #[.string nm, .int .i64 kd, .slice A2 ps.length c2, .slice A3 ts.length c3, .int .i64 rk, .slice A5 rn.length c5, .slice A6 rl.length c6, .int .i64 rr] 146 (0, 0)))) (fun v3 _ => ts.length - (intOf v3).toNat)
        case atStart => exact ⟨0, Nat.zero_le _, rfl, ⟨take_none⟩, HB2, HK2⟩
        case round =>
          clear HB2 HK2
          obtain ⟨k, hk, rfl, HA, HB, HK⟩ := hrel
          obtain ⟨z0, z1, z2, z3, z4, z5, z6, z7⟩ := HS.out wr HK.out
          by_cases hlt : k < ts.length
          · obtain ⟨ad, B1, d1, B2, d2, hae, hx, l1, g1, l2, g2⟩ := el25 (Kd.C_below Ht.out HB.out) hlt
            cases hae
            obtain ⟨x0, x1, x2, x3⟩ := hx wr (Below.refl _ _)
            have HY := Aside0.mk (TA.mk g1 l1 g2 l2)
            have HW := Aside0.mk (fun h => take_all (P := WfT) HA.out hlt h)
            clear hx l1 g1 l2 g2
            generalize ts[k] = y at *
            go_wp2_with fail
            refine (may_any y 0 false _ B1 d1 B2 d2 HY.out).mono ?_
            rintro e w3 ⟨⟨b, rfl, hb⟩, hbl⟩
            have HBB := Aside0.mk hb
            have HB3 := Aside0.mk (below_step HB.out hbl)
            have HK3 := Aside0.mk (blk_below HK.out hbl)
            clear hb hbl HB HK z0 z1 z2 z3 z4 z5 z6 z7 x0 x1 x2 x3
            cases b with
            | false =>
              go_wp2_with fail
              go_ret
              exact ⟨⟨false, rfl, fun h => by cases h⟩, HB3.out⟩
            | true =>
              go_wp2_with fail
              go_roundw
              case rel => exact ⟨k + 1, by omega, by go_num, ⟨HW.out (HBB.out (by first | rfl | trivial))⟩, HB3, HK3⟩
              case measure => simp [intOf]; omega
          · obtain rfl : k = ts.length := by omega
            have HE := Aside0.mk (take_whole HA.out)
            have HQ := Aside0.mk (HN.out (by first | rfl | trivial))
            have HRR := Aside0.mk (HR.out (by first | rfl | trivial))
            clear HA hlt hk
            by_cases h3 : kd = 3
            · subst h3
              by_cases hz : nm.toList = []
              · have e1 : (nm.toList == ([] : List UInt8)) = true := by rw [hz]; rfl
                have e2 : nm.toList.isEmpty = true := by rw [hz]; rfl
                have hsz : nm.size = 0 := size_nil hz
                have HZ := Aside0.mk hsz
                clear hz hsz
                go_wp2_with fail
                refine (none_any rk A5 rn.length c5 A6 rl.length c6 rr _).mono ?_
                rintro e w3 ⟨rfl, hbl⟩
                have HB3 := Aside0.mk (below_step HB.out hbl)
                clear hbl
                go_wp2_with fail
                go_ret
                exact ⟨⟨_, rfl, fun _ => ⟨HP.out, HQ.out.1, HE.out, HRR.out, by have := HZ.out; show nm.size ≤ 100; omega⟩⟩, HB3.out⟩
              · have e1 : (nm.toList == ([] : List UInt8)) = false := beq_eq_false_iff_ne.mpr hz
                have e2 : nm.toList.isEmpty = false := by cases hl : nm.toList with
                  | nil => exact absurd hl hz
                  | cons a b => rfl
                clear hz
                go_wp2_with fail
                go_ret
                exact ⟨⟨false, rfl, fun h => by cases h⟩, HB.out⟩
            · have e3 : (kd == 3) = false := beq_eq_false_iff_ne.mpr h3
              clear h3
              by_cases hk2 : 0 ≤ kd ∧ kd < 3
              · have e4 : decide (0 ≤ kd) = true := decide_eq_true hk2.1
                have e5 : decide (kd < 3) = true := decide_eq_true hk2.2
                clear hk2
                go_wp2_with fail
                refine (name_any nm _).mono ?_
                rintro e w3 ⟨⟨b, rfl, hb⟩, rfl⟩
                have HBB := Aside0.mk hb
                clear hb
                go_wp2_with fail
                go_ret
                exact ⟨⟨_, rfl, fun h => ⟨HP.out, HQ.out.1, HE.out, HRR.out, HBB.out h⟩⟩, HB.out⟩
              · by_cases h0 : 0 ≤ kd
                · have e4 : decide (0 ≤ kd) = true := decide_eq_true h0
                  have e5 : decide (kd < 3) = false := decide_eq_false (by omega)
                  clear hk2
                  go_wp2_with fail
                  go_ret
                  exact ⟨⟨false, rfl, fun h => by cases h⟩, HB.out⟩
                · have e4 : decide (0 ≤ kd) = false := decide_eq_false h0
                  clear hk2
                  go_wp2_with fail
                  go_ret
                  exact ⟨⟨false, rfl, fun h => by cases h⟩, HB.out⟩
  · have e0 : ((ps.length : Int) != (ts.length : Int)) = true := by simp; omega
    go_enter Try.func87, Try.ntmps87
    go_wp2_with fail
    go_ret
    exact ⟨⟨false, rfl, fun h => by cases h⟩, HB0.out⟩
/-- A definition as it may be written. -/
structure WfD (d : S154) : Prop where
  nm : d.f1.size ≤ 100
  fl : d.f3.length ≤ 64
  fs : ∀ f ∈ d.f3, WfF f
  t : WfT d.f2
structure SmD (d : S154) : Prop where
  n : d.f2.f1.length ≤ 140737488351232
  l : d.f2.f2.length ≤ 140737488351232
  fs : ∀ f ∈ d.f3, SmF f
structure DA (w : World) (d : S154) (A3 : Option Addr) (c3 : Nat) (A4 : Option Addr) (c4 : Nat) (A6 : Option Addr) (c6 : Nat) : Prop where
  t : TA w d.f2 A3 c3 A4 c4
  f : k146.C w A6 d.f3.length d.f3
  cf : d.f3.length ≤ c6
def dfC (d : S154) (A3 : Option Addr) (c3 : Nat) (A4 : Option Addr) (c4 : Nat) (A6 : Option Addr) (c6 : Nat) : Array Value :=
  #[.int .i64 d.f0, .string d.f1, .int .i64 d.f2.f0, .slice A3 d.f2.f1.length c3, .slice A4 d.f2.f2.length c4, .int .i64 d.f2.f3, .slice A6 d.f3.length c6]
def DefOk (d : S154) (w : World) (e : Ending) (w' : World) : Prop := (∃ b : Bool, e = .returned (.bool b) ∧ (b = true → WfD d)) ∧ Below w.heap.size w w'
set_option maxHeartbeats 4000000 in
set_option maxRecDepth 100000 in
theorem def_six (d : S154) (hsm : SmD d) (w : World) (A3 : Option Addr) (c3 : Nat) (A4 : Option Addr) (c4 : Nat) (A6 : Option Addr) (c6 : Nat) (h : DA w d A3 c3 A4 c4 A6 c6) (hkd : d.f0 = 6) :
    Calls Try.prog 100 #[.agg (dfC d A3 c3 A4 c4 A6 c6)] w (DefOk d w) := by
  obtain ⟨kd, nm, ⟨tk, tn, tl, tr⟩, fs⟩ := d
  replace hkd : kd = 6 := hkd
  have htn : tn.length ≤ 140737488351232 := hsm.n
  have htl : tl.length ≤ 140737488351232 := hsm.l
  have Hfs : Aside0 (∀ f ∈ fs, SmF f) := ⟨hsm.fs⟩
  have Ht : Aside0 (TA w ⟨tk, tn, tl, tr⟩ A3 c3 A4 c4) := ⟨h.t⟩
  have Hf : Aside0 (k146.C w A6 fs.length fs) := ⟨h.f⟩
  clear h hsm
  subst hkd
  unfold dfC
  have HB0 := Aside0.mk (below_alloc (Below.refl w.heap.size w) (.cells #[.int .i64 6, .string nm, .int .i64 tk, .slice A3 tn.length c3, .slice A4 tl.length c4, .int .i64 tr, .slice A6 fs.length c6] 154))
  have HK0 := Aside0.mk (blk_new w (.cells #[.int .i64 6, .string nm, .int .i64 tk, .slice A3 tn.length c3, .slice A4 tl.length c4, .int .i64 tr, .slice A6 fs.length c6] 154))
  have HS : Aside0 (∀ w' : World, w'.heap[w.heap.size]? = some (.cells #[.int .i64 6, .string nm, .int .i64 tk, .slice A3 tn.length c3, .slice A4 tl.length c4, .int .i64 tr, .slice A6 fs.length c6] 154 (0, 0)) → w'.cell? ⟨w.heap.size, 0, none⟩ = some (.int .i64 6) ∧ w'.cell? ⟨w.heap.size, 1, none⟩ = some (.string nm) ∧ w'.cell? ⟨w.heap.size, 2, none⟩ = some (.int .i64 tk) ∧ w'.cell? ⟨w.heap.size, 3, none⟩ = some (.slice A3 tn.length c3) ∧ w'.cell? ⟨w.heap.size, 4, none⟩ = some (.slice A4 tl.length c4) ∧ w'.cell? ⟨w.heap.size, 5, none⟩ = some (.int .i64 tr) ∧ w'.cell? ⟨w.heap.size, 6, none⟩ = some (.slice A6 fs.length c6)) :=
    ⟨fun w' hq => ⟨(blk_cell hq 0).trans rfl, (blk_cell hq 1).trans rfl, (blk_cell hq 2).trans rfl, (blk_cell hq 3).trans rfl, (blk_cell hq 4).trans rfl, (blk_cell hq 5).trans rfl, (blk_cell hq 6).trans rfl⟩⟩
  by_cases hF : fs.length ≤ 64
  · have e1 : decide ((64 : Int) < (fs.length : Int)) = false := decide_eq_false (by omega)
    go_enter Try.func100, Try.ntmps100
    go_wp2_with fail
    refine (name_any nm _).mono ?_
    rintro e w1 ⟨⟨b0, rfl, hb0⟩, rfl⟩
    have HN := Aside0.mk hb0
    clear hb0
    cases b0 with
    | false =>
      go_wp2_with fail
      go_ret
      exact ⟨⟨false, rfl, fun h => by cases h⟩, HB0.out⟩
    | true =>
      go_wp2_with fail
      have HN' := Aside0.mk (HN.out (by first | rfl | trivial))
      clear HN
      go_loopw [3] (fun v3 wr => ∃ k : Nat, k ≤ fs.length ∧ v3 = .int .i64 k ∧ Aside0 (∀ y ∈ fs.take k, WfF y) ∧ Aside0 (Below w.heap.size w wr) ∧ Aside0 (wr.heap[w.heap.size]? = some (.cells #[.int .i64 6, .string nm, .int .i64 tk, .slice A3 tn.length c3, .slice A4 tl.length c4, .int .i64 tr, .slice A6 fs.length c6] 154 (0, 0)))) (fun v3 _ => fs.length - (intOf v3).toNat)
      case atStart => exact ⟨0, Nat.zero_le _, rfl, ⟨take_none⟩, HB0, HK0⟩
      case round =>
        clear HB0 HK0
        obtain ⟨k, hk, rfl, HA, HB, HK⟩ := hrel
        obtain ⟨z0, z1, z2, z3, z4, z5, z6⟩ := HS.out wr HK.out
        by_cases hlt : k < fs.length
        · obtain ⟨ad, B2, d2, B3, d3, B5, d5, B6, d6, hae, hx, l2, g2, l3, g3, l5, g5, l6, g6⟩ := el146 (Kd.C_below Hf.out HB.out) hlt
          cases hae
          have HX := Aside0.mk hx
          have HY := Aside0.mk (FA.mk g2 l2 g3 l3 (TA.mk g5 l5 g6 l6))
          have HSM := Aside0.mk (Hfs.out fs[k] (List.getElem_mem hlt))
          have HW := Aside0.mk (fun h => take_all (P := WfF) HA.out hlt h)
          clear hx l2 g2 l3 g3 l5 g5 l6 g6
          generalize fs[k] = y at *
          obtain ⟨x0, x1, x2, x3, x4, x5, x6, x7⟩ := HX.out wr (Below.refl _ _)
          go_wp2_with fail
          refine (func_any y HSM.out _ B2 d2 B3 d3 B5 d5 B6 d6 HY.out).mono ?_
          rintro e w3 ⟨⟨b, rfl, hb⟩, hbl⟩
          have HBB := Aside0.mk hb
          have HB3 := Aside0.mk (below_step HB.out hbl)
          have HK3 := Aside0.mk (blk_below HK.out hbl)
          clear z0 z1 z2 z3 z4 z5 z6 x0 x1 x2 x3 x4 x5 x6 x7
          obtain ⟨x0, x1, x2, x3, x4, x5, x6, x7⟩ := HX.out w3 hbl
          obtain ⟨z0, z1, z2, z3, z4, z5, z6⟩ := HS.out w3 HK3.out
          clear hb hbl HB HK HX
          cases b with
          | false =>
            go_wp2_with fail
            go_ret
            exact ⟨⟨false, rfl, fun h => by cases h⟩, HB3.out⟩
          | true =>
            go_wp2_with fail
            all_goals first
              | (go_ret; exact ⟨⟨false, rfl, fun h => by cases h⟩, HB3.out⟩)
              | (go_roundw
                 case rel => exact ⟨k + 1, by omega, by go_num, ⟨HW.out (HBB.out (by first | rfl | trivial))⟩, HB3, HK3⟩
                 case measure => simp [intOf]; omega)
        · obtain rfl : k = fs.length := by omega
          have HE := Aside0.mk (take_whole HA.out)
          clear HA hlt hk
          go_wp2_with fail
          refine (none_any tk A3 tn.length c3 A4 tl.length c4 tr _).mono ?_
          rintro e w3 ⟨rfl, hbl⟩
          have HB3 := Aside0.mk (below_step HB.out hbl)
          clear hbl
          go_wp2_with fail
          go_ret
          exact ⟨⟨_, rfl, fun h => ⟨HN'.out, hF, HE.out, wf_none h⟩⟩, HB3.out⟩
  · have e1 : decide ((64 : Int) < (fs.length : Int)) = true := decide_eq_true (by omega)
    go_enter Try.func100, Try.ntmps100
    go_wp2_with fail
    refine (name_any nm _).mono ?_
    rintro e w1 ⟨⟨b0, rfl, hb0⟩, rfl⟩
    have HN := Aside0.mk hb0
    clear hb0
    cases b0 with
    | false =>
      go_wp2_with fail
      go_ret
      exact ⟨⟨false, rfl, fun h => by cases h⟩, HB0.out⟩
    | true =>
      go_wp2_with fail
      go_ret
      exact ⟨⟨false, rfl, fun h => by cases h⟩, HB0.out⟩
set_option maxHeartbeats 4000000 in
set_option maxRecDepth 100000 in
theorem def_one (d : S154) (hsm : SmD d) (w : World) (A3 : Option Addr) (c3 : Nat) (A4 : Option Addr) (c4 : Nat) (A6 : Option Addr) (c6 : Nat) (h : DA w d A3 c3 A4 c4 A6 c6) (hkd : d.f0 = 1) (hfl : d.f3 = []) :
    Calls Try.prog 100 #[.agg (dfC d A3 c3 A4 c4 A6 c6)] w (DefOk d w) := by
  obtain ⟨kd, nm, ⟨tk, tn, tl, tr⟩, fs⟩ := d
  replace hkd : kd = 1 := hkd
  have htn : tn.length ≤ 140737488351232 := hsm.n
  have htl : tl.length ≤ 140737488351232 := hsm.l
  have Hfs : Aside0 (∀ f ∈ fs, SmF f) := ⟨hsm.fs⟩
  have Ht : Aside0 (TA w ⟨tk, tn, tl, tr⟩ A3 c3 A4 c4) := ⟨h.t⟩
  have Hf : Aside0 (k146.C w A6 fs.length fs) := ⟨h.f⟩
  clear h hsm
  replace hfl : fs = [] := hfl
  subst hkd hfl
  unfold dfC
  rw [List.length_nil]
  have HB0 := Aside0.mk (below_alloc (Below.refl w.heap.size w) (.cells #[.int .i64 1, .string nm, .int .i64 tk, .slice A3 tn.length c3, .slice A4 tl.length c4, .int .i64 tr, .slice A6 0 c6] 154))
  have HK0 := Aside0.mk (blk_new w (.cells #[.int .i64 1, .string nm, .int .i64 tk, .slice A3 tn.length c3, .slice A4 tl.length c4, .int .i64 tr, .slice A6 0 c6] 154))
  have HS : Aside0 (∀ w' : World, w'.heap[w.heap.size]? = some (.cells #[.int .i64 1, .string nm, .int .i64 tk, .slice A3 tn.length c3, .slice A4 tl.length c4, .int .i64 tr, .slice A6 0 c6] 154 (0, 0)) → w'.cell? ⟨w.heap.size, 0, none⟩ = some (.int .i64 1) ∧ w'.cell? ⟨w.heap.size, 1, none⟩ = some (.string nm) ∧ w'.cell? ⟨w.heap.size, 2, none⟩ = some (.int .i64 tk) ∧ w'.cell? ⟨w.heap.size, 3, none⟩ = some (.slice A3 tn.length c3) ∧ w'.cell? ⟨w.heap.size, 4, none⟩ = some (.slice A4 tl.length c4) ∧ w'.cell? ⟨w.heap.size, 5, none⟩ = some (.int .i64 tr) ∧ w'.cell? ⟨w.heap.size, 6, none⟩ = some (.slice A6 0 c6)) :=
    ⟨fun w' hq => ⟨(blk_cell hq 0).trans rfl, (blk_cell hq 1).trans rfl, (blk_cell hq 2).trans rfl, (blk_cell hq 3).trans rfl, (blk_cell hq 4).trans rfl, (blk_cell hq 5).trans rfl, (blk_cell hq 6).trans rfl⟩⟩
  go_enter Try.func100, Try.ntmps100
  go_wp2_with fail
  refine (name_any nm _).mono ?_
  rintro e w1 ⟨⟨b0, rfl, hb0⟩, rfl⟩
  have HN := Aside0.mk hb0
  clear hb0
  cases b0 with
  | false =>
    go_wp2_with fail
    go_ret
    exact ⟨⟨false, rfl, fun h => by cases h⟩, HB0.out⟩
  | true =>
    go_wp2_with fail
    go_loop [3] (fun v3 => v3 = .int .i64 0) (fun _ => 0)
    case atStart => rfl
    case round =>
      obtain rfl := hrel
      obtain ⟨z0, z1, z2, z3, z4, z5, z6⟩ := HS.out _ HK0.out
      go_wp2_with fail
      refine (may_any ⟨tk, tn, tl, tr⟩ 0 false _ A3 c3 A4 c4 (Ht.out.below HB0.out)).mono ?_
      rintro e w3 ⟨⟨b, rfl, hb⟩, hbl⟩
      have HBB := Aside0.mk hb
      have HB3 := Aside0.mk (below_step HB0.out hbl)
      clear hb hbl
      go_wp2_with fail
      go_ret
      exact ⟨⟨_, rfl, fun h => ⟨HN.out (by first | rfl | trivial), by simp, fun f hf => by simp at hf, HBB.out h⟩⟩, HB3.out⟩
set_option maxHeartbeats 4000000 in
set_option maxRecDepth 100000 in
theorem def_far (d : S154) (hsm : SmD d) (w : World) (A3 : Option Addr) (c3 : Nat) (A4 : Option Addr) (c4 : Nat) (A6 : Option Addr) (c6 : Nat) (h : DA w d A3 c3 A4 c4 A6 c6) (hkd : d.f0 ≠ 6) (hfl : d.f3.length ≠ 0) :
    Calls Try.prog 100 #[.agg (dfC d A3 c3 A4 c4 A6 c6)] w (DefOk d w) := by
  obtain ⟨kd, nm, ⟨tk, tn, tl, tr⟩, fs⟩ := d
  replace hkd : kd ≠ 6 := hkd
  have htn : tn.length ≤ 140737488351232 := hsm.n
  have htl : tl.length ≤ 140737488351232 := hsm.l
  have Hfs : Aside0 (∀ f ∈ fs, SmF f) := ⟨hsm.fs⟩
  have Ht : Aside0 (TA w ⟨tk, tn, tl, tr⟩ A3 c3 A4 c4) := ⟨h.t⟩
  have Hf : Aside0 (k146.C w A6 fs.length fs) := ⟨h.f⟩
  clear h hsm
  replace hfl : fs.length ≠ 0 := hfl
  unfold dfC
  have HB0 := Aside0.mk (below_alloc (Below.refl w.heap.size w) (.cells #[.int .i64 kd, .string nm, .int .i64 tk, .slice A3 tn.length c3, .slice A4 tl.length c4, .int .i64 tr, .slice A6 fs.length c6] 154))
  have HK0 := Aside0.mk (blk_new w (.cells #[.int .i64 kd, .string nm, .int .i64 tk, .slice A3 tn.length c3, .slice A4 tl.length c4, .int .i64 tr, .slice A6 fs.length c6] 154))
  have HS : Aside0 (∀ w' : World, w'.heap[w.heap.size]? = some (.cells #[.int .i64 kd, .string nm, .int .i64 tk, .slice A3 tn.length c3, .slice A4 tl.length c4, .int .i64 tr, .slice A6 fs.length c6] 154 (0, 0)) → w'.cell? ⟨w.heap.size, 0, none⟩ = some (.int .i64 kd) ∧ w'.cell? ⟨w.heap.size, 1, none⟩ = some (.string nm) ∧ w'.cell? ⟨w.heap.size, 2, none⟩ = some (.int .i64 tk) ∧ w'.cell? ⟨w.heap.size, 3, none⟩ = some (.slice A3 tn.length c3) ∧ w'.cell? ⟨w.heap.size, 4, none⟩ = some (.slice A4 tl.length c4) ∧ w'.cell? ⟨w.heap.size, 5, none⟩ = some (.int .i64 tr) ∧ w'.cell? ⟨w.heap.size, 6, none⟩ = some (.slice A6 fs.length c6)) :=
    ⟨fun w' hq => ⟨(blk_cell hq 0).trans rfl, (blk_cell hq 1).trans rfl, (blk_cell hq 2).trans rfl, (blk_cell hq 3).trans rfl, (blk_cell hq 4).trans rfl, (blk_cell hq 5).trans rfl, (blk_cell hq 6).trans rfl⟩⟩
  have e1 : (kd == 6) = false := beq_eq_false_iff_ne.mpr hkd
  have e2 : (kd != 6) = true := by simp [hkd]
  have e3 : decide ((0 : Int) < (fs.length : Int)) = true := decide_eq_true (by omega)
  clear hkd
  go_enter Try.func100, Try.ntmps100
  go_wp2_with fail
  refine (name_any nm _).mono ?_
  rintro e w1 ⟨⟨b0, rfl, hb0⟩, rfl⟩
  have HN := Aside0.mk hb0
  clear hb0
  cases b0 with
  | false =>
    go_wp2_with fail
    go_ret
    exact ⟨⟨false, rfl, fun h => by cases h⟩, HB0.out⟩
  | true =>
    go_wp2_with fail
    go_ret
    exact ⟨⟨false, rfl, fun h => by cases h⟩, HB0.out⟩
set_option maxHeartbeats 4000000 in
set_option maxRecDepth 100000 in
theorem def_out (d : S154) (hsm : SmD d) (w : World) (A3 : Option Addr) (c3 : Nat) (A4 : Option Addr) (c4 : Nat) (A6 : Option Addr) (c6 : Nat) (h : DA w d A3 c3 A4 c4 A6 c6) (hkd : d.f0 < 1 ∨ 6 < d.f0) (hfl : d.f3 = []) :
    Calls Try.prog 100 #[.agg (dfC d A3 c3 A4 c4 A6 c6)] w (DefOk d w) := by
  obtain ⟨kd, nm, ⟨tk, tn, tl, tr⟩, fs⟩ := d
  replace hkd : kd < 1 ∨ 6 < kd := hkd
  have htn : tn.length ≤ 140737488351232 := hsm.n
  have htl : tl.length ≤ 140737488351232 := hsm.l
  have Hfs : Aside0 (∀ f ∈ fs, SmF f) := ⟨hsm.fs⟩
  have Ht : Aside0 (TA w ⟨tk, tn, tl, tr⟩ A3 c3 A4 c4) := ⟨h.t⟩
  have Hf : Aside0 (k146.C w A6 fs.length fs) := ⟨h.f⟩
  clear h hsm
  replace hfl : fs = [] := hfl
  subst hfl
  unfold dfC
  rw [List.length_nil]
  have HB0 := Aside0.mk (below_alloc (Below.refl w.heap.size w) (.cells #[.int .i64 kd, .string nm, .int .i64 tk, .slice A3 tn.length c3, .slice A4 tl.length c4, .int .i64 tr, .slice A6 0 c6] 154))
  have HK0 := Aside0.mk (blk_new w (.cells #[.int .i64 kd, .string nm, .int .i64 tk, .slice A3 tn.length c3, .slice A4 tl.length c4, .int .i64 tr, .slice A6 0 c6] 154))
  have HS : Aside0 (∀ w' : World, w'.heap[w.heap.size]? = some (.cells #[.int .i64 kd, .string nm, .int .i64 tk, .slice A3 tn.length c3, .slice A4 tl.length c4, .int .i64 tr, .slice A6 0 c6] 154 (0, 0)) → w'.cell? ⟨w.heap.size, 0, none⟩ = some (.int .i64 kd) ∧ w'.cell? ⟨w.heap.size, 1, none⟩ = some (.string nm) ∧ w'.cell? ⟨w.heap.size, 2, none⟩ = some (.int .i64 tk) ∧ w'.cell? ⟨w.heap.size, 3, none⟩ = some (.slice A3 tn.length c3) ∧ w'.cell? ⟨w.heap.size, 4, none⟩ = some (.slice A4 tl.length c4) ∧ w'.cell? ⟨w.heap.size, 5, none⟩ = some (.int .i64 tr) ∧ w'.cell? ⟨w.heap.size, 6, none⟩ = some (.slice A6 0 c6)) :=
    ⟨fun w' hq => ⟨(blk_cell hq 0).trans rfl, (blk_cell hq 1).trans rfl, (blk_cell hq 2).trans rfl, (blk_cell hq 3).trans rfl, (blk_cell hq 4).trans rfl, (blk_cell hq 5).trans rfl, (blk_cell hq 6).trans rfl⟩⟩
  have e1 : (kd == 6) = false := beq_eq_false_iff_ne.mpr (by omega)
  have e2 : (kd != 6) = true := by simp; omega
  have e3 : (kd == 1) = false := beq_eq_false_iff_ne.mpr (by omega)
  by_cases h2 : kd < 2
  · have e4 : decide (kd < 2) = true := decide_eq_true h2
    clear hkd
    go_enter Try.func100, Try.ntmps100
    go_wp2_with fail
    refine (name_any nm _).mono ?_
    rintro e w1 ⟨⟨b0, rfl, hb0⟩, rfl⟩
    have HN := Aside0.mk hb0
    clear hb0
    cases b0 with
    | false =>
      go_wp2_with fail
      go_ret
      exact ⟨⟨false, rfl, fun h => by cases h⟩, HB0.out⟩
    | true =>
      go_wp2_with fail
      go_loop [3] (fun v3 => v3 = .int .i64 0) (fun _ => 0)
      case atStart => rfl
      case round =>
        obtain rfl := hrel
        obtain ⟨z0, z1, z2, z3, z4, z5, z6⟩ := HS.out _ HK0.out
        go_wp2_with fail
        go_quiet (fail)
        go_wp2_with fail
        go_ret
        exact ⟨⟨false, rfl, fun h => by cases h⟩, pw_below_drewN (below_alloc HB0.out _) _⟩
  · have e4 : decide (kd < 2) = false := decide_eq_false h2
    have e5 : decide ((5 : Int) < kd) = true := decide_eq_true (by omega)
    clear hkd
    go_enter Try.func100, Try.ntmps100
    go_wp2_with fail
    refine (name_any nm _).mono ?_
    rintro e w1 ⟨⟨b0, rfl, hb0⟩, rfl⟩
    have HN := Aside0.mk hb0
    clear hb0
    cases b0 with
    | false =>
      go_wp2_with fail
      go_ret
      exact ⟨⟨false, rfl, fun h => by cases h⟩, HB0.out⟩
    | true =>
      go_wp2_with fail
      go_loop [3] (fun v3 => v3 = .int .i64 0) (fun _ => 0)
      case atStart => rfl
      case round =>
        obtain rfl := hrel
        obtain ⟨z0, z1, z2, z3, z4, z5, z6⟩ := HS.out _ HK0.out
        go_wp2_with fail
        go_quiet (fail)
        go_wp2_with fail
        go_ret
        exact ⟨⟨false, rfl, fun h => by cases h⟩, pw_below_drewN (below_alloc HB0.out _) _⟩
end Go.Proofs.Ytmpmcffhlnlejaa.Wld
end
