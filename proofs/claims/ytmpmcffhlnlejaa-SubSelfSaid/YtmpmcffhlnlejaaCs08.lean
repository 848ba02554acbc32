/- A part of the proof of the law that its last file names: texts of this seat's author and of the kit's printer, cut to what the theorem uses. Part 8: Wld7, PSubFitsx0. -/
import Derived.Test.YtmpmcffhlnlejaaCs07
section
namespace Go.Proofs.Ytmpmcffhlnlejaa.Wld
open Go.RowKit Go.Proofs.YtmpmcffhlnlejaaW.PrintWords Go.Proofs.YtmpmcffhlnlejaaW.PrintLast Go.Proofs.YtmpmcffhlnlejaaW.PrintMore
open Go.Proofs.Ytmpmcffhlnlejaa.PSubSelf
set_option linter.unusedVariables false
set_option linter.unusedSimpArgs false
structure WfI (y : S142) : Prop where
  nm : y.f0.size ≤ 100
  h : WfH y.f1 y.f2
  fl : y.f3.length ≤ 64
  fs : ∀ f ∈ y.f3, WfF f
structure SmI (y : S142) : Prop where
  h : SmH y.f1 y.f2
  fs : ∀ f ∈ y.f3, SmF f
structure WfW (y : S125) : Prop where
  h : WfH y.f1 y.f2
  i : WfQs y.f3
  o : WfQs y.f4
structure SmW (y : S125) : Prop where
  h : SmH y.f1 y.f2
  il : y.f3.length ≤ 140737488351232
  i : ∀ q ∈ y.f3, SmQ q
  ol : y.f4.length ≤ 140737488351232
  o : ∀ q ∈ y.f4, SmQ q
/-- A package as it may be written. -/
structure WfP (y : S120) : Prop where
  sp : y.f0.size ≤ 100
  nm : y.f1.size ≤ 100
  ve : y.f2.size ≤ 30
  il : y.f3.length ≤ 64
  is : ∀ i ∈ y.f3, WfI i
  wl : y.f4.length ≤ 64
  ws : ∀ w ∈ y.f4, WfW w
structure SmP (y : S120) : Prop where
  ve : y.f2.size ≤ 140737488351232
  is : ∀ i ∈ y.f3, SmI i
  ws : ∀ w ∈ y.f4, SmW w
def RightOk (y : S120) (w : World) (e : Ending) (w' : World) : Prop := (∃ b : Bool, e = .returned (.bool b) ∧ (b = true → WfP y)) ∧ Below w.heap.size w w'
set_option maxHeartbeats 16000000 in
set_option maxRecDepth 100000 in
theorem right_no (P : S120) (hsm : SmP P) (w : World) (A3 : Option Addr) (c3 : Nat) (A4 : Option Addr) (c4 : Nat) (hi : k142.C w A3 P.f3.length P.f3) (hw : k125.C w A4 P.f4.length P.f4)
    (hve : P.f2.toList = []) :
    Calls Try.prog 75 #[.agg #[.string P.f0, .string P.f1, .string P.f2, .slice A3 P.f3.length c3, .slice A4 P.f4.length c4]] w (RightOk P w) := by
  obtain ⟨sp, nm, ve, is, ws⟩ := P
  have Hi : Aside0 (k142.C w A3 is.length is) := ⟨hi⟩
  have Hw : Aside0 (k125.C w A4 ws.length ws) := ⟨hw⟩
  have HSis : Aside0 (∀ i ∈ is, SmI i) := ⟨hsm.is⟩
  have HSws : Aside0 (∀ i ∈ ws, SmW i) := ⟨hsm.ws⟩
  replace hve : ve.toList = [] := hve
  have HVE : Aside0 (ve.size ≤ 30) := ⟨by rw [size_nil hve]; omega⟩
  have v1 : (ve.toList == ([] : List UInt8)) = true := by rw [hve]; rfl
  have v2 : ve.toList.isEmpty = true := by rw [hve]; rfl
  have v3 : (ve.toList != ([] : List UInt8)) = false := by rw [hve]; rfl
  clear hi hw hsm hve
  have HB0 := Aside0.mk (below_alloc (Below.refl w.heap.size w) (.cells #[.string sp, .string nm, .string ve, .slice A3 is.length c3, .slice A4 ws.length c4] 120))
  have HK0 := Aside0.mk (blk_new w (.cells #[.string sp, .string nm, .string ve, .slice A3 is.length c3, .slice A4 ws.length c4] 120))
  have HS : Aside0 (∀ w' : World, w'.heap[w.heap.size]? = some (.cells #[.string sp, .string nm, .string ve, .slice A3 is.length c3, .slice A4 ws.length c4] 120 (0, 0)) → w'.cell? ⟨w.heap.size, 0, none⟩ = some (.string sp) ∧ w'.cell? ⟨w.heap.size, 1, none⟩ = some (.string nm) ∧ w'.cell? ⟨w.heap.size, 2, none⟩ = some (.string ve) ∧ w'.cell? ⟨w.heap.size, 3, none⟩ = some (.slice A3 is.length c3) ∧ w'.cell? ⟨w.heap.size, 4, none⟩ = some (.slice A4 ws.length c4)) :=
    ⟨fun w' hq => ⟨(blk_cell hq 0).trans rfl, (blk_cell hq 1).trans rfl, (blk_cell hq 2).trans rfl, (blk_cell hq 3).trans rfl, (blk_cell hq 4).trans rfl⟩⟩
  go_enter Try.func75, Try.ntmps75
  go_wp2_with fail
  refine (name_any sp _).mono ?_
  rintro e w1 ⟨⟨b, rfl, hb⟩, rfl⟩
  have HN1 := Aside0.mk hb
  clear hb
  cases b with
  | false =>
    go_wp2_with fail
    go_ret
    exact ⟨⟨false, rfl, fun h => by cases h⟩, HB0.out⟩
  | true =>
    go_wp2_with fail
    refine (name_any nm _).mono ?_
    rintro e w1 ⟨⟨b, rfl, hb⟩, rfl⟩
    have HN2 := Aside0.mk hb
    clear hb
    cases b with
    | false =>
      go_wp2_with fail
      go_ret
      exact ⟨⟨false, rfl, fun h => by cases h⟩, HB0.out⟩
    | true =>
      by_cases hil : is.length ≤ 64
      · have e1 : decide ((64 : Int) < (is.length : Int)) = false := decide_eq_false (by omega)
        by_cases hwl : ws.length ≤ 64
        · have e2 : decide ((64 : Int) < (ws.length : Int)) = false := decide_eq_false (by omega)
          go_wp2_with fail
          clear e1 e2 v1 v2 v3
          go_loopw [3] (fun v3 wr => ∃ k : Nat, k ≤ is.length ∧ v3 = .int .i64 k ∧ Aside0 (∀ y ∈ is.take k, WfI y) ∧ Aside0 (Below w.heap.size w wr) ∧ Aside0 (wr.heap[w.heap.size]? = some (.cells #[.string sp, .string nm, .string ve, .slice A3 is.length c3, .slice A4 ws.length c4] 120 (0, 0)))) (fun v3 _ => is.length - (intOf v3).toNat)
          case atStart => exact ⟨0, Nat.zero_le _, rfl, ⟨take_none⟩, HB0, HK0⟩
          case round =>
            clear HB0 HK0
            obtain ⟨k, hk, rfl, HA, HB, HK⟩ := hrel
            obtain ⟨z0, z1, z2, z3, z4⟩ := HS.out wr HK.out
            by_cases hlt : k < is.length
            · obtain ⟨ad, B1, d1, B2, d2, B3, d3, hae, hx, l1, g1, l2, g2, l3, g3⟩ := el142 (Kd.C_below Hi.out HB.out) hlt
              rw [hae] at z3
              clear hae
              obtain ⟨x0, x1, x2, x3⟩ := hx wr (Below.refl _ _)
              have HSI := Aside0.mk (HSis.out is[k] (List.getElem_mem hlt))
              have HW := Aside0.mk (fun h => take_all (P := WfI) HA.out hlt h)
              have G1 := Aside0.mk g1
              have G2 := Aside0.mk g2
              have G3 := Aside0.mk g3
              clear hx l1 g1 l2 g2 l3 g3
              generalize is[k] = y at *
              have HB1 := Aside0.mk (below_alloc HB.out (.cells #[.string y.f0, .slice B1 y.f1.length d1, .slice B2 y.f2.length d2, .slice B3 y.f3.length d3] 142))
              have HK1 := Aside0.mk (blk_alloc HK.out (.cells #[.string y.f0, .slice B1 y.f1.length d1, .slice B2 y.f2.length d2, .slice B3 y.f3.length d3] 142))
              have HY1 := Aside0.mk (blk_new wr (.cells #[.string y.f0, .slice B1 y.f1.length d1, .slice B2 y.f2.length d2, .slice B3 y.f3.length d3] 142))
              have HBL := Aside0.mk (below_alloc (Below.refl wr.heap.size wr) (.cells #[.string y.f0, .slice B1 y.f1.length d1, .slice B2 y.f2.length d2, .slice B3 y.f3.length d3] 142))
              have HSY : Aside0 (∀ w' : World, w'.heap[wr.heap.size]? = some (.cells #[.string y.f0, .slice B1 y.f1.length d1, .slice B2 y.f2.length d2, .slice B3 y.f3.length d3] 142 (0, 0)) → w'.cell? ⟨wr.heap.size, 0, none⟩ = some (.string y.f0) ∧ w'.cell? ⟨wr.heap.size, 1, none⟩ = some (.slice B1 y.f1.length d1) ∧ w'.cell? ⟨wr.heap.size, 2, none⟩ = some (.slice B2 y.f2.length d2) ∧ w'.cell? ⟨wr.heap.size, 3, none⟩ = some (.slice B3 y.f3.length d3)) :=
                ⟨fun w' hq => ⟨(blk_cell hq 0).trans rfl, (blk_cell hq 1).trans rfl, (blk_cell hq 2).trans rfl, (blk_cell hq 3).trans rfl⟩⟩
              go_wp2_with fail
              refine (name_any y.f0 _).mono ?_
              rintro e w1 ⟨⟨b, rfl, hb⟩, rfl⟩
              have HBN := Aside0.mk hb
              clear hb
              cases b with
              | false =>
                go_wp2_with fail
                go_ret
                exact ⟨⟨false, rfl, fun h => by cases h⟩, HB1.out⟩
              | true =>
                go_wp2_with fail
                refine (head_any y.f1 y.f2 HSI.out.h _ B1 d1 B2 d2 (Kd.C_below G1.out HBL.out) (Kd.C_below G2.out HBL.out)).mono ?_
                rintro e w2 ⟨⟨b, rfl, hb⟩, hbl⟩
                have HBH := Aside0.mk hb
                have HB2 := Aside0.mk (below_step HB1.out hbl)
                have HK2 := Aside0.mk (blk_below HK1.out hbl)
                have HY2 := Aside0.mk (blk_below HY1.out hbl)
                have HBL2 := Aside0.mk (below_step HBL.out hbl)
                clear hb hbl HB HB1 HK1 HY1 HBL x0 x1 x2 x3 z0 z1 z2 z3 z4 HK
                obtain ⟨y0, y1, y2, y3⟩ := HSY.out w2 HY2.out
                cases b with
                | false =>
                  go_wp2_with fail
                  go_ret
                  exact ⟨⟨false, rfl, fun h => by cases h⟩, HB2.out⟩
                | true =>
                  by_cases hfl : y.f3.length ≤ 64
                  · have e1 : decide ((64 : Int) < (y.f3.length : Int)) = false := decide_eq_false (by omega)
                    go_wp2_with fail
                    clear y0 y1 y2 y3 e1
                    have HG3 := Aside0.mk (fun w' (hb : Below wr.heap.size wr w') => Kd.C_below G3.out hb)
                    generalize hgy : wr.heap.size = gy at *
                    have HGY := Aside0.mk hgy
                    clear hgy
                    go_loopw [5] (fun v5 wq => ∃ j : Nat, j ≤ y.f3.length ∧ v5 = .int .i64 j ∧ Aside0 (∀ f ∈ y.f3.take j, WfF f) ∧ Aside0 (Below w.heap.size w wq) ∧ Aside0 (wq.heap[w.heap.size]? = some (.cells #[.string sp, .string nm, .string ve, .slice A3 is.length c3, .slice A4 ws.length c4] 120 (0, 0))) ∧ Aside0 (wq.heap[gy]? = some (.cells #[.string y.f0, .slice B1 y.f1.length d1, .slice B2 y.f2.length d2, .slice B3 y.f3.length d3] 142 (0, 0))) ∧ Aside0 (Below gy wr wq)) (fun v5 _ => y.f3.length - (intOf v5).toNat)
                    case atStart => exact ⟨0, Nat.zero_le _, rfl, ⟨take_none⟩, HB2, HK2, HY2, HBL2⟩
                    case round =>
                      clear HB2 HK2 HY2 HBL2
                      rename_i wq
                      obtain ⟨j, hj, rfl, HA2, HB2, HK2, HY2, HBL2⟩ := hrel
                      obtain ⟨y0, y1, y2, y3⟩ := HSY.out _ HY2.out
                      by_cases hjl : j < y.f3.length
                      · obtain ⟨ad2, E2, e2, E3, e3, E5, e5, E6, e6, hae, hx, l2, g2, l3, g3, l5, g5, l6, g6⟩ := el146 (HG3.out _ HBL2.out) hjl
                        have HAE := Aside0.mk hae
                        rw [hae] at y3
                        clear hae
                        have HX := Aside0.mk hx
                        have HYF := Aside0.mk (FA.mk g2 l2 g3 l3 (TA.mk g5 l5 g6 l6))
                        have HSF := Aside0.mk (HSI.out.fs y.f3[j] (List.getElem_mem hjl))
                        have HWF := Aside0.mk (fun h => take_all (P := WfF) HA2.out hjl h)
                        clear hx l2 g2 l3 g3 l5 g5 l6 g6
                        generalize y.f3[j] = f at *
                        obtain ⟨x0, x1, x2, x3, x4, x5, x6, x7⟩ := HX.out _ (Below.refl _ _)
                        go_wp2_with fail
                        refine (func_any f HSF.out _ E2 e2 E3 e3 E5 e5 E6 e6 HYF.out).mono ?_
                        rintro e w3 ⟨⟨b, rfl, hb⟩, hbl⟩
                        have HBB := Aside0.mk hb
                        have HB3 := Aside0.mk (below_step HB2.out hbl)
                        have HK3 := Aside0.mk (blk_below HK2.out hbl)
                        have HY3 := Aside0.mk (blk_below HY2.out hbl)
                        have HBL3 := Aside0.mk (below_then HBL2.out (by rw [← HGY.out]; exact HBL2.out.size) hbl)
                        clear y0 y1 y2 y3 x0 x1 x2 x3 x4 x5 x6 x7
                        obtain ⟨x0, x1, x2, x3, x4, x5, x6, x7⟩ := HX.out w3 hbl
                        obtain ⟨y0, y1, y2, y3⟩ := HSY.out w3 HY3.out
                        rw [HAE.out] at y3
                        clear hb hbl HB2 HK2 HY2 HBL2 HX
                        cases b with
                        | false =>
                          go_wp2_with fail
                          go_ret
                          exact ⟨⟨false, rfl, fun h => by cases h⟩, HB3.out⟩
                        | true =>
                          go_wp2_with fail
                          all_goals first
                            | (go_ret; exact ⟨⟨false, rfl, fun h => by cases h⟩, HB3.out⟩)
                            | (go_roundw
                               case rel => exact ⟨j + 1, by omega, by go_num, ⟨HWF.out (HBB.out (by first | rfl | trivial))⟩, HB3, HK3, HY3, HBL3⟩
                               case measure => simp [intOf]; omega)
                      · obtain rfl : j = y.f3.length := by omega
                        have HE2 := Aside0.mk (take_whole HA2.out)
                        go_wp2_with fail
                        go_roundw
                        case rel => exact ⟨k + 1, by omega, by go_num, ⟨HW.out ⟨HBN.out (by first | rfl | trivial), HBH.out (by first | rfl | trivial), hfl, HE2.out⟩⟩, HB2, HK2⟩
                        case measure => simp [intOf]; omega
                  · have e1 : decide ((64 : Int) < (y.f3.length : Int)) = true := decide_eq_true (by omega)
                    go_wp2_with fail
                    go_ret
                    exact ⟨⟨false, rfl, fun h => by cases h⟩, HB2.out⟩
            · obtain rfl : k = is.length := by omega
              have HEI := Aside0.mk (take_whole HA.out)
              clear HA hlt hk
              go_wp2_with fail
              clear z0 z1 z2 z3 z4
              go_loopw [6] (fun v6 wq => ∃ k : Nat, k ≤ ws.length ∧ v6 = .int .i64 k ∧ Aside0 (∀ y ∈ ws.take k, WfW y) ∧ Aside0 (Below w.heap.size w wq) ∧ Aside0 (wq.heap[w.heap.size]? = some (.cells #[.string sp, .string nm, .string ve, .slice A3 is.length c3, .slice A4 ws.length c4] 120 (0, 0)))) (fun v6 _ => ws.length - (intOf v6).toNat)
              case atStart => exact ⟨0, Nat.zero_le _, rfl, ⟨take_none⟩, HB, HK⟩
              case round =>
                clear HB HK
                obtain ⟨k, hk, rfl, HA, HB, HK⟩ := hrel
                obtain ⟨z0, z1, z2, z3, z4⟩ := HS.out wr HK.out
                by_cases hlt : k < ws.length
                · obtain ⟨ad, B1, d1, B2, d2, B3, d3, B4, d4, hae, hx, l1, g1, l2, g2, l3, g3, l4, g4⟩ := el125 (Kd.C_below Hw.out HB.out) hlt
                  rw [hae] at z4
                  clear hae
                  obtain ⟨x0, x1, x2, x3, x4⟩ := hx wr (Below.refl _ _)
                  have HSI := Aside0.mk (HSws.out ws[k] (List.getElem_mem hlt))
                  have HW := Aside0.mk (fun h => take_all (P := WfW) HA.out hlt h)
                  have G1 := Aside0.mk g1
                  have G2 := Aside0.mk g2
                  have G3 := Aside0.mk g3
                  have G4 := Aside0.mk g4
                  clear hx l1 g1 l2 g2 l3 g3 l4 g4
                  generalize ws[k] = y at *
                  have HB1 := Aside0.mk (below_alloc HB.out (.cells #[.string y.f0, .slice B1 y.f1.length d1, .slice B2 y.f2.length d2, .slice B3 y.f3.length d3, .slice B4 y.f4.length d4] 125))
                  have HK1 := Aside0.mk (blk_alloc HK.out (.cells #[.string y.f0, .slice B1 y.f1.length d1, .slice B2 y.f2.length d2, .slice B3 y.f3.length d3, .slice B4 y.f4.length d4] 125))
                  have HY1 := Aside0.mk (blk_new wr (.cells #[.string y.f0, .slice B1 y.f1.length d1, .slice B2 y.f2.length d2, .slice B3 y.f3.length d3, .slice B4 y.f4.length d4] 125))
                  have HBL := Aside0.mk (below_alloc (Below.refl wr.heap.size wr) (.cells #[.string y.f0, .slice B1 y.f1.length d1, .slice B2 y.f2.length d2, .slice B3 y.f3.length d3, .slice B4 y.f4.length d4] 125))
                  have HSY : Aside0 (∀ w' : World, w'.heap[wr.heap.size]? = some (.cells #[.string y.f0, .slice B1 y.f1.length d1, .slice B2 y.f2.length d2, .slice B3 y.f3.length d3, .slice B4 y.f4.length d4] 125 (0, 0)) → w'.cell? ⟨wr.heap.size, 0, none⟩ = some (.string y.f0) ∧ w'.cell? ⟨wr.heap.size, 1, none⟩ = some (.slice B1 y.f1.length d1) ∧ w'.cell? ⟨wr.heap.size, 2, none⟩ = some (.slice B2 y.f2.length d2) ∧ w'.cell? ⟨wr.heap.size, 3, none⟩ = some (.slice B3 y.f3.length d3) ∧ w'.cell? ⟨wr.heap.size, 4, none⟩ = some (.slice B4 y.f4.length d4)) :=
                    ⟨fun w' hq => ⟨(blk_cell hq 0).trans rfl, (blk_cell hq 1).trans rfl, (blk_cell hq 2).trans rfl, (blk_cell hq 3).trans rfl, (blk_cell hq 4).trans rfl⟩⟩
                  go_wp2_with fail
                  refine (name_any y.f0 _).mono ?_
                  rintro e w1 ⟨⟨b, rfl, hb⟩, rfl⟩
                  clear hb
                  cases b with
                  | false =>
                    go_wp2_with fail
                    go_ret
                    exact ⟨⟨false, rfl, fun h => by cases h⟩, HB1.out⟩
                  | true =>
                    go_wp2_with fail
                    refine (head_any y.f1 y.f2 HSI.out.h _ B1 d1 B2 d2 (Kd.C_below G1.out HBL.out) (Kd.C_below G2.out HBL.out)).mono ?_
                    rintro e w2 ⟨⟨b, rfl, hb⟩, hbl⟩
                    have HBH := Aside0.mk hb
                    have HB2 := Aside0.mk (below_step HB1.out hbl)
                    have HK2 := Aside0.mk (blk_below HK1.out hbl)
                    have HY2 := Aside0.mk (blk_below HY1.out hbl)
                    have HBL2 := Aside0.mk (below_step HBL.out hbl)
                    clear hb hbl HB HB1 HK1 HY1 HBL x0 x1 x2 x3 x4 z0 z1 z2 z3 z4 HK
                    obtain ⟨y0, y1, y2, y3, y4⟩ := HSY.out w2 HY2.out
                    cases b with
                    | false =>
                      go_wp2_with fail
                      go_ret
                      exact ⟨⟨false, rfl, fun h => by cases h⟩, HB2.out⟩
                    | true =>
                      go_wp2_with fail
                      refine (ports_any y.f3 HSI.out.il HSI.out.i _ B3 d3 (Kd.C_below G3.out HBL2.out)).mono ?_
                      rintro e w3 ⟨⟨b, rfl, hb⟩, hbl⟩
                      have HBI := Aside0.mk hb
                      have HB3 := Aside0.mk (below_step HB2.out hbl)
                      have HK3 := Aside0.mk (blk_below HK2.out hbl)
                      have HY3 := Aside0.mk (blk_below HY2.out hbl)
                      have HBL3 := Aside0.mk (below_step HBL2.out hbl)
                      clear hb hbl HB2 HK2 HY2 HBL2 y0 y1 y2 y3 y4
                      obtain ⟨y0, y1, y2, y3, y4⟩ := HSY.out w3 HY3.out
                      cases b with
                      | false =>
                        go_wp2_with fail
                        go_ret
                        exact ⟨⟨false, rfl, fun h => by cases h⟩, HB3.out⟩
                      | true =>
                        go_wp2_with fail
                        refine (ports_any y.f4 HSI.out.ol HSI.out.o _ B4 d4 (Kd.C_below G4.out HBL3.out)).mono ?_
                        rintro e w4 ⟨⟨b, rfl, hb⟩, hbl⟩
                        have HBO := Aside0.mk hb
                        have HB4 := Aside0.mk (below_step HB3.out hbl)
                        have HK4 := Aside0.mk (blk_below HK3.out hbl)
                        have HY4 := Aside0.mk (blk_below HY3.out hbl)
                        clear hb hbl HB3 HK3 HY3 HBL3 y0 y1 y2 y3 y4
                        obtain ⟨y0, y1, y2, y3, y4⟩ := HSY.out w4 HY4.out
                        cases b with
                        | false =>
                          go_wp2_with fail
                          go_ret
                          exact ⟨⟨false, rfl, fun h => by cases h⟩, HB4.out⟩
                        | true =>
                          go_wp2_with fail
                          go_roundw
                          case rel => exact ⟨k + 1, by omega, by go_num, ⟨HW.out ⟨HBH.out (by first | rfl | trivial), HBI.out (by first | rfl | trivial), HBO.out (by first | rfl | trivial)⟩⟩, HB4, HK4⟩
                          case measure => simp [intOf]; omega
                · obtain rfl : k = ws.length := by omega
                  have HEW := Aside0.mk (take_whole HA.out)
                  go_wp2_with fail
                  go_ret
                  exact ⟨⟨true, rfl, fun _ => ⟨HN1.out (by first | rfl | trivial), HN2.out (by first | rfl | trivial), HVE.out, hil, HEI.out, hwl, HEW.out⟩⟩, HB.out⟩
        · have e2 : decide ((64 : Int) < (ws.length : Int)) = true := decide_eq_true (by omega)
          go_wp2_with fail
          go_ret
          exact ⟨⟨false, rfl, fun h => by cases h⟩, HB0.out⟩
      · have e1 : decide ((64 : Int) < (is.length : Int)) = true := decide_eq_true (by omega)
        go_wp2_with fail
        go_ret
        exact ⟨⟨false, rfl, fun h => by cases h⟩, HB0.out⟩
set_option maxHeartbeats 16000000 in
set_option maxRecDepth 100000 in
theorem right_ver (P : S120) (hsm : SmP P) (w : World) (A3 : Option Addr) (c3 : Nat) (A4 : Option Addr) (c4 : Nat) (hi : k142.C w A3 P.f3.length P.f3) (hw : k125.C w A4 P.f4.length P.f4)
    (hve : P.f2.toList ≠ []) :
    Calls Try.prog 75 #[.agg #[.string P.f0, .string P.f1, .string P.f2, .slice A3 P.f3.length c3, .slice A4 P.f4.length c4]] w (RightOk P w) := by
  obtain ⟨sp, nm, ve, is, ws⟩ := P
  have Hi : Aside0 (k142.C w A3 is.length is) := ⟨hi⟩
  have Hw : Aside0 (k125.C w A4 ws.length ws) := ⟨hw⟩
  have HSis : Aside0 (∀ i ∈ is, SmI i) := ⟨hsm.is⟩
  have HSws : Aside0 (∀ i ∈ ws, SmW i) := ⟨hsm.ws⟩
  replace hve : ve.toList ≠ [] := hve
  have HSV : Aside0 (ve.size ≤ 140737488351232) := ⟨hsm.ve⟩
  have v1 : (ve.toList == ([] : List UInt8)) = false := by rw [beq_eq_false_iff_ne]; exact hve
  have v2 : ve.toList.isEmpty = false := by rw [List.isEmpty_eq_false_iff]; exact hve
  have v3 : (ve.toList != ([] : List UInt8)) = true := by rw [bne_iff_ne]; exact hve
  clear hi hw hsm hve
  have HB0 := Aside0.mk (below_alloc (Below.refl w.heap.size w) (.cells #[.string sp, .string nm, .string ve, .slice A3 is.length c3, .slice A4 ws.length c4] 120))
  have HK0 := Aside0.mk (blk_new w (.cells #[.string sp, .string nm, .string ve, .slice A3 is.length c3, .slice A4 ws.length c4] 120))
  have HS : Aside0 (∀ w' : World, w'.heap[w.heap.size]? = some (.cells #[.string sp, .string nm, .string ve, .slice A3 is.length c3, .slice A4 ws.length c4] 120 (0, 0)) → w'.cell? ⟨w.heap.size, 0, none⟩ = some (.string sp) ∧ w'.cell? ⟨w.heap.size, 1, none⟩ = some (.string nm) ∧ w'.cell? ⟨w.heap.size, 2, none⟩ = some (.string ve) ∧ w'.cell? ⟨w.heap.size, 3, none⟩ = some (.slice A3 is.length c3) ∧ w'.cell? ⟨w.heap.size, 4, none⟩ = some (.slice A4 ws.length c4)) :=
    ⟨fun w' hq => ⟨(blk_cell hq 0).trans rfl, (blk_cell hq 1).trans rfl, (blk_cell hq 2).trans rfl, (blk_cell hq 3).trans rfl, (blk_cell hq 4).trans rfl⟩⟩
  go_enter Try.func75, Try.ntmps75
  go_wp2_with fail
  refine (name_any sp _).mono ?_
  rintro e w1 ⟨⟨b, rfl, hb⟩, rfl⟩
  have HN1 := Aside0.mk hb
  clear hb
  cases b with
  | false =>
    go_wp2_with fail
    go_ret
    exact ⟨⟨false, rfl, fun h => by cases h⟩, HB0.out⟩
  | true =>
    go_wp2_with fail
    refine (name_any nm _).mono ?_
    rintro e w1 ⟨⟨b, rfl, hb⟩, rfl⟩
    have HN2 := Aside0.mk hb
    clear hb
    cases b with
    | false =>
      go_wp2_with fail
      go_ret
      exact ⟨⟨false, rfl, fun h => by cases h⟩, HB0.out⟩
    | true =>
      go_wp2_with fail
      refine (version_any ve _ (by have := HSV.out; omega)).mono ?_
      rintro e w1 ⟨⟨b, rfl, hb⟩, rfl⟩
      have HVE := Aside0.mk hb
      clear hb
      cases b with
      | false =>
        go_wp2_with fail
        go_ret
        exact ⟨⟨false, rfl, fun h => by cases h⟩, HB0.out⟩
      | true =>
        replace HVE : Aside0 (ve.size ≤ 30) := ⟨HVE.out (by first | rfl | trivial)⟩
        by_cases hil : is.length ≤ 64
        · have e1 : decide ((64 : Int) < (is.length : Int)) = false := decide_eq_false (by omega)
          by_cases hwl : ws.length ≤ 64
          · have e2 : decide ((64 : Int) < (ws.length : Int)) = false := decide_eq_false (by omega)
            go_wp2_with fail
            clear e1 e2 v1 v2 v3
            go_loopw [3] (fun v3 wr => ∃ k : Nat, k ≤ is.length ∧ v3 = .int .i64 k ∧ Aside0 (∀ y ∈ is.take k, WfI y) ∧ Aside0 (Below w.heap.size w wr) ∧ Aside0 (wr.heap[w.heap.size]? = some (.cells #[.string sp, .string nm, .string ve, .slice A3 is.length c3, .slice A4 ws.length c4] 120 (0, 0)))) (fun v3 _ => is.length - (intOf v3).toNat)
            case atStart => exact ⟨0, Nat.zero_le _, rfl, ⟨take_none⟩, HB0, HK0⟩
            case round =>
              clear HB0 HK0
              obtain ⟨k, hk, rfl, HA, HB, HK⟩ := hrel
              obtain ⟨z0, z1, z2, z3, z4⟩ := HS.out wr HK.out
              by_cases hlt : k < is.length
              · obtain ⟨ad, B1, d1, B2, d2, B3, d3, hae, hx, l1, g1, l2, g2, l3, g3⟩ := el142 (Kd.C_below Hi.out HB.out) hlt
                rw [hae] at z3
                clear hae
                obtain ⟨x0, x1, x2, x3⟩ := hx wr (Below.refl _ _)
                have HSI := Aside0.mk (HSis.out is[k] (List.getElem_mem hlt))
                have HW := Aside0.mk (fun h => take_all (P := WfI) HA.out hlt h)
                have G1 := Aside0.mk g1
                have G2 := Aside0.mk g2
                have G3 := Aside0.mk g3
                clear hx l1 g1 l2 g2 l3 g3
                generalize is[k] = y at *
                have HB1 := Aside0.mk (below_alloc HB.out (.cells #[.string y.f0, .slice B1 y.f1.length d1, .slice B2 y.f2.length d2, .slice B3 y.f3.length d3] 142))
                have HK1 := Aside0.mk (blk_alloc HK.out (.cells #[.string y.f0, .slice B1 y.f1.length d1, .slice B2 y.f2.length d2, .slice B3 y.f3.length d3] 142))
                have HY1 := Aside0.mk (blk_new wr (.cells #[.string y.f0, .slice B1 y.f1.length d1, .slice B2 y.f2.length d2, .slice B3 y.f3.length d3] 142))
                have HBL := Aside0.mk (below_alloc (Below.refl wr.heap.size wr) (.cells #[.string y.f0, .slice B1 y.f1.length d1, .slice B2 y.f2.length d2, .slice B3 y.f3.length d3] 142))
                have HSY : Aside0 (∀ w' : World, w'.heap[wr.heap.size]? = some (.cells #[.string y.f0, .slice B1 y.f1.length d1, .slice B2 y.f2.length d2, .slice B3 y.f3.length d3] 142 (0, 0)) → w'.cell? ⟨wr.heap.size, 0, none⟩ = some (.string y.f0) ∧ w'.cell? ⟨wr.heap.size, 1, none⟩ = some (.slice B1 y.f1.length d1) ∧ w'.cell? ⟨wr.heap.size, 2, none⟩ = some (.slice B2 y.f2.length d2) ∧ w'.cell? ⟨wr.heap.size, 3, none⟩ = some (.slice B3 y.f3.length d3)) :=
                  ⟨fun w' hq => ⟨(blk_cell hq 0).trans rfl, (blk_cell hq 1).trans rfl, (blk_cell hq 2).trans rfl, (blk_cell hq 3).trans rfl⟩⟩
                go_wp2_with fail
                refine (name_any y.f0 _).mono ?_
                rintro e w1 ⟨⟨b, rfl, hb⟩, rfl⟩
                have HBN := Aside0.mk hb
                clear hb
                cases b with
                | false =>
                  go_wp2_with fail
                  go_ret
                  exact ⟨⟨false, rfl, fun h => by cases h⟩, HB1.out⟩
                | true =>
                  go_wp2_with fail
                  refine (head_any y.f1 y.f2 HSI.out.h _ B1 d1 B2 d2 (Kd.C_below G1.out HBL.out) (Kd.C_below G2.out HBL.out)).mono ?_
                  rintro e w2 ⟨⟨b, rfl, hb⟩, hbl⟩
                  have HBH := Aside0.mk hb
                  have HB2 := Aside0.mk (below_step HB1.out hbl)
                  have HK2 := Aside0.mk (blk_below HK1.out hbl)
                  have HY2 := Aside0.mk (blk_below HY1.out hbl)
                  have HBL2 := Aside0.mk (below_step HBL.out hbl)
                  clear hb hbl HB HB1 HK1 HY1 HBL x0 x1 x2 x3 z0 z1 z2 z3 z4 HK
                  obtain ⟨y0, y1, y2, y3⟩ := HSY.out w2 HY2.out
                  cases b with
                  | false =>
                    go_wp2_with fail
                    go_ret
                    exact ⟨⟨false, rfl, fun h => by cases h⟩, HB2.out⟩
                  | true =>
                    by_cases hfl : y.f3.length ≤ 64
                    · have e1 : decide ((64 : Int) < (y.f3.length : Int)) = false := decide_eq_false (by omega)
                      go_wp2_with fail
                      clear y0 y1 y2 y3 e1
                      have HG3 := Aside0.mk (fun w' (hb : Below wr.heap.size wr w') => Kd.C_below G3.out hb)
                      generalize hgy : wr.heap.size = gy at *
                      have HGY := Aside0.mk hgy
                      clear hgy
                      go_loopw [5] (fun v5 wq => ∃ j : Nat, j ≤ y.f3.length ∧ v5 = .int .i64 j ∧ Aside0 (∀ f ∈ y.f3.take j, WfF f) ∧ Aside0 (Below w.heap.size w wq) ∧ Aside0 (wq.heap[w.heap.size]? = some (.cells #[.string sp, .string nm, .string ve, .slice A3 is.length c3, .slice A4 ws.length c4] 120 (0, 0))) ∧ Aside0 (wq.heap[gy]? = some (.cells #[.string y.f0, .slice B1 y.f1.length d1, .slice B2 y.f2.length d2, .slice B3 y.f3.length d3] 142 (0, 0))) ∧ Aside0 (Below gy wr wq)) (fun v5 _ => y.f3.length - (intOf v5).toNat)
                      case atStart => exact ⟨0, Nat.zero_le _, rfl, ⟨take_none⟩, HB2, HK2, HY2, HBL2⟩
                      case round =>
                        clear HB2 HK2 HY2 HBL2
                        rename_i wq
                        obtain ⟨j, hj, rfl, HA2, HB2, HK2, HY2, HBL2⟩ := hrel
                        obtain ⟨y0, y1, y2, y3⟩ := HSY.out _ HY2.out
                        by_cases hjl : j < y.f3.length
                        · obtain ⟨ad2, E2, e2, E3, e3, E5, e5, E6, e6, hae, hx, l2, g2, l3, g3, l5, g5, l6, g6⟩ := el146 (HG3.out _ HBL2.out) hjl
                          have HAE := Aside0.mk hae
                          rw [hae] at y3
                          clear hae
                          have HX := Aside0.mk hx
                          have HYF := Aside0.mk (FA.mk g2 l2 g3 l3 (TA.mk g5 l5 g6 l6))
                          have HSF := Aside0.mk (HSI.out.fs y.f3[j] (List.getElem_mem hjl))
                          have HWF := Aside0.mk (fun h => take_all (P := WfF) HA2.out hjl h)
                          clear hx l2 g2 l3 g3 l5 g5 l6 g6
                          generalize y.f3[j] = f at *
                          obtain ⟨x0, x1, x2, x3, x4, x5, x6, x7⟩ := HX.out _ (Below.refl _ _)
                          go_wp2_with fail
                          refine (func_any f HSF.out _ E2 e2 E3 e3 E5 e5 E6 e6 HYF.out).mono ?_
                          rintro e w3 ⟨⟨b, rfl, hb⟩, hbl⟩
                          have HBB := Aside0.mk hb
                          have HB3 := Aside0.mk (below_step HB2.out hbl)
                          have HK3 := Aside0.mk (blk_below HK2.out hbl)
                          have HY3 := Aside0.mk (blk_below HY2.out hbl)
                          have HBL3 := Aside0.mk (below_then HBL2.out (by rw [← HGY.out]; exact HBL2.out.size) hbl)
                          clear y0 y1 y2 y3 x0 x1 x2 x3 x4 x5 x6 x7
                          obtain ⟨x0, x1, x2, x3, x4, x5, x6, x7⟩ := HX.out w3 hbl
                          obtain ⟨y0, y1, y2, y3⟩ := HSY.out w3 HY3.out
                          rw [HAE.out] at y3
                          clear hb hbl HB2 HK2 HY2 HBL2 HX
                          cases b with
                          | false =>
                            go_wp2_with fail
                            go_ret
                            exact ⟨⟨false, rfl, fun h => by cases h⟩, HB3.out⟩
                          | true =>
                            go_wp2_with fail
                            all_goals first
                              | (go_ret; exact ⟨⟨false, rfl, fun h => by cases h⟩, HB3.out⟩)
                              | (go_roundw
                                 case rel => exact ⟨j + 1, by omega, by go_num, ⟨HWF.out (HBB.out (by first | rfl | trivial))⟩, HB3, HK3, HY3, HBL3⟩
                                 case measure => simp [intOf]; omega)
                        · obtain rfl : j = y.f3.length := by omega
                          have HE2 := Aside0.mk (take_whole HA2.out)
                          go_wp2_with fail
                          go_roundw
                          case rel => exact ⟨k + 1, by omega, by go_num, ⟨HW.out ⟨HBN.out (by first | rfl | trivial), HBH.out (by first | rfl | trivial), hfl, HE2.out⟩⟩, HB2, HK2⟩
                          case measure => simp [intOf]; omega
                    · have e1 : decide ((64 : Int) < (y.f3.length : Int)) = true := decide_eq_true (by omega)
                      go_wp2_with fail
                      go_ret
                      exact ⟨⟨false, rfl, fun h => by cases h⟩, HB2.out⟩
              · obtain rfl : k = is.length := by omega
                have HEI := Aside0.mk (take_whole HA.out)
                clear HA hlt hk
                go_wp2_with fail
                clear z0 z1 z2 z3 z4
                go_loopw [6] (fun v6 wq => ∃ k : Nat, k ≤ ws.length ∧ v6 = .int .i64 k ∧ Aside0 (∀ y ∈ ws.take k, WfW y) ∧ Aside0 (Below w.heap.size w wq) ∧ Aside0 (wq.heap[w.heap.size]? = some (.cells #[.string sp, .string nm, .string ve, .slice A3 is.length c3, .slice A4 ws.length c4] 120 (0, 0)))) (fun v6 _ => ws.length - (intOf v6).toNat)
                case atStart => exact ⟨0, Nat.zero_le _, rfl, ⟨take_none⟩, HB, HK⟩
                case round =>
                  clear HB HK
                  obtain ⟨k, hk, rfl, HA, HB, HK⟩ := hrel
                  obtain ⟨z0, z1, z2, z3, z4⟩ := HS.out wr HK.out
                  by_cases hlt : k < ws.length
                  · obtain ⟨ad, B1, d1, B2, d2, B3, d3, B4, d4, hae, hx, l1, g1, l2, g2, l3, g3, l4, g4⟩ := el125 (Kd.C_below Hw.out HB.out) hlt
                    rw [hae] at z4
                    clear hae
                    obtain ⟨x0, x1, x2, x3, x4⟩ := hx wr (Below.refl _ _)
                    have HSI := Aside0.mk (HSws.out ws[k] (List.getElem_mem hlt))
                    have HW := Aside0.mk (fun h => take_all (P := WfW) HA.out hlt h)
                    have G1 := Aside0.mk g1
                    have G2 := Aside0.mk g2
                    have G3 := Aside0.mk g3
                    have G4 := Aside0.mk g4
                    clear hx l1 g1 l2 g2 l3 g3 l4 g4
                    generalize ws[k] = y at *
                    have HB1 := Aside0.mk (below_alloc HB.out (.cells #[.string y.f0, .slice B1 y.f1.length d1, .slice B2 y.f2.length d2, .slice B3 y.f3.length d3, .slice B4 y.f4.length d4] 125))
                    have HK1 := Aside0.mk (blk_alloc HK.out (.cells #[.string y.f0, .slice B1 y.f1.length d1, .slice B2 y.f2.length d2, .slice B3 y.f3.length d3, .slice B4 y.f4.length d4] 125))
                    have HY1 := Aside0.mk (blk_new wr (.cells #[.string y.f0, .slice B1 y.f1.length d1, .slice B2 y.f2.length d2, .slice B3 y.f3.length d3, .slice B4 y.f4.length d4] 125))
                    have HBL := Aside0.mk (below_alloc (Below.refl wr.heap.size wr) (.cells #[.string y.f0, .slice B1 y.f1.length d1, .slice B2 y.f2.length d2, .slice B3 y.f3.length d3, .slice B4 y.f4.length d4] 125))
                    have HSY : Aside0 (∀ w' : World, w'.heap[wr.heap.size]? = some (.cells #[.string y.f0, .slice B1 y.f1.length d1, .slice B2 y.f2.length d2, .slice B3 y.f3.length d3, .slice B4 y.f4.length d4] 125 (0, 0)) → w'.cell? ⟨wr.heap.size, 0, none⟩ = some (.string y.f0) ∧ w'.cell? ⟨wr.heap.size, 1, none⟩ = some (.slice B1 y.f1.length d1) ∧ w'.cell? ⟨wr.heap.size, 2, none⟩ = some (.slice B2 y.f2.length d2) ∧ w'.cell? ⟨wr.heap.size, 3, none⟩ = some (.slice B3 y.f3.length d3) ∧ w'.cell? ⟨wr.heap.size, 4, none⟩ = some (.slice B4 y.f4.length d4)) :=
                      ⟨fun w' hq => ⟨(blk_cell hq 0).trans rfl, (blk_cell hq 1).trans rfl, (blk_cell hq 2).trans rfl, (blk_cell hq 3).trans rfl, (blk_cell hq 4).trans rfl⟩⟩
                    go_wp2_with fail
                    refine (name_any y.f0 _).mono ?_
                    rintro e w1 ⟨⟨b, rfl, hb⟩, rfl⟩
                    clear hb
                    cases b with
                    | false =>
                      go_wp2_with fail
                      go_ret
                      exact ⟨⟨false, rfl, fun h => by cases h⟩, HB1.out⟩
                    | true =>
                      go_wp2_with fail
                      refine (head_any y.f1 y.f2 HSI.out.h _ B1 d1 B2 d2 (Kd.C_below G1.out HBL.out) (Kd.C_below G2.out HBL.out)).mono ?_
                      rintro e w2 ⟨⟨b, rfl, hb⟩, hbl⟩
                      have HBH := Aside0.mk hb
                      have HB2 := Aside0.mk (below_step HB1.out hbl)
                      have HK2 := Aside0.mk (blk_below HK1.out hbl)
                      have HY2 := Aside0.mk (blk_below HY1.out hbl)
                      have HBL2 := Aside0.mk (below_step HBL.out hbl)
                      clear hb hbl HB HB1 HK1 HY1 HBL x0 x1 x2 x3 x4 z0 z1 z2 z3 z4 HK
                      obtain ⟨y0, y1, y2, y3, y4⟩ := HSY.out w2 HY2.out
                      cases b with
                      | false =>
                        go_wp2_with fail
                        go_ret
                        exact ⟨⟨false, rfl, fun h => by cases h⟩, HB2.out⟩
                      | true =>
                        go_wp2_with fail
                        refine (ports_any y.f3 HSI.out.il HSI.out.i _ B3 d3 (Kd.C_below G3.out HBL2.out)).mono ?_
                        rintro e w3 ⟨⟨b, rfl, hb⟩, hbl⟩
                        have HBI := Aside0.mk hb
                        have HB3 := Aside0.mk (below_step HB2.out hbl)
                        have HK3 := Aside0.mk (blk_below HK2.out hbl)
                        have HY3 := Aside0.mk (blk_below HY2.out hbl)
                        have HBL3 := Aside0.mk (below_step HBL2.out hbl)
                        clear hb hbl HB2 HK2 HY2 HBL2 y0 y1 y2 y3 y4
                        obtain ⟨y0, y1, y2, y3, y4⟩ := HSY.out w3 HY3.out
                        cases b with
                        | false =>
                          go_wp2_with fail
                          go_ret
                          exact ⟨⟨false, rfl, fun h => by cases h⟩, HB3.out⟩
                        | true =>
                          go_wp2_with fail
                          refine (ports_any y.f4 HSI.out.ol HSI.out.o _ B4 d4 (Kd.C_below G4.out HBL3.out)).mono ?_
                          rintro e w4 ⟨⟨b, rfl, hb⟩, hbl⟩
                          have HBO := Aside0.mk hb
                          have HB4 := Aside0.mk (below_step HB3.out hbl)
                          have HK4 := Aside0.mk (blk_below HK3.out hbl)
                          have HY4 := Aside0.mk (blk_below HY3.out hbl)
                          clear hb hbl HB3 HK3 HY3 HBL3 y0 y1 y2 y3 y4
                          obtain ⟨y0, y1, y2, y3, y4⟩ := HSY.out w4 HY4.out
                          cases b with
                          | false =>
                            go_wp2_with fail
                            go_ret
                            exact ⟨⟨false, rfl, fun h => by cases h⟩, HB4.out⟩
                          | true =>
                            go_wp2_with fail
                            go_roundw
                            case rel => exact ⟨k + 1, by omega, by go_num, ⟨HW.out ⟨HBH.out (by first | rfl | trivial), HBI.out (by first | rfl | trivial), HBO.out (by first | rfl | trivial)⟩⟩, HB4, HK4⟩
                            case measure => simp [intOf]; omega
                  · obtain rfl : k = ws.length := by omega
                    have HEW := Aside0.mk (take_whole HA.out)
                    go_wp2_with fail
                    go_ret
                    exact ⟨⟨true, rfl, fun _ => ⟨HN1.out (by first | rfl | trivial), HN2.out (by first | rfl | trivial), HVE.out, hil, HEI.out, hwl, HEW.out⟩⟩, HB.out⟩
          · have e2 : decide ((64 : Int) < (ws.length : Int)) = true := decide_eq_true (by omega)
            go_wp2_with fail
            go_ret
            exact ⟨⟨false, rfl, fun h => by cases h⟩, HB0.out⟩
        · have e1 : decide ((64 : Int) < (is.length : Int)) = true := decide_eq_true (by omega)
          go_wp2_with fail
          go_ret
          exact ⟨⟨false, rfl, fun h => by cases h⟩, HB0.out⟩
/-- The whole contract of Right: it answers some truth, true only for a package that may be written, and touches nothing old. -/
theorem right_any (P : S120) (hsm : SmP P) (w : World) (A3 : Option Addr) (c3 : Nat) (A4 : Option Addr) (c4 : Nat) (hi : k142.C w A3 P.f3.length P.f3) (hw : k125.C w A4 P.f4.length P.f4) :
    Calls Try.prog 75 #[.agg #[.string P.f0, .string P.f1, .string P.f2, .slice A3 P.f3.length c3, .slice A4 P.f4.length c4]] w (RightOk P w) := by
  by_cases hve : P.f2.toList = []
  · exact right_no P hsm w A3 c3 A4 c4 hi hw hve
  · exact right_ver P hsm w A3 c3 A4 c4 hi hw hve
end Go.Proofs.Ytmpmcffhlnlejaa.Wld
end
section
namespace Go.Proofs.Ytmpmcffhlnlejaa.PSubFits
open Go.RowKit Go.Proofs.YtmpmcffhlnlejaaW.PrintWords Go.Proofs.YtmpmcffhlnlejaaW.PrintLast Go.Proofs.YtmpmcffhlnlejaaW.PrintMore
attribute [local go_sem] max2_int min2_int max_two min_two max_three min_three max_four min_four   -- for this text's walks alone
set_option linter.unusedVariables false
set_option linter.unusedSimpArgs false
-- the values' own types
structure S25 where
  f0 : Int
  f1 : (List ByteArray)
  f2 : (List S25)
  f3 : Int
def z25 : S25 := ⟨(0 : Int), ([] : List ByteArray), ([] : List S25), (0 : Int)⟩
def F25 (d : Kd S25) : Kd S25 := Kd.iso (Kd.pair (Kd.int .i64) (Kd.pair (Kd.slice 9 Kd.string) (Kd.pair (Kd.slice 25 d) (Kd.int .i64)))) (fun x : S25 => (x.f0, x.f1, x.f2, x.f3))
theorem mono25 : Kd.Mono F25 := Kd.mono_iso _ (Kd.mono_pair (Kd.mono_const _) (Kd.mono_pair (Kd.mono_const _) (Kd.mono_pair (Kd.mono_slice 25 Kd.mono_id) (Kd.mono_const _))))
theorem sub25 : Kd.Sub F25 [9, 25] := Kd.sub_iso _ (Kd.sub_pair (Kd.sub_const _ (by decide)) (Kd.sub_pair (Kd.sub_const _ (by decide)) (Kd.sub_pair (Kd.sub_slice 25 (by decide) Kd.sub_id) (Kd.sub_const _ (by decide)))))
theorem sz25 : ∀ n, (Kd.upto F25 4 [9, 25] n).sz = 4 := Kd.upto_sz (fun _ => rfl)
def k25 : Kd S25 := Kd.fix F25 4 [9, 25] sz25 (Kd.upto_E sub25)
theorem k25_open {w : World} {x : S25} {cs : List Value} (h : k25.K w x cs) : ∃ A1 c1 A2 c2, cs = [.int .i64 x.f0, .slice A1 x.f1.length c1, .slice A2 x.f2.length c2, .int .i64 x.f3] ∧ x.f1.length ≤ c1 ∧ Kd.string.C w A1 x.f1.length x.f1 ∧ x.f2.length ≤ c2 ∧ k25.C w A2 x.f2.length x.f2 := by
  obtain ⟨n, h⟩ := h
  cases n with
  | zero => exact h.elim
  | succ n =>
    obtain ⟨_, _, rfl, rfl, ⟨_, _, rfl, ⟨A1, c1, rfl, l1, g1⟩, ⟨_, _, rfl, ⟨A2, c2, rfl, l2, g2⟩, rfl⟩⟩⟩ := h
    exact ⟨A1, c1, A2, c2, rfl, l1, g1, l2, Kd.fix_C g2⟩
theorem k25_mkM (w : World) (base : Nat) (ok : Nat → Prop) (x : S25) {v1 : Value} (g1 : Kd.string.R 9 w base ok v1 x.f1) {v2 : Value} (g2 : k25.R 25 w base ok v2 x.f2) : k25.M w base ok x [.int .i64 x.f0, v1, v2, .int .i64 x.f3] := by
  obtain ⟨n2, q2⟩ := Kd.fix_R_back mono25 g2
  have r2 := Kd.upto_R_le mono25 sz25 (show n2 ≤ n2 by omega) q2
  exact ⟨n2 + 1, ⟨[.int .i64 x.f0], [v1, v2, .int .i64 x.f3], rfl, rfl, ⟨[v1], [v2, .int .i64 x.f3], rfl, ⟨v1, rfl, g1⟩, ⟨[v2], [.int .i64 x.f3], rfl, ⟨v2, rfl, r2⟩, rfl⟩⟩⟩⟩
def rd_T25 (xs : List S25) (i : Int) : S25 := xs.getD i.toNat z25
theorem at_T25 {w : World} {A : Option Addr} {n : Nat} {xs : List S25} (h : Kd.C k25 w A n xs) (i : Int) (h0 : 0 ≤ i) (h1 : i < n) : ∃ ad A1 c1 A2 c2, A = some ad ∧ w.cell? (ad.add (i.toNat * 4)) = some (.int .i64 (rd_T25 xs i).f0) ∧ w.cell? ⟨(ad.add (i.toNat * 4)).block, (ad.add (i.toNat * 4)).off + 1, none⟩ = some (.slice A1 (rd_T25 xs i).f1.length c1) ∧ w.cell? ⟨(ad.add (i.toNat * 4)).block, (ad.add (i.toNat * 4)).off + 2, none⟩ = some (.slice A2 (rd_T25 xs i).f2.length c2) ∧ w.cell? ⟨(ad.add (i.toNat * 4)).block, (ad.add (i.toNat * 4)).off + 3, none⟩ = some (.int .i64 (rd_T25 xs i).f3) ∧ (rd_T25 xs i).f1.length ≤ c1 ∧ Kd.string.C w A1 (rd_T25 xs i).f1.length (rd_T25 xs i).f1 ∧ (rd_T25 xs i).f2.length ≤ c2 ∧ k25.C w A2 (rd_T25 xs i).f2.length (rd_T25 xs i).f2 := by
  obtain ⟨ad, c, e, _, hK, hc0⟩ := Kd.C_get h z25 i h0 h1
  have hc : ∀ j u, c[j]? = some u → w.cell? (ad.add (i.toNat * 4 + j)) = some u := hc0
  obtain ⟨A1, c1, A2, c2, rfl, l1, g1, l2, g2⟩ := k25_open hK
  exact ⟨ad, A1, c1, A2, c2, e, hc 0 _ rfl, by rw [← add_field _ _ 1 (by omega)]; exact hc 1 _ rfl, by rw [← add_field _ _ 2 (by omega)]; exact hc 2 _ rfl, by rw [← add_field _ _ 3 (by omega)]; exact hc 3 _ rfl, l1, g1, l2, g2⟩
structure S27 where
  f0 : ByteArray
  f1 : (List ByteArray)
  f2 : (List S25)
  f3 : S25
def z27 : S27 := ⟨(⟨#[]⟩ : ByteArray), ([] : List ByteArray), ([] : List S25), z25⟩
def k27 : Kd S27 := Kd.iso (Kd.pair Kd.string (Kd.pair (Kd.slice 9 Kd.string) (Kd.pair (Kd.slice 25 k25) k25))) (fun x : S27 => (x.f0, x.f1, x.f2, x.f3))
theorem k27_open {w : World} {x : S27} {cs : List Value} (h : k27.K w x cs) : ∃ A1 c1 A2 c2 A4 c4 A5 c5, cs = [.string x.f0, .slice A1 x.f1.length c1, .slice A2 x.f2.length c2, .int .i64 x.f3.f0, .slice A4 x.f3.f1.length c4, .slice A5 x.f3.f2.length c5, .int .i64 x.f3.f3] ∧ x.f1.length ≤ c1 ∧ Kd.string.C w A1 x.f1.length x.f1 ∧ x.f2.length ≤ c2 ∧ k25.C w A2 x.f2.length x.f2 ∧ x.f3.f1.length ≤ c4 ∧ Kd.string.C w A4 x.f3.f1.length x.f3.f1 ∧ x.f3.f2.length ≤ c5 ∧ k25.C w A5 x.f3.f2.length x.f3.f2 := by
  obtain ⟨_, _, rfl, rfl, ⟨_, _, rfl, ⟨A1, c1, rfl, l1, g1⟩, ⟨_, _, rfl, ⟨A2, c2, rfl, l2, g2⟩, s3⟩⟩⟩ := h
  obtain ⟨A4, c4, A5, c5, rfl, l4, g4, l5, g5⟩ := k25_open s3
  exact ⟨A1, c1, A2, c2, A4, c4, A5, c5, rfl, l1, g1, l2, g2, l4, g4, l5, g5⟩
theorem k27_mkM (w : World) (base : Nat) (ok : Nat → Prop) (x : S27) {v1 : Value} (g1 : Kd.string.R 9 w base ok v1 x.f1) {v2 : Value} (g2 : k25.R 25 w base ok v2 x.f2) {v4 : Value} (g4 : Kd.string.R 9 w base ok v4 x.f3.f1) {v5 : Value} (g5 : k25.R 25 w base ok v5 x.f3.f2) : k27.M w base ok x [.string x.f0, v1, v2, .int .i64 x.f3.f0, v4, v5, .int .i64 x.f3.f3] := ⟨[.string x.f0], [v1, v2, .int .i64 x.f3.f0, v4, v5, .int .i64 x.f3.f3], rfl, rfl, ⟨[v1], [v2, .int .i64 x.f3.f0, v4, v5, .int .i64 x.f3.f3], rfl, ⟨v1, rfl, g1⟩, ⟨[v2], [.int .i64 x.f3.f0, v4, v5, .int .i64 x.f3.f3], rfl, ⟨v2, rfl, g2⟩, (k25_mkM w base ok x.f3 g4 g5)⟩⟩⟩
def rd_T27 (xs : List S27) (i : Int) : S27 := xs.getD i.toNat z27
theorem at_T27 {w : World} {A : Option Addr} {n : Nat} {xs : List S27} (h : Kd.C k27 w A n xs) (i : Int) (h0 : 0 ≤ i) (h1 : i < n) : ∃ ad A1 c1 A2 c2 A4 c4 A5 c5, A = some ad ∧ w.cell? (ad.add (i.toNat * 7)) = some (.string (rd_T27 xs i).f0) ∧ w.cell? ⟨(ad.add (i.toNat * 7)).block, (ad.add (i.toNat * 7)).off + 1, none⟩ = some (.slice A1 (rd_T27 xs i).f1.length c1) ∧ w.cell? ⟨(ad.add (i.toNat * 7)).block, (ad.add (i.toNat * 7)).off + 2, none⟩ = some (.slice A2 (rd_T27 xs i).f2.length c2) ∧ w.cell? ⟨(ad.add (i.toNat * 7)).block, (ad.add (i.toNat * 7)).off + 3, none⟩ = some (.int .i64 (rd_T27 xs i).f3.f0) ∧ w.cell? ⟨(ad.add (i.toNat * 7)).block, (ad.add (i.toNat * 7)).off + 4, none⟩ = some (.slice A4 (rd_T27 xs i).f3.f1.length c4) ∧ w.cell? ⟨(ad.add (i.toNat * 7)).block, (ad.add (i.toNat * 7)).off + 5, none⟩ = some (.slice A5 (rd_T27 xs i).f3.f2.length c5) ∧ w.cell? ⟨(ad.add (i.toNat * 7)).block, (ad.add (i.toNat * 7)).off + 6, none⟩ = some (.int .i64 (rd_T27 xs i).f3.f3) ∧ (rd_T27 xs i).f1.length ≤ c1 ∧ Kd.string.C w A1 (rd_T27 xs i).f1.length (rd_T27 xs i).f1 ∧ (rd_T27 xs i).f2.length ≤ c2 ∧ k25.C w A2 (rd_T27 xs i).f2.length (rd_T27 xs i).f2 ∧ (rd_T27 xs i).f3.f1.length ≤ c4 ∧ Kd.string.C w A4 (rd_T27 xs i).f3.f1.length (rd_T27 xs i).f3.f1 ∧ (rd_T27 xs i).f3.f2.length ≤ c5 ∧ k25.C w A5 (rd_T27 xs i).f3.f2.length (rd_T27 xs i).f3.f2 := by
  obtain ⟨ad, c, e, _, hK, hc0⟩ := Kd.C_get h z27 i h0 h1
  have hc : ∀ j u, c[j]? = some u → w.cell? (ad.add (i.toNat * 7 + j)) = some u := hc0
  obtain ⟨A1, c1, A2, c2, A4, c4, A5, c5, rfl, l1, g1, l2, g2, l4, g4, l5, g5⟩ := k27_open hK
  exact ⟨ad, A1, c1, A2, c2, A4, c4, A5, c5, e, hc 0 _ rfl, by rw [← add_field _ _ 1 (by omega)]; exact hc 1 _ rfl, by rw [← add_field _ _ 2 (by omega)]; exact hc 2 _ rfl, by rw [← add_field _ _ 3 (by omega)]; exact hc 3 _ rfl, by rw [← add_field _ _ 4 (by omega)]; exact hc 4 _ rfl, by rw [← add_field _ _ 5 (by omega)]; exact hc 5 _ rfl, by rw [← add_field _ _ 6 (by omega)]; exact hc 6 _ rfl, l1, g1, l2, g2, l4, g4, l5, g5⟩
end Go.Proofs.Ytmpmcffhlnlejaa.PSubFits
end
