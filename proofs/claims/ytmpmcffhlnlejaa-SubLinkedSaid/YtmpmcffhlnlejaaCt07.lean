/- A part of the proof of the law that its last file names: texts of this seat's author and of the kit's printer, cut to what the theorem uses. Part 7: Wld6. -/
import Derived.Test.YtmpmcffhlnlejaaCt06
import Derived.Test.YtmpmcffhlnlejaaProg
import Derived.Below
import Derived.Deep.Draws
import Derived.Deep.AppendLies
import Derived.Maps.AppendAt
import Derived.OwnWalk
import Derived.Laws.BytesArg
import Derived.Laws.MakeOwn
import Derived.Laws.OwnMore
import Derived.Deep.OwnRows
import Derived.Tactics
import Derived.Lib.ConvBytes
import Derived.Laws.Slices
import Derived.WalkKit
import Derived.KernelRfl
import Derived.RowKit3
import Derived.Deep.LoopGhost
import Derived.Deep.QuietTactic
import Derived.BigQuiet
import Derived.WideLaws
import Derived.Deep.DeepCutAuto
import Derived.Deep.CutBlock
import Derived.Deep.RegionHeld3
import Derived.Laws.Rows
import Derived.Lib.AppendStr
import Derived.ArgAppend
import Derived.Laws.IdiomCopy
import Derived.OrdersHeld
import Derived.Laws.BitsLemmas
import Derived.RowKit
section
namespace Go.Proofs.Ytmpmcffhlnlejaa.Wld
open Go.RowKit Go.Proofs.YtmpmcffhlnlejaaW.PrintWords Go.Proofs.YtmpmcffhlnlejaaW.PrintLast Go.Proofs.YtmpmcffhlnlejaaW.PrintMore
open Go.Proofs.Ytmpmcffhlnlejaa.PSubSelf
set_option linter.unusedVariables false
set_option linter.unusedSimpArgs false
structure WfU (u : S151) : Prop where
  na : u.f1.length = u.f2.length
  nl : u.f1.length ≤ 64
structure SmU (u : S151) : Prop where
  n : u.f1.length ≤ 140737488351232
  p0 : u.f0.f0.size ≤ 140737488351232
  p1 : u.f0.f1.size ≤ 140737488351232
structure WfH (us : List S151) (ds : List S154) : Prop where
  ul : us.length ≤ 64
  us : ∀ u ∈ us, WfU u
  dl : ds.length ≤ 64
  ds : ∀ d ∈ ds, WfD d
structure SmH (us : List S151) (ds : List S154) : Prop where
  ul : us.length ≤ 140737488351232
  us : ∀ u ∈ us, SmU u
  dl : ds.length ≤ 140737488351232
  ds : ∀ d ∈ ds, SmD d
def HeadOk (us : List S151) (ds : List S154) (w : World) (e : Ending) (w' : World) : Prop := (∃ b : Bool, e = .returned (.bool b) ∧ (b = true → WfH us ds)) ∧ Below w.heap.size w w'
set_option maxHeartbeats 8000000 in
set_option maxRecDepth 100000 in
theorem head_any (us : List S151) (ds : List S154) (hsm : SmH us ds) (w : World) (A : Option Addr) (c : Nat) (D : Option Addr) (cd : Nat) (hu : k151.C w A us.length us) (hd : k154.C w D ds.length ds) :
    Calls Try.prog 86 #[.slice A us.length c, .slice D ds.length cd] w (HeadOk us ds w) := by
  have hul := hsm.ul
  have hdl := hsm.dl
  have HU := Aside0.mk hu
  have HD := Aside0.mk hd
  have HSU := Aside0.mk hsm.us
  have HSD := Aside0.mk hsm.ds
  clear hsm hu hd
  go_enter Try.func86, Try.ntmps86
  go_wp2_with fail
  go_loopw [5] (fun v5 wr => ∃ k : Nat, k ≤ us.length ∧ v5 = .int .i64 k ∧ Aside0 (∀ y ∈ us.take k, WfU y) ∧ Aside0 (Below w.heap.size w wr)) (fun v5 _ => us.length - (intOf v5).toNat)
  case atStart => exact ⟨0, Nat.zero_le _, rfl, ⟨take_none⟩, ⟨Below.refl _ _⟩⟩
  case round =>
    obtain ⟨k, hk, rfl, HA, HB⟩ := hrel
    by_cases hlt : k < us.length
    · obtain ⟨ad, B3, d3, B4, d4, hae, hx, l3, g3, l4, g4⟩ := el151 (Kd.C_below HU.out HB.out) hlt
      cases hae
      obtain ⟨x0, x1, x2, x3, x4⟩ := hx wr (Below.refl _ _)
      have HSM := Aside0.mk (HSU.out us[k] (List.getElem_mem hlt))
      have HW := Aside0.mk (fun h => take_all (P := WfU) HA.out hlt h)
      have G3 := Aside0.mk g3
      have G4 := Aside0.mk g4
      clear hx l3 g3 l4 g4
      generalize us[k] = y at *
      have hy1 := HSM.out.n
      have HB1 := Aside0.mk (below_alloc HB.out (.cells #[.string y.f0.f0, .string y.f0.f1, .string y.f0.f2, .slice B3 y.f1.length d3, .slice B4 y.f2.length d4] 151))
      have HK1 := Aside0.mk (blk_new wr (.cells #[.string y.f0.f0, .string y.f0.f1, .string y.f0.f2, .slice B3 y.f1.length d3, .slice B4 y.f2.length d4] 151))
      have HS : Aside0 (∀ w' : World, w'.heap[wr.heap.size]? = some (.cells #[.string y.f0.f0, .string y.f0.f1, .string y.f0.f2, .slice B3 y.f1.length d3, .slice B4 y.f2.length d4] 151 (0, 0)) → w'.cell? ⟨wr.heap.size, 0, none⟩ = some (.string y.f0.f0) ∧ w'.cell? ⟨wr.heap.size, 1, none⟩ = some (.string y.f0.f1) ∧ w'.cell? ⟨wr.heap.size, 2, none⟩ = some (.string y.f0.f2) ∧ w'.cell? ⟨wr.heap.size, 3, none⟩ = some (.slice B3 y.f1.length d3) ∧ w'.cell? ⟨wr.heap.size, 4, none⟩ = some (.slice B4 y.f2.length d4)) :=
        ⟨fun w' hq => ⟨(blk_cell hq 0).trans rfl, (blk_cell hq 1).trans rfl, (blk_cell hq 2).trans rfl, (blk_cell hq 3).trans rfl, (blk_cell hq 4).trans rfl⟩⟩
      go_wp2_with fail
      refine (path_any y.f0 _ (by have := HSM.out.p0; omega) (by have := HSM.out.p1; omega)).mono ?_
      rintro e w2 ⟨⟨b, rfl⟩, hbl⟩
      have HB2 := Aside0.mk (below_step HB1.out hbl)
      have HK2 := Aside0.mk (blk_below HK1.out hbl)
      have G3' := Aside0.mk (Kd.C_below G3.out (below_step (below_alloc (Below.refl wr.heap.size wr) (.cells #[.string y.f0.f0, .string y.f0.f1, .string y.f0.f2, .slice B3 y.f1.length d3, .slice B4 y.f2.length d4] 151)) hbl))
      have G4' := Aside0.mk (Kd.C_below G4.out (below_step (below_alloc (Below.refl wr.heap.size wr) (.cells #[.string y.f0.f0, .string y.f0.f1, .string y.f0.f2, .slice B3 y.f1.length d3, .slice B4 y.f2.length d4] 151)) hbl))
      clear hbl HB HB1 HK1 G3 G4 x0 x1 x2 x3 x4
      obtain ⟨z0, z1, z2, z3, z4⟩ := HS.out w2 HK2.out
      cases b with
      | false =>
        go_wp2_with fail
        go_ret
        exact ⟨⟨false, rfl, fun h => by cases h⟩, HB2.out⟩
      | true =>
        by_cases hn0 : y.f1.length = 0
        · have e1 : ((y.f1.length : Int) == 0) = true := beq_iff_eq.mpr (by omega)
          clear hn0
          go_wp2_with fail
          go_ret
          exact ⟨⟨false, rfl, fun h => by cases h⟩, HB2.out⟩
        · have e1 : ((y.f1.length : Int) == 0) = false := beq_eq_false_iff_ne.mpr (by omega)
          clear hn0
          go_wp2_with fail
          refine (names_any B3 d3 y.f1 _ G3'.out (by omega)).mono ?_
          rintro e w3 ⟨⟨b, rfl, hb⟩, rfl⟩
          have HBN := Aside0.mk hb
          clear hb
          cases b with
          | false =>
            go_wp2_with fail
            go_ret
            exact ⟨⟨false, rfl, fun h => by cases h⟩, HB2.out⟩
          | true =>
            by_cases hln : y.f1.length = y.f2.length
            · have e2 : ((y.f2.length : Int) != (y.f1.length : Int)) = false := by simp [hln]
              have HLN := Aside0.mk hln
              have hl2 : y.f2.length ≤ 140737488351232 := by omega
              clear hln e1
              go_wp2_with fail
              go_loop [7] (fun v7 => ∃ j : Nat, j ≤ y.f2.length ∧ v7 = .int .i64 j) (fun v7 => y.f2.length - (intOf v7).toNat)
              case atStart => exact ⟨0, Nat.zero_le _, rfl⟩
              case round =>
                obtain ⟨j, hj, rfl⟩ := hrel
                by_cases hjl : j < y.f2.length
                · obtain ⟨ad2, hae2, hx2⟩ := Kd.at_string G4'.out (j : Int) (by omega) (by omega)
                  rw [rdB_eq hjl, Int.toNat_natCast] at hx2
                  have HAE := Aside0.mk hae2
                  rw [hae2] at z4
                  clear hae2
                  generalize y.f2[j] = q at *
                  go_wp2_with (go_at_call 84; refine (name_any q _).mono ?_; rintro e w4 ⟨⟨b4, rfl, _⟩, rfl⟩)
                  all_goals first
                    | (go_ret; exact ⟨⟨false, rfl, fun h => by cases h⟩, HB2.out⟩)
                    | (go_round
                       case rel => exact ⟨j + 1, by omega, by go_num⟩
                       case measure => simp [intOf]; omega)
                · obtain rfl : j = y.f2.length := by omega
                  go_wp2_with fail
                  go_roundw
                  case rel => exact ⟨k + 1, by omega, by go_num, ⟨HW.out ⟨HLN.out, (HBN.out (by first | rfl | trivial)).1⟩⟩, HB2⟩
                  case measure => simp [intOf]; omega
            · have e2 : ((y.f2.length : Int) != (y.f1.length : Int)) = true := by simp; omega
              go_wp2_with fail
              go_ret
              exact ⟨⟨false, rfl, fun h => by cases h⟩, HB2.out⟩
    · obtain rfl : k = us.length := by omega
      have HE := Aside0.mk (take_whole HA.out)
      clear HA hlt hk
      go_wp2_with fail
      have HBq := HB
      go_loopw [8] (fun v8 wq => ∃ k : Nat, k ≤ ds.length ∧ v8 = .int .i64 k ∧ Aside0 (∀ y ∈ ds.take k, WfD y) ∧ Aside0 (Below w.heap.size w wq)) (fun v8 _ => ds.length - (intOf v8).toNat)
      case atStart => exact ⟨0, Nat.zero_le _, rfl, ⟨take_none⟩, HB⟩
      case round =>
        clear HBq HB
        obtain ⟨k, hk, rfl, HA, HB⟩ := hrel
        by_cases hlt : k < ds.length
        · obtain ⟨ad, B3, d3, B4, d4, B6, d6, hae, hx, l3, g3, l4, g4, l6, g6⟩ := el154 (Kd.C_below HD.out HB.out) hlt
          cases hae
          obtain ⟨x0, x1, x2, x3, x4, x5, x6⟩ := hx _ (Below.refl _ _)
          have HSM := Aside0.mk (HSD.out ds[k] (List.getElem_mem hlt))
          have HW := Aside0.mk (fun h => take_all (P := WfD) HA.out hlt h)
          have HY := Aside0.mk (DA.mk (TA.mk g3 l3 g4 l4) g6 l6)
          clear hx l3 g3 l4 g4 l6 g6
          generalize ds[k] = y at *
          go_wp2_with fail
          refine (def_any y HSM.out _ B3 d3 B4 d4 B6 d6 HY.out).mono ?_
          rintro e w3 ⟨⟨b, rfl, hb⟩, hbl⟩
          have HBB := Aside0.mk hb
          have HB3 := Aside0.mk (below_step HB.out hbl)
          clear hb hbl x0 x1 x2 x3 x4 x5 x6
          cases b with
          | false =>
            go_wp2_with fail
            go_ret
            exact ⟨⟨false, rfl, fun h => by cases h⟩, HB3.out⟩
          | true =>
            go_wp2_with fail
            go_roundw
            case rel => exact ⟨k + 1, by omega, by go_num, ⟨HW.out (HBB.out (by first | rfl | trivial))⟩, HB3⟩
            case measure => simp [intOf]; omega
        · obtain rfl : k = ds.length := by omega
          have HE2 := Aside0.mk (take_whole HA.out)
          go_wp2_with fail
          all_goals first
            | (go_ret; exact ⟨⟨false, rfl, fun h => by cases h⟩, HB.out⟩)
            | (go_ret; exact ⟨⟨_, rfl, fun h => ⟨by simp at h; omega, HE.out, by simp at h; omega, HE2.out⟩⟩, HB.out⟩)
theorem isEmpty_no {l : List UInt8} (h : l ≠ []) : l.isEmpty = false := by cases l with
  | nil => exact absurd rfl h
  | cons a b => rfl
/-- A port as it may be written: a function, where no interface is named. -/
structure WfQ (q : S157) : Prop where
  f : q.f1.f2.toList = [] → WfF q.f0
structure SmQ (q : S157) : Prop where
  f : SmF q.f0
  p0 : q.f1.f0.size ≤ 140737488351232
  p1 : q.f1.f1.size ≤ 140737488351232
structure WfQs (l : List S157) : Prop where
  ll : l.length ≤ 64
  qs : ∀ q ∈ l, WfQ q
def PortsOk (l : List S157) (w : World) (e : Ending) (w' : World) : Prop := (∃ b : Bool, e = .returned (.bool b) ∧ (b = true → WfQs l)) ∧ Below w.heap.size w w'
set_option maxHeartbeats 8000000 in
set_option maxRecDepth 100000 in
theorem ports_any (l : List S157) (hl : l.length ≤ 140737488351232) (hsm : ∀ q ∈ l, SmQ q) (w : World) (A : Option Addr) (c : Nat) (hr : k157.C w A l.length l) :
    Calls Try.prog 88 #[.slice A l.length c] w (PortsOk l w) := by
  have HR := Aside0.mk hr
  have HSM := Aside0.mk hsm
  clear hsm hr
  go_enter Try.func88, Try.ntmps88
  go_wp2_with fail
  go_loopw [3] (fun v3 wr => ∃ k : Nat, k ≤ l.length ∧ v3 = .int .i64 k ∧ Aside0 (∀ y ∈ l.take k, WfQ y) ∧ Aside0 (Below w.heap.size w wr)) (fun v3 _ => l.length - (intOf v3).toNat)
  case atStart => exact ⟨0, Nat.zero_le _, rfl, ⟨take_none⟩, ⟨Below.refl _ _⟩⟩
  case round =>
    obtain ⟨k, hk, rfl, HA, HB⟩ := hrel
    by_cases hlt : k < l.length
    · obtain ⟨ad, B2, d2, B3, d3, B5, d5, B6, d6, hae, hx, l2, g2, l3, g3, l5, g5, l6, g6⟩ := el157 (Kd.C_below HR.out HB.out) hlt
      cases hae
      have HX := Aside0.mk hx
      have HSQ := Aside0.mk (HSM.out l[k] (List.getElem_mem hlt))
      have HW := Aside0.mk (fun h => take_all (P := WfQ) HA.out hlt h)
      have HY := Aside0.mk (FA.mk g2 l2 g3 l3 (TA.mk g5 l5 g6 l6))
      clear hx l2 g2 l3 g3 l5 g5 l6 g6
      generalize l[k] = y at *
      have i0 : (0 : Int) ≤ (k : Int) := by omega
      have i1 : (k : Int) < (l.length : Int) := by omega
      go_wp2_with fail
      go_region_held3 (fun w' => w'.cell? (ad.add (k * 11)) = some (.string y.f0.f0) ∧ w'.cell? ⟨(ad.add (k * 11)).block, (ad.add (k * 11)).off + 1, none⟩ = some (.int .i64 y.f0.f1) ∧ w'.cell? ⟨(ad.add (k * 11)).block, (ad.add (k * 11)).off + 2, none⟩ = some (.slice B2 y.f0.f2.length d2) ∧ w'.cell? ⟨(ad.add (k * 11)).block, (ad.add (k * 11)).off + 3, none⟩ = some (.slice B3 y.f0.f3.length d3) ∧ w'.cell? ⟨(ad.add (k * 11)).block, (ad.add (k * 11)).off + 4, none⟩ = some (.int .i64 y.f0.f4.f0) ∧ w'.cell? ⟨(ad.add (k * 11)).block, (ad.add (k * 11)).off + 5, none⟩ = some (.slice B5 y.f0.f4.f1.length d5) ∧ w'.cell? ⟨(ad.add (k * 11)).block, (ad.add (k * 11)).off + 6, none⟩ = some (.slice B6 y.f0.f4.f2.length d6) ∧ w'.cell? ⟨(ad.add (k * 11)).block, (ad.add (k * 11)).off + 7, none⟩ = some (.int .i64 y.f0.f4.f3) ∧ w'.cell? ⟨(ad.add (k * 11)).block, (ad.add (k * 11)).off + 8, none⟩ = some (.string y.f1.f0) ∧ w'.cell? ⟨(ad.add (k * 11)).block, (ad.add (k * 11)).off + 9, none⟩ = some (.string y.f1.f1) ∧ w'.cell? ⟨(ad.add (k * 11)).block, (ad.add (k * 11)).off + 10, none⟩ = some (.string y.f1.f2))
        (first
          | exact HX.out _ (below_drew1 (Below.refl _ _))
          | exact HX.out _ (below_alloc (below_drew1 (Below.refl _ _)) _)
          | exact HX.out _ (below_alloc (below_alloc (below_drew1 (Below.refl _ _)) _) _))
        (fail)
      · have KF := Aside0.mk (blk_alloc (blk_new wr (.cells #[.string y.f0.f0, .int .i64 y.f0.f1, .slice B2 y.f0.f2.length d2, .slice B3 y.f0.f3.length d3, .int .i64 y.f0.f4.f0, .slice B5 y.f0.f4.f1.length d5, .slice B6 y.f0.f4.f2.length d6, .int .i64 y.f0.f4.f3] 146)) (.cells #[.string y.f1.f0, .string y.f1.f1, .string y.f1.f2] 149))
        have KP := Aside0.mk (blk_new (wr.alloc (.cells #[.string y.f0.f0, .int .i64 y.f0.f1, .slice B2 y.f0.f2.length d2, .slice B3 y.f0.f3.length d3, .int .i64 y.f0.f4.f0, .slice B5 y.f0.f4.f1.length d5, .slice B6 y.f0.f4.f2.length d6, .int .i64 y.f0.f4.f3] 146)) (.cells #[.string y.f1.f0, .string y.f1.f1, .string y.f1.f2] 149))
        have HBW := Aside0.mk (below_drew1 (below_alloc (below_alloc (Below.refl wr.heap.size wr) (.cells #[.string y.f0.f0, .int .i64 y.f0.f1, .slice B2 y.f0.f2.length d2, .slice B3 y.f0.f3.length d3, .int .i64 y.f0.f4.f0, .slice B5 y.f0.f4.f1.length d5, .slice B6 y.f0.f4.f2.length d6, .int .i64 y.f0.f4.f3] 146)) (.cells #[.string y.f1.f0, .string y.f1.f1, .string y.f1.f2] 149)))
        obtain ⟨wb, hwb⟩ : ∃ wb : World, wb = ((wr.alloc (.cells #[.string y.f0.f0, .int .i64 y.f0.f1, .slice B2 y.f0.f2.length d2, .slice B3 y.f0.f3.length d3, .int .i64 y.f0.f4.f0, .slice B5 y.f0.f4.f1.length d5, .slice B6 y.f0.f4.f2.length d6, .int .i64 y.f0.f4.f3] 146)).alloc (.cells #[.string y.f1.f0, .string y.f1.f1, .string y.f1.f2] 149)).drew := ⟨_, rfl⟩
        have KF' : Aside0 (wb.heap[wr.heap.size]? = some (.cells #[.string y.f0.f0, .int .i64 y.f0.f1, .slice B2 y.f0.f2.length d2, .slice B3 y.f0.f3.length d3, .int .i64 y.f0.f4.f0, .slice B5 y.f0.f4.f1.length d5, .slice B6 y.f0.f4.f2.length d6, .int .i64 y.f0.f4.f3] 146 (0, 0))) := ⟨by rw [hwb]; exact KF.out⟩
        have KP' : Aside0 (wb.heap[wr.heap.size + 1]? = some (.cells #[.string y.f1.f0, .string y.f1.f1, .string y.f1.f2] 149 (0, 0))) := ⟨by rw [hwb]; have := KP.out; simp only [World.size_alloc] at this; exact this⟩
        rw [← hwb]
        have HB1 : Aside0 (Below w.heap.size w wb) := ⟨by rw [hwb]; exact below_step HB.out HBW.out⟩
        have HY1 : Aside0 (FA wb y.f0 B2 d2 B3 d3 B5 d5 B6 d6) := ⟨by rw [hwb]; exact HY.out.below HBW.out⟩
        clear KF KP HBW hwb HB HX HY
        have HSF : Aside0 (∀ w' : World, w'.heap[wr.heap.size]? = some (.cells #[.string y.f0.f0, .int .i64 y.f0.f1, .slice B2 y.f0.f2.length d2, .slice B3 y.f0.f3.length d3, .int .i64 y.f0.f4.f0, .slice B5 y.f0.f4.f1.length d5, .slice B6 y.f0.f4.f2.length d6, .int .i64 y.f0.f4.f3] 146 (0, 0)) → w'.cell? ⟨wr.heap.size, 0, none⟩ = some (.string y.f0.f0) ∧ w'.cell? ⟨wr.heap.size, 1, none⟩ = some (.int .i64 y.f0.f1) ∧ w'.cell? ⟨wr.heap.size, 2, none⟩ = some (.slice B2 y.f0.f2.length d2) ∧ w'.cell? ⟨wr.heap.size, 3, none⟩ = some (.slice B3 y.f0.f3.length d3) ∧ w'.cell? ⟨wr.heap.size, 4, none⟩ = some (.int .i64 y.f0.f4.f0) ∧ w'.cell? ⟨wr.heap.size, 5, none⟩ = some (.slice B5 y.f0.f4.f1.length d5) ∧ w'.cell? ⟨wr.heap.size, 6, none⟩ = some (.slice B6 y.f0.f4.f2.length d6) ∧ w'.cell? ⟨wr.heap.size, 7, none⟩ = some (.int .i64 y.f0.f4.f3)) :=
          ⟨fun w' hq => ⟨(blk_cell hq 0).trans rfl, (blk_cell hq 1).trans rfl, (blk_cell hq 2).trans rfl, (blk_cell hq 3).trans rfl, (blk_cell hq 4).trans rfl, (blk_cell hq 5).trans rfl, (blk_cell hq 6).trans rfl, (blk_cell hq 7).trans rfl⟩⟩
        have HSP : Aside0 (∀ w' : World, w'.heap[wr.heap.size + 1]? = some (.cells #[.string y.f1.f0, .string y.f1.f1, .string y.f1.f2] 149 (0, 0)) → w'.cell? ⟨wr.heap.size + 1, 0, none⟩ = some (.string y.f1.f0) ∧ w'.cell? ⟨wr.heap.size + 1, 1, none⟩ = some (.string y.f1.f1) ∧ w'.cell? ⟨wr.heap.size + 1, 2, none⟩ = some (.string y.f1.f2)) :=
          ⟨fun w' hq => ⟨(blk_cell hq 0).trans rfl, (blk_cell hq 1).trans rfl, (blk_cell hq 2).trans rfl⟩⟩
        generalize wr.heap.size + 1 = gp at *
        generalize wr.heap.size = gf at *
        obtain ⟨z0, z1, z2, z3, z4, z5, z6, z7⟩ := HSF.out wb KF'.out
        obtain ⟨p0, p1, p2⟩ := HSP.out wb KP'.out
        by_cases hz : y.f1.f2.toList = []
        · have e1 : (y.f1.f2.toList == ([] : List UInt8)) = true := by rw [hz]; rfl
          have e2 : y.f1.f2.toList.isEmpty = true := by rw [hz]; rfl
          have e3 : (y.f1.f2.toList != ([] : List UInt8)) = false := by rw [hz]; rfl
          have HZ := Aside0.mk hz
          clear hz
          by_cases hq : y.f1.f0.toList = [] ∧ y.f1.f1.toList = []
          · obtain ⟨hq0, hq1⟩ := hq
            have q1 : (y.f1.f0.toList == ([] : List UInt8)) = true := by rw [hq0]; rfl
            have q2 : y.f1.f0.toList.isEmpty = true := by rw [hq0]; rfl
            have q3 : (y.f1.f0.toList != ([] : List UInt8)) = false := by rw [hq0]; rfl
            have q4 : (y.f1.f1.toList == ([] : List UInt8)) = true := by rw [hq1]; rfl
            have q5 : y.f1.f1.toList.isEmpty = true := by rw [hq1]; rfl
            have q6 : (y.f1.f1.toList != ([] : List UInt8)) = false := by rw [hq1]; rfl
            clear hq0 hq1
            go_wp2_with fail
            refine (func_any y.f0 HSQ.out.f _ B2 d2 B3 d3 B5 d5 B6 d6 HY1.out).mono ?_
            rintro e w3 ⟨⟨b, rfl, hb⟩, hbl⟩
            have HBB := Aside0.mk hb
            have HB3 := Aside0.mk (below_step HB1.out hbl)
            have KF3 := Aside0.mk (blk_below KF'.out hbl)
            clear hb hbl z0 z1 z2 z3 z4 z5 z6 z7 p0 p1 p2 HB1
            obtain ⟨z0, z1, z2, z3, z4, z5, z6, z7⟩ := HSF.out w3 KF3.out
            cases b with
            | false =>
              go_wp2_with fail
              go_ret
              exact ⟨⟨false, rfl, fun h => by cases h⟩, HB3.out⟩
            | true =>
              go_wp2_with fail
              all_goals first
                | (go_ret; exact ⟨⟨false, rfl, fun h => by cases h⟩, HB3.out⟩)
                | (go_roundw
                   case rel => exact ⟨k + 1, by omega, by go_num, ⟨HW.out ⟨fun _ => HBB.out (by first | rfl | trivial)⟩⟩, HB3⟩
                   case measure => simp [intOf]; omega)
          · by_cases hq0 : y.f1.f0.toList = []
            · have q1 : (y.f1.f0.toList == ([] : List UInt8)) = true := by rw [hq0]; rfl
              have q2 : y.f1.f0.toList.isEmpty = true := by rw [hq0]; rfl
              have q3 : (y.f1.f0.toList != ([] : List UInt8)) = false := by rw [hq0]; rfl
              have hq1 : y.f1.f1.toList ≠ [] := fun h => hq ⟨hq0, h⟩
              have q4 : (y.f1.f1.toList == ([] : List UInt8)) = false := beq_eq_false_iff_ne.mpr hq1
              have q5 : y.f1.f1.toList.isEmpty = false := isEmpty_no hq1
              have q6 : (y.f1.f1.toList != ([] : List UInt8)) = true := by rw [bne, q4]; rfl
              clear hq hq0 hq1
              go_wp2_with fail
              go_ret
              exact ⟨⟨false, rfl, fun h => by cases h⟩, HB1.out⟩
            · have q4 : (y.f1.f0.toList == ([] : List UInt8)) = false := beq_eq_false_iff_ne.mpr hq0
              have q5 : y.f1.f0.toList.isEmpty = false := isEmpty_no hq0
              have q6 : (y.f1.f0.toList != ([] : List UInt8)) = true := by rw [bne, q4]; rfl
              clear hq hq0
              go_wp2_with fail
              go_ret
              exact ⟨⟨false, rfl, fun h => by cases h⟩, HB1.out⟩
        · have e1 : (y.f1.f2.toList == ([] : List UInt8)) = false := beq_eq_false_iff_ne.mpr hz
          have e2 : y.f1.f2.toList.isEmpty = false := isEmpty_no hz
          have e3 : (y.f1.f2.toList != ([] : List UInt8)) = true := by rw [bne, e1]; rfl
          have HZ := Aside0.mk hz
          clear hz
          go_wp2_with fail
          refine (path_any y.f1 _ (by have := HSQ.out.p0; omega) (by have := HSQ.out.p1; omega)).mono ?_
          rintro e w3 ⟨⟨b, rfl⟩, hbl⟩
          have HB3 := Aside0.mk (below_step HB1.out hbl)
          have KF3 := Aside0.mk (blk_below KF'.out hbl)
          clear hbl z0 z1 z2 z3 z4 z5 z6 z7 p0 p1 p2 HB1
          obtain ⟨z0, z1, z2, z3, z4, z5, z6, z7⟩ := HSF.out w3 KF3.out
          cases b with
          | false =>
            go_wp2_with fail
            go_ret
            exact ⟨⟨false, rfl, fun h => by cases h⟩, HB3.out⟩
          | true =>
            by_cases c1 : y.f0.f0.toList = []
            · have f1 : (y.f0.f0.toList == ([] : List UInt8)) = true := by rw [c1]; rfl
              have f2 : y.f0.f0.toList.isEmpty = true := by rw [c1]; rfl
              have f3 : (y.f0.f0.toList != ([] : List UInt8)) = false := by rw [c1]; rfl
              clear c1
              by_cases c2 : y.f0.f1 = 0
              · have f4 : (y.f0.f1 != 0) = false := by simp [c2]
                have f4b : (y.f0.f1 == 0) = true := by simp [c2]
                clear c2
                by_cases c3 : y.f0.f2.length = 0
                · have f5 : y.f0.f2 = [] := List.eq_nil_of_length_eq_zero c3
                  clear c3
                  by_cases c4 : y.f0.f3.length = 0
                  · have f6 : y.f0.f3 = [] := List.eq_nil_of_length_eq_zero c4
                    clear c4
                    go_wp2_with fail
                    refine (none_any y.f0.f4.f0 B5 y.f0.f4.f1.length d5 B6 y.f0.f4.f2.length d6 y.f0.f4.f3 _).mono ?_
                    rintro e w5 ⟨rfl, hbl⟩
                    have HB5 := Aside0.mk (below_step HB3.out hbl)
                    clear hbl
                    generalize noneB y.f0.f4.f0 y.f0.f4.f1.length y.f0.f4.f2.length y.f0.f4.f3 = nb
                    cases nb with
                    | false =>
                      go_wp2_with fail
                      go_ret
                      exact ⟨⟨false, rfl, fun h => by cases h⟩, HB5.out⟩
                    | true =>
                      go_wp2_with fail
                      go_roundw
                      case rel => exact ⟨k + 1, by omega, by go_num, ⟨HW.out ⟨fun h => absurd h HZ.out⟩⟩, HB5⟩
                      case measure => simp [intOf]; omega
                  · have f6 : y.f0.f3 ≠ [] := fun h => c4 (by rw [h]; rfl)
                    have f6b : 0 < y.f0.f3.length := by omega
                    have f6c : (0 : Int) < (y.f0.f3.length : Int) := by omega
                    clear c4
                    go_wp2_with fail
                    go_ret
                    exact ⟨⟨false, rfl, fun h => by cases h⟩, HB3.out⟩
                · have f5 : y.f0.f2 ≠ [] := fun h => c3 (by rw [h]; rfl)
                  have f5b : 0 < y.f0.f2.length := by omega
                  have f5c : (0 : Int) < (y.f0.f2.length : Int) := by omega
                  clear c3
                  go_wp2_with fail
                  go_ret
                  exact ⟨⟨false, rfl, fun h => by cases h⟩, HB3.out⟩
              · have f4 : (y.f0.f1 != 0) = true := by simp [c2]
                have f4b : (y.f0.f1 == 0) = false := by simp [c2]
                clear c2
                go_wp2_with fail
                go_ret
                exact ⟨⟨false, rfl, fun h => by cases h⟩, HB3.out⟩
            · have f1 : (y.f0.f0.toList == ([] : List UInt8)) = false := beq_eq_false_iff_ne.mpr c1
              have f2 : y.f0.f0.toList.isEmpty = false := isEmpty_no c1
              have f3 : (y.f0.f0.toList != ([] : List UInt8)) = true := by rw [bne, f1]; rfl
              clear c1
              go_wp2_with fail
              go_ret
              exact ⟨⟨false, rfl, fun h => by cases h⟩, HB3.out⟩
      · have KP := Aside0.mk (blk_alloc (blk_new wr (.cells #[.string y.f1.f0, .string y.f1.f1, .string y.f1.f2] 149)) (.cells #[.string y.f0.f0, .int .i64 y.f0.f1, .slice B2 y.f0.f2.length d2, .slice B3 y.f0.f3.length d3, .int .i64 y.f0.f4.f0, .slice B5 y.f0.f4.f1.length d5, .slice B6 y.f0.f4.f2.length d6, .int .i64 y.f0.f4.f3] 146))
        have KF := Aside0.mk (blk_new (wr.alloc (.cells #[.string y.f1.f0, .string y.f1.f1, .string y.f1.f2] 149)) (.cells #[.string y.f0.f0, .int .i64 y.f0.f1, .slice B2 y.f0.f2.length d2, .slice B3 y.f0.f3.length d3, .int .i64 y.f0.f4.f0, .slice B5 y.f0.f4.f1.length d5, .slice B6 y.f0.f4.f2.length d6, .int .i64 y.f0.f4.f3] 146))
        have HBW := Aside0.mk (below_drew1 (below_alloc (below_alloc (Below.refl wr.heap.size wr) (.cells #[.string y.f1.f0, .string y.f1.f1, .string y.f1.f2] 149)) (.cells #[.string y.f0.f0, .int .i64 y.f0.f1, .slice B2 y.f0.f2.length d2, .slice B3 y.f0.f3.length d3, .int .i64 y.f0.f4.f0, .slice B5 y.f0.f4.f1.length d5, .slice B6 y.f0.f4.f2.length d6, .int .i64 y.f0.f4.f3] 146)))
        obtain ⟨wb, hwb⟩ : ∃ wb : World, wb = ((wr.alloc (.cells #[.string y.f1.f0, .string y.f1.f1, .string y.f1.f2] 149)).alloc (.cells #[.string y.f0.f0, .int .i64 y.f0.f1, .slice B2 y.f0.f2.length d2, .slice B3 y.f0.f3.length d3, .int .i64 y.f0.f4.f0, .slice B5 y.f0.f4.f1.length d5, .slice B6 y.f0.f4.f2.length d6, .int .i64 y.f0.f4.f3] 146)).drew := ⟨_, rfl⟩
        have KF' : Aside0 (wb.heap[wr.heap.size + 1]? = some (.cells #[.string y.f0.f0, .int .i64 y.f0.f1, .slice B2 y.f0.f2.length d2, .slice B3 y.f0.f3.length d3, .int .i64 y.f0.f4.f0, .slice B5 y.f0.f4.f1.length d5, .slice B6 y.f0.f4.f2.length d6, .int .i64 y.f0.f4.f3] 146 (0, 0))) := ⟨by rw [hwb]; have := KF.out; simp only [World.size_alloc] at this; exact this⟩
        have KP' : Aside0 (wb.heap[wr.heap.size]? = some (.cells #[.string y.f1.f0, .string y.f1.f1, .string y.f1.f2] 149 (0, 0))) := ⟨by rw [hwb]; exact KP.out⟩
        rw [← hwb]
        have HB1 : Aside0 (Below w.heap.size w wb) := ⟨by rw [hwb]; exact below_step HB.out HBW.out⟩
        have HY1 : Aside0 (FA wb y.f0 B2 d2 B3 d3 B5 d5 B6 d6) := ⟨by rw [hwb]; exact HY.out.below HBW.out⟩
        clear KF KP HBW hwb HB HX HY
        have HSF : Aside0 (∀ w' : World, w'.heap[wr.heap.size + 1]? = some (.cells #[.string y.f0.f0, .int .i64 y.f0.f1, .slice B2 y.f0.f2.length d2, .slice B3 y.f0.f3.length d3, .int .i64 y.f0.f4.f0, .slice B5 y.f0.f4.f1.length d5, .slice B6 y.f0.f4.f2.length d6, .int .i64 y.f0.f4.f3] 146 (0, 0)) → w'.cell? ⟨wr.heap.size + 1, 0, none⟩ = some (.string y.f0.f0) ∧ w'.cell? ⟨wr.heap.size + 1, 1, none⟩ = some (.int .i64 y.f0.f1) ∧ w'.cell? ⟨wr.heap.size + 1, 2, none⟩ = some (.slice B2 y.f0.f2.length d2) ∧ w'.cell? ⟨wr.heap.size + 1, 3, none⟩ = some (.slice B3 y.f0.f3.length d3) ∧ w'.cell? ⟨wr.heap.size + 1, 4, none⟩ = some (.int .i64 y.f0.f4.f0) ∧ w'.cell? ⟨wr.heap.size + 1, 5, none⟩ = some (.slice B5 y.f0.f4.f1.length d5) ∧ w'.cell? ⟨wr.heap.size + 1, 6, none⟩ = some (.slice B6 y.f0.f4.f2.length d6) ∧ w'.cell? ⟨wr.heap.size + 1, 7, none⟩ = some (.int .i64 y.f0.f4.f3)) :=
          ⟨fun w' hq => ⟨(blk_cell hq 0).trans rfl, (blk_cell hq 1).trans rfl, (blk_cell hq 2).trans rfl, (blk_cell hq 3).trans rfl, (blk_cell hq 4).trans rfl, (blk_cell hq 5).trans rfl, (blk_cell hq 6).trans rfl, (blk_cell hq 7).trans rfl⟩⟩
        have HSP : Aside0 (∀ w' : World, w'.heap[wr.heap.size]? = some (.cells #[.string y.f1.f0, .string y.f1.f1, .string y.f1.f2] 149 (0, 0)) → w'.cell? ⟨wr.heap.size, 0, none⟩ = some (.string y.f1.f0) ∧ w'.cell? ⟨wr.heap.size, 1, none⟩ = some (.string y.f1.f1) ∧ w'.cell? ⟨wr.heap.size, 2, none⟩ = some (.string y.f1.f2)) :=
          ⟨fun w' hq => ⟨(blk_cell hq 0).trans rfl, (blk_cell hq 1).trans rfl, (blk_cell hq 2).trans rfl⟩⟩
        generalize wr.heap.size + 1 = gf at *
        generalize wr.heap.size = gp at *
        obtain ⟨z0, z1, z2, z3, z4, z5, z6, z7⟩ := HSF.out wb KF'.out
        obtain ⟨p0, p1, p2⟩ := HSP.out wb KP'.out
        by_cases hz : y.f1.f2.toList = []
        · have e1 : (y.f1.f2.toList == ([] : List UInt8)) = true := by rw [hz]; rfl
          have e2 : y.f1.f2.toList.isEmpty = true := by rw [hz]; rfl
          have e3 : (y.f1.f2.toList != ([] : List UInt8)) = false := by rw [hz]; rfl
          have HZ := Aside0.mk hz
          clear hz
          by_cases hq : y.f1.f0.toList = [] ∧ y.f1.f1.toList = []
          · obtain ⟨hq0, hq1⟩ := hq
            have q1 : (y.f1.f0.toList == ([] : List UInt8)) = true := by rw [hq0]; rfl
            have q2 : y.f1.f0.toList.isEmpty = true := by rw [hq0]; rfl
            have q3 : (y.f1.f0.toList != ([] : List UInt8)) = false := by rw [hq0]; rfl
            have q4 : (y.f1.f1.toList == ([] : List UInt8)) = true := by rw [hq1]; rfl
            have q5 : y.f1.f1.toList.isEmpty = true := by rw [hq1]; rfl
            have q6 : (y.f1.f1.toList != ([] : List UInt8)) = false := by rw [hq1]; rfl
            clear hq0 hq1
            go_wp2_with fail
            refine (func_any y.f0 HSQ.out.f _ B2 d2 B3 d3 B5 d5 B6 d6 HY1.out).mono ?_
            rintro e w3 ⟨⟨b, rfl, hb⟩, hbl⟩
            have HBB := Aside0.mk hb
            have HB3 := Aside0.mk (below_step HB1.out hbl)
            have KF3 := Aside0.mk (blk_below KF'.out hbl)
            clear hb hbl z0 z1 z2 z3 z4 z5 z6 z7 p0 p1 p2 HB1
            obtain ⟨z0, z1, z2, z3, z4, z5, z6, z7⟩ := HSF.out w3 KF3.out
            cases b with
            | false =>
              go_wp2_with fail
              go_ret
              exact ⟨⟨false, rfl, fun h => by cases h⟩, HB3.out⟩
            | true =>
              go_wp2_with fail
              all_goals first
                | (go_ret; exact ⟨⟨false, rfl, fun h => by cases h⟩, HB3.out⟩)
                | (go_roundw
                   case rel => exact ⟨k + 1, by omega, by go_num, ⟨HW.out ⟨fun _ => HBB.out (by first | rfl | trivial)⟩⟩, HB3⟩
                   case measure => simp [intOf]; omega)
          · by_cases hq0 : y.f1.f0.toList = []
            · have q1 : (y.f1.f0.toList == ([] : List UInt8)) = true := by rw [hq0]; rfl
              have q2 : y.f1.f0.toList.isEmpty = true := by rw [hq0]; rfl
              have q3 : (y.f1.f0.toList != ([] : List UInt8)) = false := by rw [hq0]; rfl
              have hq1 : y.f1.f1.toList ≠ [] := fun h => hq ⟨hq0, h⟩
              have q4 : (y.f1.f1.toList == ([] : List UInt8)) = false := beq_eq_false_iff_ne.mpr hq1
              have q5 : y.f1.f1.toList.isEmpty = false := isEmpty_no hq1
              have q6 : (y.f1.f1.toList != ([] : List UInt8)) = true := by rw [bne, q4]; rfl
              clear hq hq0 hq1
              go_wp2_with fail
              go_ret
              exact ⟨⟨false, rfl, fun h => by cases h⟩, HB1.out⟩
            · have q4 : (y.f1.f0.toList == ([] : List UInt8)) = false := beq_eq_false_iff_ne.mpr hq0
              have q5 : y.f1.f0.toList.isEmpty = false := isEmpty_no hq0
              have q6 : (y.f1.f0.toList != ([] : List UInt8)) = true := by rw [bne, q4]; rfl
              clear hq hq0
              go_wp2_with fail
              go_ret
              exact ⟨⟨false, rfl, fun h => by cases h⟩, HB1.out⟩
        · have e1 : (y.f1.f2.toList == ([] : List UInt8)) = false := beq_eq_false_iff_ne.mpr hz
          have e2 : y.f1.f2.toList.isEmpty = false := isEmpty_no hz
          have e3 : (y.f1.f2.toList != ([] : List UInt8)) = true := by rw [bne, e1]; rfl
          have HZ := Aside0.mk hz
          clear hz
          go_wp2_with fail
          refine (path_any y.f1 _ (by have := HSQ.out.p0; omega) (by have := HSQ.out.p1; omega)).mono ?_
          rintro e w3 ⟨⟨b, rfl⟩, hbl⟩
          have HB3 := Aside0.mk (below_step HB1.out hbl)
          have KF3 := Aside0.mk (blk_below KF'.out hbl)
          clear hbl z0 z1 z2 z3 z4 z5 z6 z7 p0 p1 p2 HB1
          obtain ⟨z0, z1, z2, z3, z4, z5, z6, z7⟩ := HSF.out w3 KF3.out
          cases b with
          | false =>
            go_wp2_with fail
            go_ret
            exact ⟨⟨false, rfl, fun h => by cases h⟩, HB3.out⟩
          | true =>
            by_cases c1 : y.f0.f0.toList = []
            · have f1 : (y.f0.f0.toList == ([] : List UInt8)) = true := by rw [c1]; rfl
              have f2 : y.f0.f0.toList.isEmpty = true := by rw [c1]; rfl
              have f3 : (y.f0.f0.toList != ([] : List UInt8)) = false := by rw [c1]; rfl
              clear c1
              by_cases c2 : y.f0.f1 = 0
              · have f4 : (y.f0.f1 != 0) = false := by simp [c2]
                have f4b : (y.f0.f1 == 0) = true := by simp [c2]
                clear c2
                by_cases c3 : y.f0.f2.length = 0
                · have f5 : y.f0.f2 = [] := List.eq_nil_of_length_eq_zero c3
                  clear c3
                  by_cases c4 : y.f0.f3.length = 0
                  · have f6 : y.f0.f3 = [] := List.eq_nil_of_length_eq_zero c4
                    clear c4
                    go_wp2_with fail
                    refine (none_any y.f0.f4.f0 B5 y.f0.f4.f1.length d5 B6 y.f0.f4.f2.length d6 y.f0.f4.f3 _).mono ?_
                    rintro e w5 ⟨rfl, hbl⟩
                    have HB5 := Aside0.mk (below_step HB3.out hbl)
                    clear hbl
                    generalize noneB y.f0.f4.f0 y.f0.f4.f1.length y.f0.f4.f2.length y.f0.f4.f3 = nb
                    cases nb with
                    | false =>
                      go_wp2_with fail
                      go_ret
                      exact ⟨⟨false, rfl, fun h => by cases h⟩, HB5.out⟩
                    | true =>
                      go_wp2_with fail
                      go_roundw
                      case rel => exact ⟨k + 1, by omega, by go_num, ⟨HW.out ⟨fun h => absurd h HZ.out⟩⟩, HB5⟩
                      case measure => simp [intOf]; omega
                  · have f6 : y.f0.f3 ≠ [] := fun h => c4 (by rw [h]; rfl)
                    have f6b : 0 < y.f0.f3.length := by omega
                    have f6c : (0 : Int) < (y.f0.f3.length : Int) := by omega
                    clear c4
                    go_wp2_with fail
                    go_ret
                    exact ⟨⟨false, rfl, fun h => by cases h⟩, HB3.out⟩
                · have f5 : y.f0.f2 ≠ [] := fun h => c3 (by rw [h]; rfl)
                  have f5b : 0 < y.f0.f2.length := by omega
                  have f5c : (0 : Int) < (y.f0.f2.length : Int) := by omega
                  clear c3
                  go_wp2_with fail
                  go_ret
                  exact ⟨⟨false, rfl, fun h => by cases h⟩, HB3.out⟩
              · have f4 : (y.f0.f1 != 0) = true := by simp [c2]
                have f4b : (y.f0.f1 == 0) = false := by simp [c2]
                clear c2
                go_wp2_with fail
                go_ret
                exact ⟨⟨false, rfl, fun h => by cases h⟩, HB3.out⟩
            · have f1 : (y.f0.f0.toList == ([] : List UInt8)) = false := beq_eq_false_iff_ne.mpr c1
              have f2 : y.f0.f0.toList.isEmpty = false := isEmpty_no c1
              have f3 : (y.f0.f0.toList != ([] : List UInt8)) = true := by rw [bne, f1]; rfl
              clear c1
              go_wp2_with fail
              go_ret
              exact ⟨⟨false, rfl, fun h => by cases h⟩, HB3.out⟩
    · obtain rfl : k = l.length := by omega
      have HE := Aside0.mk (take_whole HA.out)
      go_wp2_with fail
      go_ret
      exact ⟨⟨_, rfl, fun h => ⟨by simp at h; omega, HE.out⟩⟩, HB.out⟩
end Go.Proofs.Ytmpmcffhlnlejaa.Wld
end
