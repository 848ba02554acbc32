/- A part of the proof of the law that its last file names: texts of this seat's author and of the kit's printer, cut to what the theorem uses. Part 21: Slf5, Slf6s, Slf3. -/
import Derived.Test.YtmpmcffhlnlejaaCt20
section
namespace Go.Proofs.Ytmpmcffhlnlejaa.Slf
open Go.RowKit Go.Proofs.YtmpmcffhlnlejaaW.PrintWords Go.Proofs.YtmpmcffhlnlejaaW.PrintLast Go.Proofs.YtmpmcffhlnlejaaW.PrintMore
open Go.Proofs.Ytmpmcffhlnlejaa.SubEq Go.Proofs.Ytmpmcffhlnlejaa.PSubFits Go.Proofs.Ytmpmcffhlnlejaa.Mkr
set_option linter.unusedVariables false
set_option linter.unusedSimpArgs false
/-- Is a resource imported? -/
def Imp (res : List ByteArray) (r : Int) : Prop := ∃ i : Nat, r = (i : Int) ∧ ∃ h : i < res.length, (res[i].extract 0 7).toList = ([105, 109, 112, 111, 114, 116, 32] : List UInt8)
theorem txt_size {t : ByteArray} (h : Txt t) : 7 ≤ t.size ∧ t.size ≤ 1200 := by
  obtain ⟨key, n, rfl | rfl, hk, hn⟩ := h
  · unfold impOf
    simp only [ByteArray.size_append]
    show 7 ≤ 7 + key.size + 1 + n.size ∧ 7 + key.size + 1 + n.size ≤ 1200
    omega
  · unfold expOf
    simp only [ByteArray.size_append]
    show 7 ≤ 7 + key.size + 1 + n.size ∧ 7 + key.size + 1 + n.size ≤ 1200
    omega
def OutOk (a : Con) (y : S25) (w : World) (r : Ending) (w' : World) : Prop := (∃ b : Bool, r = .returned (.bool b) ∧ (b = true → RT (Imp a.res) y)) ∧ Below w.heap.size w w'
set_option maxHeartbeats 8000000 in
set_option maxRecDepth 100000 in
theorem outer_all {a : Con} (tx : ∀ t ∈ a.res, Txt t) (A1 : Option Addr) (c1 : Nat) (A2 : Option Addr) (c2 : Nat) (A3 : Option Addr) (c3 : Nat) : ∀ (n : Nat) (y : S25), SizeOf.sizeOf y ≤ n → GoodT a.res.length y → ∀ (w : World) (B1 : Option Addr) (d1 : Nat) (B2 : Option Addr) (d2 : Nat), k25.C w B2 y.f2.length y.f2 → Kd.string.C w A1 a.res.length a.res →
    Calls Try.prog 58 #[.agg #[.slice A1 a.res.length c1, .slice A2 a.ins.length c2, .slice A3 a.outs.length c3], .agg #[.int .i64 y.f0, .slice B1 y.f1.length d1, .slice B2 y.f2.length d2, .int .i64 y.f3]] w (OutOk a y w) := by
  intro n
  induction n with
  | zero =>
    intro y hy
    cases y
    simp at hy
  | succ n ih =>
    intro y hy gt w B1 d1 B2 d2 hl hr
    have HL := Aside0.mk hl
    have HR := Aside0.mk hr
    have GT := Aside0.mk gt
    have TX := Aside0.mk tx
    have hm := hl.2.1
    have HIH := Aside0.mk (fun (z : PSubFits.S25) (hz : z ∈ y.f2) => ih z (by
      have h1 := List.sizeOf_lt_of_mem hz
      cases y
      simp at h1 hy ⊢
      omega))
    clear hl ih hy hr gt
    have HB0 : Aside0 (Below w.heap.size w ((w.alloc (.cells #[.slice A1 a.res.length c1, .slice A2 a.ins.length c2, .slice A3 a.outs.length c3] 40)).alloc (.cells #[.int .i64 y.f0, .slice B1 y.f1.length d1, .slice B2 y.f2.length d2, .int .i64 y.f3] 25))) := ⟨below_alloc (below_alloc (Below.refl _ _) _) _⟩
    have K2 : Aside0 (((w.alloc (.cells #[.slice A1 a.res.length c1, .slice A2 a.ins.length c2, .slice A3 a.outs.length c3] 40)).alloc (.cells #[.int .i64 y.f0, .slice B1 y.f1.length d1, .slice B2 y.f2.length d2, .int .i64 y.f3] 25)).heap[w.heap.size]? = some (.cells #[.slice A1 a.res.length c1, .slice A2 a.ins.length c2, .slice A3 a.outs.length c3] 40 (0, 0))) := ⟨blk_alloc (blk_new w _) _⟩
    have K3 : Aside0 (((w.alloc (.cells #[.slice A1 a.res.length c1, .slice A2 a.ins.length c2, .slice A3 a.outs.length c3] 40)).alloc (.cells #[.int .i64 y.f0, .slice B1 y.f1.length d1, .slice B2 y.f2.length d2, .int .i64 y.f3] 25)).heap[w.heap.size + 1]? = some (.cells #[.int .i64 y.f0, .slice B1 y.f1.length d1, .slice B2 y.f2.length d2, .int .i64 y.f3] 25 (0, 0))) := ⟨by have := blk_new (w.alloc (.cells #[.slice A1 a.res.length c1, .slice A2 a.ins.length c2, .slice A3 a.outs.length c3] 40)) (.cells #[.int .i64 y.f0, .slice B1 y.f1.length d1, .slice B2 y.f2.length d2, .int .i64 y.f3] 25); simp only [World.size_alloc] at this; exact this⟩
    go_enter Try.func58, Try.ntmps58
    go_upto_region 1 with fail
    generalize ((w.alloc (.cells #[.slice A1 a.res.length c1, .slice A2 a.ins.length c2, .slice A3 a.outs.length c3] 40)).alloc (.cells #[.int .i64 y.f0, .slice B1 y.f1.length d1, .slice B2 y.f2.length d2, .int .i64 y.f3] 25)) = wb at *
    have q0 : wb.cell? ⟨w.heap.size + 1, 0, none⟩ = some (.int .i64 y.f0) := (blk_cell K3.out 0).trans rfl
    have q3 : wb.cell? ⟨w.heap.size + 1, 3, none⟩ = some (.int .i64 y.f3) := (blk_cell K3.out 3).trans rfl
    have p0 : wb.cell? ⟨w.heap.size, 0, none⟩ = some (.slice A1 a.res.length c1) := (blk_cell K2.out 0).trans rfl
    by_cases h20 : y.f0 = 20
    · have e1 : decide (y.f0 = 20) = true := decide_eq_true h20
      have e2 : (y.f0 == 20) = true := beq_iff_eq.mpr h20
      obtain ⟨hr0, hr1⟩ := GT.out.rs (.inl h20)
      obtain ⟨i, hri⟩ : ∃ i : Nat, y.f3 = (i : Int) := ⟨y.f3.toNat, by omega⟩
      have hil : i < a.res.length := by omega
      obtain ⟨ads, hae, hx⟩ := str_at HR.out hil
      have xs0 := hx _ HB0.out
      have HT := Aside0.mk (txt_size (TX.out _ (List.getElem_mem hil)))
      have HIM : Aside0 ((a.res[i].extract 0 7).toList = ([105, 109, 112, 111, 114, 116, 32] : List UInt8) → Imp a.res (i : Int)) := ⟨fun h => ⟨i, rfl, hil, h⟩⟩
      have ht7 : (7 : Int) ≤ (a.res[i].size : Int) := by have := HT.out; omega
      have i0 : (0 : Int) ≤ (i : Int) := by omega
      have i1 : (i : Int) < (a.res.length : Int) := by omega
      rw [hae] at p0
      clear hae
      have HRI := Aside0.mk hri
      rw [hri] at q3
      clear hx h20  hr0 hr1 hri
      generalize a.res[i] = t at *
      clear hil
      by_cases hp : (t.extract 0 7).toList = ([105, 109, 112, 111, 114, 116, 32] : List UInt8)
      · have e5 : ((t.extract 0 7).toList == ([105, 109, 112, 111, 114, 116, 32] : List UInt8)) = true := beq_iff_eq.mpr hp
        have e6 : ((t.extract 0 7).toList != ([105, 109, 112, 111, 114, 116, 32] : List UInt8)) = false := bne_eq_false_iff_eq.mpr hp
        have HKR : Aside0 (y.f0 = 20 ∨ y.f0 = 21 → Imp a.res y.f3) := ⟨fun _ => by rw [HRI.out]; exact HIM.out hp⟩
        clear hp
        go_wp2_with fail
        clear e1 e2  e5 e6 xs0 i0 i1 ht7 q0 q3 p0
        go_loopw [5] (fun v5 wr => ∃ k : Nat, k ≤ y.f2.length ∧ v5 = .int .i64 k ∧ Aside0 (Below w.heap.size w wr) ∧ Aside0 (wr.heap[w.heap.size]? = some (.cells #[.slice A1 a.res.length c1, .slice A2 a.ins.length c2, .slice A3 a.outs.length c3] 40 (0, 0))) ∧ Aside0 (wr.heap[w.heap.size + 1]? = some (.cells #[.int .i64 y.f0, .slice B1 y.f1.length d1, .slice B2 y.f2.length d2, .int .i64 y.f3] 25 (0, 0))) ∧ Aside0 (∀ z ∈ y.f2.take k, RT (Imp a.res) z)) (fun v5 _ => y.f2.length - (intOf v5).toNat)
        case atStart => exact ⟨0, Nat.zero_le _, rfl, HB0, K2, K3, ⟨fun z hz => by simp at hz⟩⟩
        case round =>
          clear HB0 K2 K3
          obtain ⟨k, hk, rfl, HB, K2, K3, HA⟩ := hrel
          have q2 : wr.cell? ⟨w.heap.size + 1, 2, none⟩ = some (.slice B2 y.f2.length d2) := (blk_cell K3.out 2).trans rfl
          by_cases hlt : k < y.f2.length
          · obtain ⟨ad, E1, e1, E2, e2, hae, hx, l1, g1, l2, g2⟩ := elF25 HL.out hlt
            cases hae
            have HX := Aside0.mk hx
            have HI := Aside0.mk (HIH.out y.f2[k] (List.getElem_mem hlt) (GT.out.el _ (List.getElem_mem hlt)))
            have HW := Aside0.mk (fun h => Wld.take_all (P := fun z => RT (Imp a.res) z) HA.out hlt h)
            have HC2 := Aside0.mk g2
            have k0 : (0 : Int) ≤ (k : Int) := by omega
            have k1 : (k : Int) < (y.f2.length : Int) := by omega
            clear hx l1 g1 l2 g2
            generalize y.f2[k] = z at *
            go_wp2_with fail
            clear q2
            have HBd := Aside0.mk (below_drew1 HB.out)
            have K2d : Aside0 (wr.drew.heap[w.heap.size]? = some (.cells #[.slice A1 a.res.length c1, .slice A2 a.ins.length c2, .slice A3 a.outs.length c3] 40 (0, 0))) := ⟨K2.out⟩
            have K3d : Aside0 (wr.drew.heap[w.heap.size + 1]? = some (.cells #[.int .i64 y.f0, .slice B1 y.f1.length d1, .slice (some ad) y.f2.length d2, .int .i64 y.f3] 25 (0, 0))) := ⟨K3.out⟩
            have HSS : Aside0 (∀ w' : World, w'.heap[w.heap.size]? = some (.cells #[.slice A1 a.res.length c1, .slice A2 a.ins.length c2, .slice A3 a.outs.length c3] 40 (0, 0)) → w'.heap[w.heap.size + 1]? = some (.cells #[.int .i64 y.f0, .slice B1 y.f1.length d1, .slice (some ad) y.f2.length d2, .int .i64 y.f3] 25 (0, 0)) → Below w.heap.size w w' → w'.cell? ⟨w.heap.size, 0, none⟩ = some (.slice A1 a.res.length c1) ∧ w'.cell? ⟨w.heap.size, 1, none⟩ = some (.slice A2 a.ins.length c2) ∧ w'.cell? ⟨w.heap.size, 2, none⟩ = some (.slice A3 a.outs.length c3) ∧ w'.cell? ⟨w.heap.size + 1, 2, none⟩ = some (.slice (some ad) y.f2.length d2) ∧ w'.cell? (ad.add (k * 4)) = some (.int .i64 z.f0) ∧ w'.cell? ⟨(ad.add (k * 4)).block, (ad.add (k * 4)).off + 1, none⟩ = some (.slice E1 z.f1.length e1) ∧ w'.cell? ⟨(ad.add (k * 4)).block, (ad.add (k * 4)).off + 2, none⟩ = some (.slice E2 z.f2.length e2) ∧ w'.cell? ⟨(ad.add (k * 4)).block, (ad.add (k * 4)).off + 3, none⟩ = some (.int .i64 z.f3)) :=
              ⟨fun w' h1 h2 h3 => ⟨(blk_cell h1 0).trans rfl, (blk_cell h1 1).trans rfl, (blk_cell h1 2).trans rfl, (blk_cell h2 2).trans rfl, (HX.out w' h3).1, (HX.out w' h3).2.1, (HX.out w' h3).2.2.1, (HX.out w' h3).2.2.2⟩⟩
            go_region_held3 (fun w' => w'.cell? ⟨w.heap.size, 0, none⟩ = some (.slice A1 a.res.length c1) ∧ w'.cell? ⟨w.heap.size, 1, none⟩ = some (.slice A2 a.ins.length c2) ∧ w'.cell? ⟨w.heap.size, 2, none⟩ = some (.slice A3 a.outs.length c3) ∧ w'.cell? ⟨w.heap.size + 1, 2, none⟩ = some (.slice (some ad) y.f2.length d2) ∧ w'.cell? (ad.add (k * 4)) = some (.int .i64 z.f0) ∧ w'.cell? ⟨(ad.add (k * 4)).block, (ad.add (k * 4)).off + 1, none⟩ = some (.slice E1 z.f1.length e1) ∧ w'.cell? ⟨(ad.add (k * 4)).block, (ad.add (k * 4)).off + 2, none⟩ = some (.slice E2 z.f2.length e2) ∧ w'.cell? ⟨(ad.add (k * 4)).block, (ad.add (k * 4)).off + 3, none⟩ = some (.int .i64 z.f3))
              (first
                | with_reducible exact HSS.out _ K2d.out K3d.out HBd.out
                | with_reducible exact HSS.out _ K2e.out K3e.out HBe.out
                | fail)
              ((go_at_call 58; refine (HI.out _ E1 e1 E2 e2 (Kd.C_below HC2.out HBd.out) (Kd.C_below HR.out HBd.out)).mono ?_; rintro e w3 ⟨⟨b, rfl, hbt⟩, hb⟩; have HBe := Aside0.mk (below_step HBd.out hb); have K2e := Aside0.mk (blk_below K2d.out hb); have K3e := Aside0.mk (blk_below K3d.out hb); have HBT := Aside0.mk hbt; clear hb hbt))
            cases b with
            | false =>
              go_wp2_with fail
              go_ret
              exact ⟨⟨false, rfl, fun h => by cases h⟩, HBe.out⟩
            | true =>
              go_wp2_with fail
              go_roundw
              case rel => exact ⟨k + 1, by omega, by go_num, HBe, K2e, K3e, ⟨HW.out (HBT.out rfl)⟩⟩
              case measure => simp [intOf]; omega
          · obtain rfl : k = y.f2.length := by omega
            go_wp2_with fail
            go_ret
            exact ⟨⟨true, rfl, fun _ => .mk HKR.out (fun z hz => HA.out z (by rw [List.take_length]; exact hz))⟩, HB.out⟩
      · have e5 : ((t.extract 0 7).toList == ([105, 109, 112, 111, 114, 116, 32] : List UInt8)) = false := beq_eq_false_iff_ne.mpr hp
        have e6 : ((t.extract 0 7).toList != ([105, 109, 112, 111, 114, 116, 32] : List UInt8)) = true := bne_iff_ne.mpr hp
        clear hp
        go_wp2_with fail
        go_ret
        exact ⟨⟨false, rfl, fun h => by cases h⟩, HB0.out⟩
    by_cases h21 : y.f0 = 21
    · have e1 : decide (y.f0 = 20) = false := decide_eq_false h20
      have e2 : (y.f0 == 20) = false := beq_eq_false_iff_ne.mpr h20
      have e3 : decide (y.f0 = 21) = true := decide_eq_true h21
      have e4 : (y.f0 == 21) = true := beq_iff_eq.mpr h21
      obtain ⟨hr0, hr1⟩ := GT.out.rs (.inr h21)
      obtain ⟨i, hri⟩ : ∃ i : Nat, y.f3 = (i : Int) := ⟨y.f3.toNat, by omega⟩
      have hil : i < a.res.length := by omega
      obtain ⟨ads, hae, hx⟩ := str_at HR.out hil
      have xs0 := hx _ HB0.out
      have HT := Aside0.mk (txt_size (TX.out _ (List.getElem_mem hil)))
      have HIM : Aside0 ((a.res[i].extract 0 7).toList = ([105, 109, 112, 111, 114, 116, 32] : List UInt8) → Imp a.res (i : Int)) := ⟨fun h => ⟨i, rfl, hil, h⟩⟩
      have ht7 : (7 : Int) ≤ (a.res[i].size : Int) := by have := HT.out; omega
      have i0 : (0 : Int) ≤ (i : Int) := by omega
      have i1 : (i : Int) < (a.res.length : Int) := by omega
      rw [hae] at p0
      clear hae
      have HRI := Aside0.mk hri
      rw [hri] at q3
      clear hx h20 h21 hr0 hr1 hri
      generalize a.res[i] = t at *
      clear hil
      by_cases hp : (t.extract 0 7).toList = ([105, 109, 112, 111, 114, 116, 32] : List UInt8)
      · have e5 : ((t.extract 0 7).toList == ([105, 109, 112, 111, 114, 116, 32] : List UInt8)) = true := beq_iff_eq.mpr hp
        have e6 : ((t.extract 0 7).toList != ([105, 109, 112, 111, 114, 116, 32] : List UInt8)) = false := bne_eq_false_iff_eq.mpr hp
        have HKR : Aside0 (y.f0 = 20 ∨ y.f0 = 21 → Imp a.res y.f3) := ⟨fun _ => by rw [HRI.out]; exact HIM.out hp⟩
        clear hp
        go_wp2_with fail
        clear e1 e2 e3 e4 e5 e6 xs0 i0 i1 ht7 q0 q3 p0
        go_loopw [5] (fun v5 wr => ∃ k : Nat, k ≤ y.f2.length ∧ v5 = .int .i64 k ∧ Aside0 (Below w.heap.size w wr) ∧ Aside0 (wr.heap[w.heap.size]? = some (.cells #[.slice A1 a.res.length c1, .slice A2 a.ins.length c2, .slice A3 a.outs.length c3] 40 (0, 0))) ∧ Aside0 (wr.heap[w.heap.size + 1]? = some (.cells #[.int .i64 y.f0, .slice B1 y.f1.length d1, .slice B2 y.f2.length d2, .int .i64 y.f3] 25 (0, 0))) ∧ Aside0 (∀ z ∈ y.f2.take k, RT (Imp a.res) z)) (fun v5 _ => y.f2.length - (intOf v5).toNat)
        case atStart => exact ⟨0, Nat.zero_le _, rfl, HB0, K2, K3, ⟨fun z hz => by simp at hz⟩⟩
        case round =>
          clear HB0 K2 K3
          obtain ⟨k, hk, rfl, HB, K2, K3, HA⟩ := hrel
          have q2 : wr.cell? ⟨w.heap.size + 1, 2, none⟩ = some (.slice B2 y.f2.length d2) := (blk_cell K3.out 2).trans rfl
          by_cases hlt : k < y.f2.length
          · obtain ⟨ad, E1, e1, E2, e2, hae, hx, l1, g1, l2, g2⟩ := elF25 HL.out hlt
            cases hae
            have HX := Aside0.mk hx
            have HI := Aside0.mk (HIH.out y.f2[k] (List.getElem_mem hlt) (GT.out.el _ (List.getElem_mem hlt)))
            have HW := Aside0.mk (fun h => Wld.take_all (P := fun z => RT (Imp a.res) z) HA.out hlt h)
            have HC2 := Aside0.mk g2
            have k0 : (0 : Int) ≤ (k : Int) := by omega
            have k1 : (k : Int) < (y.f2.length : Int) := by omega
            clear hx l1 g1 l2 g2
            generalize y.f2[k] = z at *
            go_wp2_with fail
            clear q2
            have HBd := Aside0.mk (below_drew1 HB.out)
            have K2d : Aside0 (wr.drew.heap[w.heap.size]? = some (.cells #[.slice A1 a.res.length c1, .slice A2 a.ins.length c2, .slice A3 a.outs.length c3] 40 (0, 0))) := ⟨K2.out⟩
            have K3d : Aside0 (wr.drew.heap[w.heap.size + 1]? = some (.cells #[.int .i64 y.f0, .slice B1 y.f1.length d1, .slice (some ad) y.f2.length d2, .int .i64 y.f3] 25 (0, 0))) := ⟨K3.out⟩
            have HSS : Aside0 (∀ w' : World, w'.heap[w.heap.size]? = some (.cells #[.slice A1 a.res.length c1, .slice A2 a.ins.length c2, .slice A3 a.outs.length c3] 40 (0, 0)) → w'.heap[w.heap.size + 1]? = some (.cells #[.int .i64 y.f0, .slice B1 y.f1.length d1, .slice (some ad) y.f2.length d2, .int .i64 y.f3] 25 (0, 0)) → Below w.heap.size w w' → w'.cell? ⟨w.heap.size, 0, none⟩ = some (.slice A1 a.res.length c1) ∧ w'.cell? ⟨w.heap.size, 1, none⟩ = some (.slice A2 a.ins.length c2) ∧ w'.cell? ⟨w.heap.size, 2, none⟩ = some (.slice A3 a.outs.length c3) ∧ w'.cell? ⟨w.heap.size + 1, 2, none⟩ = some (.slice (some ad) y.f2.length d2) ∧ w'.cell? (ad.add (k * 4)) = some (.int .i64 z.f0) ∧ w'.cell? ⟨(ad.add (k * 4)).block, (ad.add (k * 4)).off + 1, none⟩ = some (.slice E1 z.f1.length e1) ∧ w'.cell? ⟨(ad.add (k * 4)).block, (ad.add (k * 4)).off + 2, none⟩ = some (.slice E2 z.f2.length e2) ∧ w'.cell? ⟨(ad.add (k * 4)).block, (ad.add (k * 4)).off + 3, none⟩ = some (.int .i64 z.f3)) :=
              ⟨fun w' h1 h2 h3 => ⟨(blk_cell h1 0).trans rfl, (blk_cell h1 1).trans rfl, (blk_cell h1 2).trans rfl, (blk_cell h2 2).trans rfl, (HX.out w' h3).1, (HX.out w' h3).2.1, (HX.out w' h3).2.2.1, (HX.out w' h3).2.2.2⟩⟩
            go_region_held3 (fun w' => w'.cell? ⟨w.heap.size, 0, none⟩ = some (.slice A1 a.res.length c1) ∧ w'.cell? ⟨w.heap.size, 1, none⟩ = some (.slice A2 a.ins.length c2) ∧ w'.cell? ⟨w.heap.size, 2, none⟩ = some (.slice A3 a.outs.length c3) ∧ w'.cell? ⟨w.heap.size + 1, 2, none⟩ = some (.slice (some ad) y.f2.length d2) ∧ w'.cell? (ad.add (k * 4)) = some (.int .i64 z.f0) ∧ w'.cell? ⟨(ad.add (k * 4)).block, (ad.add (k * 4)).off + 1, none⟩ = some (.slice E1 z.f1.length e1) ∧ w'.cell? ⟨(ad.add (k * 4)).block, (ad.add (k * 4)).off + 2, none⟩ = some (.slice E2 z.f2.length e2) ∧ w'.cell? ⟨(ad.add (k * 4)).block, (ad.add (k * 4)).off + 3, none⟩ = some (.int .i64 z.f3))
              (first
                | with_reducible exact HSS.out _ K2d.out K3d.out HBd.out
                | with_reducible exact HSS.out _ K2e.out K3e.out HBe.out
                | fail)
              ((go_at_call 58; refine (HI.out _ E1 e1 E2 e2 (Kd.C_below HC2.out HBd.out) (Kd.C_below HR.out HBd.out)).mono ?_; rintro e w3 ⟨⟨b, rfl, hbt⟩, hb⟩; have HBe := Aside0.mk (below_step HBd.out hb); have K2e := Aside0.mk (blk_below K2d.out hb); have K3e := Aside0.mk (blk_below K3d.out hb); have HBT := Aside0.mk hbt; clear hb hbt))
            cases b with
            | false =>
              go_wp2_with fail
              go_ret
              exact ⟨⟨false, rfl, fun h => by cases h⟩, HBe.out⟩
            | true =>
              go_wp2_with fail
              go_roundw
              case rel => exact ⟨k + 1, by omega, by go_num, HBe, K2e, K3e, ⟨HW.out (HBT.out rfl)⟩⟩
              case measure => simp [intOf]; omega
          · obtain rfl : k = y.f2.length := by omega
            go_wp2_with fail
            go_ret
            exact ⟨⟨true, rfl, fun _ => .mk HKR.out (fun z hz => HA.out z (by rw [List.take_length]; exact hz))⟩, HB.out⟩
      · have e5 : ((t.extract 0 7).toList == ([105, 109, 112, 111, 114, 116, 32] : List UInt8)) = false := beq_eq_false_iff_ne.mpr hp
        have e6 : ((t.extract 0 7).toList != ([105, 109, 112, 111, 114, 116, 32] : List UInt8)) = true := bne_iff_ne.mpr hp
        clear hp
        go_wp2_with fail
        go_ret
        exact ⟨⟨false, rfl, fun h => by cases h⟩, HB0.out⟩
    · have e1 : decide (y.f0 = 20) = false := decide_eq_false h20
      have e2 : (y.f0 == 20) = false := beq_eq_false_iff_ne.mpr h20
      have e3 : decide (y.f0 = 21) = false := decide_eq_false h21
      have e4 : (y.f0 == 21) = false := beq_eq_false_iff_ne.mpr h21
      have HKR : Aside0 (y.f0 = 20 ∨ y.f0 = 21 → Imp a.res y.f3) := ⟨fun h => by rcases h with h | h <;> contradiction⟩
      clear h20 h21
      go_wp2_with fail
      clear e1 e2 e3 e4 q0 q3 p0
      go_loopw [5] (fun v5 wr => ∃ k : Nat, k ≤ y.f2.length ∧ v5 = .int .i64 k ∧ Aside0 (Below w.heap.size w wr) ∧ Aside0 (wr.heap[w.heap.size]? = some (.cells #[.slice A1 a.res.length c1, .slice A2 a.ins.length c2, .slice A3 a.outs.length c3] 40 (0, 0))) ∧ Aside0 (wr.heap[w.heap.size + 1]? = some (.cells #[.int .i64 y.f0, .slice B1 y.f1.length d1, .slice B2 y.f2.length d2, .int .i64 y.f3] 25 (0, 0))) ∧ Aside0 (∀ z ∈ y.f2.take k, RT (Imp a.res) z)) (fun v5 _ => y.f2.length - (intOf v5).toNat)
      case atStart => exact ⟨0, Nat.zero_le _, rfl, HB0, K2, K3, ⟨fun z hz => by simp at hz⟩⟩
      case round =>
        clear HB0 K2 K3
        obtain ⟨k, hk, rfl, HB, K2, K3, HA⟩ := hrel
        have q2 : wr.cell? ⟨w.heap.size + 1, 2, none⟩ = some (.slice B2 y.f2.length d2) := (blk_cell K3.out 2).trans rfl
        by_cases hlt : k < y.f2.length
        · obtain ⟨ad, E1, e1, E2, e2, hae, hx, l1, g1, l2, g2⟩ := elF25 HL.out hlt
          cases hae
          have HX := Aside0.mk hx
          have HI := Aside0.mk (HIH.out y.f2[k] (List.getElem_mem hlt) (GT.out.el _ (List.getElem_mem hlt)))
          have HW := Aside0.mk (fun h => Wld.take_all (P := fun z => RT (Imp a.res) z) HA.out hlt h)
          have HC2 := Aside0.mk g2
          have k0 : (0 : Int) ≤ (k : Int) := by omega
          have k1 : (k : Int) < (y.f2.length : Int) := by omega
          clear hx l1 g1 l2 g2
          generalize y.f2[k] = z at *
          go_wp2_with fail
          clear q2
          have HBd := Aside0.mk (below_drew1 HB.out)
          have K2d : Aside0 (wr.drew.heap[w.heap.size]? = some (.cells #[.slice A1 a.res.length c1, .slice A2 a.ins.length c2, .slice A3 a.outs.length c3] 40 (0, 0))) := ⟨K2.out⟩
          have K3d : Aside0 (wr.drew.heap[w.heap.size + 1]? = some (.cells #[.int .i64 y.f0, .slice B1 y.f1.length d1, .slice (some ad) y.f2.length d2, .int .i64 y.f3] 25 (0, 0))) := ⟨K3.out⟩
          have HSS : Aside0 (∀ w' : World, w'.heap[w.heap.size]? = some (.cells #[.slice A1 a.res.length c1, .slice A2 a.ins.length c2, .slice A3 a.outs.length c3] 40 (0, 0)) → w'.heap[w.heap.size + 1]? = some (.cells #[.int .i64 y.f0, .slice B1 y.f1.length d1, .slice (some ad) y.f2.length d2, .int .i64 y.f3] 25 (0, 0)) → Below w.heap.size w w' → w'.cell? ⟨w.heap.size, 0, none⟩ = some (.slice A1 a.res.length c1) ∧ w'.cell? ⟨w.heap.size, 1, none⟩ = some (.slice A2 a.ins.length c2) ∧ w'.cell? ⟨w.heap.size, 2, none⟩ = some (.slice A3 a.outs.length c3) ∧ w'.cell? ⟨w.heap.size + 1, 2, none⟩ = some (.slice (some ad) y.f2.length d2) ∧ w'.cell? (ad.add (k * 4)) = some (.int .i64 z.f0) ∧ w'.cell? ⟨(ad.add (k * 4)).block, (ad.add (k * 4)).off + 1, none⟩ = some (.slice E1 z.f1.length e1) ∧ w'.cell? ⟨(ad.add (k * 4)).block, (ad.add (k * 4)).off + 2, none⟩ = some (.slice E2 z.f2.length e2) ∧ w'.cell? ⟨(ad.add (k * 4)).block, (ad.add (k * 4)).off + 3, none⟩ = some (.int .i64 z.f3)) :=
            ⟨fun w' h1 h2 h3 => ⟨(blk_cell h1 0).trans rfl, (blk_cell h1 1).trans rfl, (blk_cell h1 2).trans rfl, (blk_cell h2 2).trans rfl, (HX.out w' h3).1, (HX.out w' h3).2.1, (HX.out w' h3).2.2.1, (HX.out w' h3).2.2.2⟩⟩
          go_region_held3 (fun w' => w'.cell? ⟨w.heap.size, 0, none⟩ = some (.slice A1 a.res.length c1) ∧ w'.cell? ⟨w.heap.size, 1, none⟩ = some (.slice A2 a.ins.length c2) ∧ w'.cell? ⟨w.heap.size, 2, none⟩ = some (.slice A3 a.outs.length c3) ∧ w'.cell? ⟨w.heap.size + 1, 2, none⟩ = some (.slice (some ad) y.f2.length d2) ∧ w'.cell? (ad.add (k * 4)) = some (.int .i64 z.f0) ∧ w'.cell? ⟨(ad.add (k * 4)).block, (ad.add (k * 4)).off + 1, none⟩ = some (.slice E1 z.f1.length e1) ∧ w'.cell? ⟨(ad.add (k * 4)).block, (ad.add (k * 4)).off + 2, none⟩ = some (.slice E2 z.f2.length e2) ∧ w'.cell? ⟨(ad.add (k * 4)).block, (ad.add (k * 4)).off + 3, none⟩ = some (.int .i64 z.f3))
            (first
              | with_reducible exact HSS.out _ K2d.out K3d.out HBd.out
              | with_reducible exact HSS.out _ K2e.out K3e.out HBe.out
              | fail)
            ((go_at_call 58; refine (HI.out _ E1 e1 E2 e2 (Kd.C_below HC2.out HBd.out) (Kd.C_below HR.out HBd.out)).mono ?_; rintro e w3 ⟨⟨b, rfl, hbt⟩, hb⟩; have HBe := Aside0.mk (below_step HBd.out hb); have K2e := Aside0.mk (blk_below K2d.out hb); have K3e := Aside0.mk (blk_below K3d.out hb); have HBT := Aside0.mk hbt; clear hb hbt))
          cases b with
          | false =>
            go_wp2_with fail
            go_ret
            exact ⟨⟨false, rfl, fun h => by cases h⟩, HBe.out⟩
          | true =>
            go_wp2_with fail
            go_roundw
            case rel => exact ⟨k + 1, by omega, by go_num, HBe, K2e, K3e, ⟨HW.out (HBT.out rfl)⟩⟩
            case measure => simp [intOf]; omega
        · obtain rfl : k = y.f2.length := by omega
          go_wp2_with fail
          go_ret
          exact ⟨⟨true, rfl, fun _ => .mk HKR.out (fun z hz => HA.out z (by rw [List.take_length]; exact hz))⟩, HB.out⟩
theorem outer_any {a : Con} (tx : ∀ t ∈ a.res, Txt t) (A1 : Option Addr) (c1 : Nat) (A2 : Option Addr) (c2 : Nat) (A3 : Option Addr) (c3 : Nat) (y : S25) (g : GoodT a.res.length y) (w : World) (B1 : Option Addr) (d1 : Nat) (B2 : Option Addr) (d2 : Nat) (hl : k25.C w B2 y.f2.length y.f2) (hr : Kd.string.C w A1 a.res.length a.res) :
    Calls Try.prog 58 #[.agg #[.slice A1 a.res.length c1, .slice A2 a.ins.length c2, .slice A3 a.outs.length c3], .agg #[.int .i64 y.f0, .slice B1 y.f1.length d1, .slice B2 y.f2.length d2, .int .i64 y.f3]] w (OutOk a y w) := outer_all tx A1 c1 A2 c2 A3 c3 _ y (Nat.le_refl _) g w B1 d1 B2 d2 hl hr
def MineOk (a : Con) (x : S27) (w : World) (r : Ending) (w' : World) : Prop := (∃ b : Bool, r = .returned (.bool b) ∧ (b = true → RS (Imp a.res) x)) ∧ Below w.heap.size w w'
set_option maxHeartbeats 8000000 in
set_option maxRecDepth 100000 in
theorem mine_any {a : Con} (tx : ∀ t ∈ a.res, Txt t) (A1 : Option Addr) (c1 : Nat) (A2 : Option Addr) (c2 : Nat) (A3 : Option Addr) (c3 : Nat) (x : S27) (g : GoodS a.res.length x) (w : World) (G1 : Option Addr) (e1 : Nat) (G2 : Option Addr) (e2 : Nat) (G4 : Option Addr) (e4 : Nat) (G5 : Option Addr) (e5 : Nat)
    (h2 : k25.C w G2 x.f2.length x.f2) (h5 : k25.C w G5 x.f3.f2.length x.f3.f2) (hr : Kd.string.C w A1 a.res.length a.res) :
    Calls Try.prog 25 #[.agg #[.slice A1 a.res.length c1, .slice A2 a.ins.length c2, .slice A3 a.outs.length c3], .agg #[.string x.f0, .slice G1 x.f1.length e1, .slice G2 x.f2.length e2, .int .i64 x.f3.f0, .slice G4 x.f3.f1.length e4, .slice G5 x.f3.f2.length e5, .int .i64 x.f3.f3]] w (MineOk a x w) := by
  have H2 := Aside0.mk h2
  have H5 := Aside0.mk h5
  have HR := Aside0.mk hr
  have G := Aside0.mk g
  have TX := Aside0.mk tx
  have hm := h2.2.1
  clear h2 h5 hr g tx
  have HB0 : Aside0 (Below w.heap.size w ((w.alloc (.cells #[.slice A1 a.res.length c1, .slice A2 a.ins.length c2, .slice A3 a.outs.length c3] 40)).alloc (.cells #[.string x.f0, .slice G1 x.f1.length e1, .slice G2 x.f2.length e2, .int .i64 x.f3.f0, .slice G4 x.f3.f1.length e4, .slice G5 x.f3.f2.length e5, .int .i64 x.f3.f3] 27))) := ⟨below_alloc (below_alloc (Below.refl _ _) _) _⟩
  have K2 : Aside0 (((w.alloc (.cells #[.slice A1 a.res.length c1, .slice A2 a.ins.length c2, .slice A3 a.outs.length c3] 40)).alloc (.cells #[.string x.f0, .slice G1 x.f1.length e1, .slice G2 x.f2.length e2, .int .i64 x.f3.f0, .slice G4 x.f3.f1.length e4, .slice G5 x.f3.f2.length e5, .int .i64 x.f3.f3] 27)).heap[w.heap.size]? = some (.cells #[.slice A1 a.res.length c1, .slice A2 a.ins.length c2, .slice A3 a.outs.length c3] 40 (0, 0))) := ⟨blk_alloc (blk_new w _) _⟩
  have K3 : Aside0 (((w.alloc (.cells #[.slice A1 a.res.length c1, .slice A2 a.ins.length c2, .slice A3 a.outs.length c3] 40)).alloc (.cells #[.string x.f0, .slice G1 x.f1.length e1, .slice G2 x.f2.length e2, .int .i64 x.f3.f0, .slice G4 x.f3.f1.length e4, .slice G5 x.f3.f2.length e5, .int .i64 x.f3.f3] 27)).heap[w.heap.size + 1]? = some (.cells #[.string x.f0, .slice G1 x.f1.length e1, .slice G2 x.f2.length e2, .int .i64 x.f3.f0, .slice G4 x.f3.f1.length e4, .slice G5 x.f3.f2.length e5, .int .i64 x.f3.f3] 27 (0, 0))) := ⟨by have := blk_new (w.alloc (.cells #[.slice A1 a.res.length c1, .slice A2 a.ins.length c2, .slice A3 a.outs.length c3] 40)) (.cells #[.string x.f0, .slice G1 x.f1.length e1, .slice G2 x.f2.length e2, .int .i64 x.f3.f0, .slice G4 x.f3.f1.length e4, .slice G5 x.f3.f2.length e5, .int .i64 x.f3.f3] 27); simp only [World.size_alloc] at this; exact this⟩
  go_enter Try.func25, Try.ntmps25
  go_wp2_with fail
  generalize ((w.alloc (.cells #[.slice A1 a.res.length c1, .slice A2 a.ins.length c2, .slice A3 a.outs.length c3] 40)).alloc (.cells #[.string x.f0, .slice G1 x.f1.length e1, .slice G2 x.f2.length e2, .int .i64 x.f3.f0, .slice G4 x.f3.f1.length e4, .slice G5 x.f3.f2.length e5, .int .i64 x.f3.f3] 27)) = wb at *
  go_loopw [5] (fun v5 wr => ∃ k : Nat, k ≤ x.f2.length ∧ v5 = .int .i64 k ∧ Aside0 (Below w.heap.size w wr) ∧ Aside0 (wr.heap[w.heap.size]? = some (.cells #[.slice A1 a.res.length c1, .slice A2 a.ins.length c2, .slice A3 a.outs.length c3] 40 (0, 0))) ∧ Aside0 (wr.heap[w.heap.size + 1]? = some (.cells #[.string x.f0, .slice G1 x.f1.length e1, .slice G2 x.f2.length e2, .int .i64 x.f3.f0, .slice G4 x.f3.f1.length e4, .slice G5 x.f3.f2.length e5, .int .i64 x.f3.f3] 27 (0, 0))) ∧ Aside0 (∀ z ∈ x.f2.take k, RT (Imp a.res) z)) (fun v5 _ => x.f2.length - (intOf v5).toNat)
  case atStart => exact ⟨0, Nat.zero_le _, rfl, HB0, K2, K3, ⟨fun z hz => by simp at hz⟩⟩
  case round =>
    clear HB0 K2 K3
    obtain ⟨k, hk, rfl, HB, K2, K3, HA⟩ := hrel
    have q2 : wr.cell? ⟨w.heap.size + 1, 2, none⟩ = some (.slice G2 x.f2.length e2) := (blk_cell K3.out 2).trans rfl
    by_cases hlt : k < x.f2.length
    · obtain ⟨ad, E1, f1, E2, f2, hae, hx, l1, g1, l2, g2⟩ := elF25 H2.out hlt
      cases hae
      have HX := Aside0.mk hx
      have HI := Aside0.mk (fun w' hb hr' => outer_any TX.out A1 c1 A2 c2 A3 c3 x.f2[k] (G.out.1 _ (List.getElem_mem hlt)) w' E1 f1 E2 f2 (Kd.C_below g2 hb) hr')
      have HW := Aside0.mk (fun h => Wld.take_all (P := fun z => RT (Imp a.res) z) HA.out hlt h)
      have k0 : (0 : Int) ≤ (k : Int) := by omega
      have k1 : (k : Int) < (x.f2.length : Int) := by omega
      clear hx l1 g1 l2 g2
      generalize x.f2[k] = z at *
      go_wp2_with fail
      clear q2
      have HBd := Aside0.mk (below_drew1 HB.out)
      have K2d : Aside0 (wr.drew.heap[w.heap.size]? = some (.cells #[.slice A1 a.res.length c1, .slice A2 a.ins.length c2, .slice A3 a.outs.length c3] 40 (0, 0))) := ⟨K2.out⟩
      have K3d : Aside0 (wr.drew.heap[w.heap.size + 1]? = some (.cells #[.string x.f0, .slice G1 x.f1.length e1, .slice (some ad) x.f2.length e2, .int .i64 x.f3.f0, .slice G4 x.f3.f1.length e4, .slice G5 x.f3.f2.length e5, .int .i64 x.f3.f3] 27 (0, 0))) := ⟨K3.out⟩
      have HSS : Aside0 (∀ w' : World, w'.heap[w.heap.size]? = some (.cells #[.slice A1 a.res.length c1, .slice A2 a.ins.length c2, .slice A3 a.outs.length c3] 40 (0, 0)) → w'.heap[w.heap.size + 1]? = some (.cells #[.string x.f0, .slice G1 x.f1.length e1, .slice (some ad) x.f2.length e2, .int .i64 x.f3.f0, .slice G4 x.f3.f1.length e4, .slice G5 x.f3.f2.length e5, .int .i64 x.f3.f3] 27 (0, 0)) → Below w.heap.size w w' → w'.cell? ⟨w.heap.size, 0, none⟩ = some (.slice A1 a.res.length c1) ∧ w'.cell? ⟨w.heap.size, 1, none⟩ = some (.slice A2 a.ins.length c2) ∧ w'.cell? ⟨w.heap.size, 2, none⟩ = some (.slice A3 a.outs.length c3) ∧ w'.cell? ⟨w.heap.size + 1, 2, none⟩ = some (.slice (some ad) x.f2.length e2) ∧ w'.cell? (ad.add (k * 4)) = some (.int .i64 z.f0) ∧ w'.cell? ⟨(ad.add (k * 4)).block, (ad.add (k * 4)).off + 1, none⟩ = some (.slice E1 z.f1.length f1) ∧ w'.cell? ⟨(ad.add (k * 4)).block, (ad.add (k * 4)).off + 2, none⟩ = some (.slice E2 z.f2.length f2) ∧ w'.cell? ⟨(ad.add (k * 4)).block, (ad.add (k * 4)).off + 3, none⟩ = some (.int .i64 z.f3)) :=
        ⟨fun w' h1 h2 h3 => ⟨(blk_cell h1 0).trans rfl, (blk_cell h1 1).trans rfl, (blk_cell h1 2).trans rfl, (blk_cell h2 2).trans rfl, (HX.out w' h3).1, (HX.out w' h3).2.1, (HX.out w' h3).2.2.1, (HX.out w' h3).2.2.2⟩⟩
      go_region_held3 (fun w' => w'.cell? ⟨w.heap.size, 0, none⟩ = some (.slice A1 a.res.length c1) ∧ w'.cell? ⟨w.heap.size, 1, none⟩ = some (.slice A2 a.ins.length c2) ∧ w'.cell? ⟨w.heap.size, 2, none⟩ = some (.slice A3 a.outs.length c3) ∧ w'.cell? ⟨w.heap.size + 1, 2, none⟩ = some (.slice (some ad) x.f2.length e2) ∧ w'.cell? (ad.add (k * 4)) = some (.int .i64 z.f0) ∧ w'.cell? ⟨(ad.add (k * 4)).block, (ad.add (k * 4)).off + 1, none⟩ = some (.slice E1 z.f1.length f1) ∧ w'.cell? ⟨(ad.add (k * 4)).block, (ad.add (k * 4)).off + 2, none⟩ = some (.slice E2 z.f2.length f2) ∧ w'.cell? ⟨(ad.add (k * 4)).block, (ad.add (k * 4)).off + 3, none⟩ = some (.int .i64 z.f3))
        (first
          | with_reducible exact HSS.out _ K2d.out K3d.out HBd.out
          | with_reducible exact HSS.out _ K2e.out K3e.out HBe.out
          | fail)
        ((go_at_call 58; refine (HI.out _ HBd.out (Kd.C_below HR.out HBd.out)).mono ?_; rintro e w3 ⟨⟨b, rfl, hbt⟩, hb⟩; have HBe := Aside0.mk (below_step HBd.out hb); have K2e := Aside0.mk (blk_below K2d.out hb); have K3e := Aside0.mk (blk_below K3d.out hb); have HBT := Aside0.mk hbt; clear hb hbt))
      cases b with
      | false =>
        go_wp2_with fail
        go_ret
        exact ⟨⟨false, rfl, fun h => by cases h⟩, HBe.out⟩
      | true =>
        go_wp2_with fail
        go_roundw
        case rel => exact ⟨k + 1, by omega, by go_num, HBe, K2e, K3e, ⟨HW.out (HBT.out rfl)⟩⟩
        case measure => simp [intOf]; omega
    · obtain rfl : k = x.f2.length := by omega
      have p0 : wr.cell? ⟨w.heap.size, 0, none⟩ = some (.slice A1 a.res.length c1) := (blk_cell K2.out 0).trans rfl
      have p1 : wr.cell? ⟨w.heap.size, 1, none⟩ = some (.slice A2 a.ins.length c2) := (blk_cell K2.out 1).trans rfl
      have p2 : wr.cell? ⟨w.heap.size, 2, none⟩ = some (.slice A3 a.outs.length c3) := (blk_cell K2.out 2).trans rfl
      have q0 : wr.cell? ⟨(w.heap.size + 1), 0, none⟩ = some (.string x.f0) := (blk_cell K3.out 0).trans rfl
      have q1 : wr.cell? ⟨(w.heap.size + 1), 1, none⟩ = some (.slice G1 x.f1.length e1) := (blk_cell K3.out 1).trans rfl
      have q2' : wr.cell? ⟨(w.heap.size + 1), 2, none⟩ = some (.slice G2 x.f2.length e2) := (blk_cell K3.out 2).trans rfl
      have q3 : wr.cell? ⟨(w.heap.size + 1), 3, none⟩ = some (.int .i64 x.f3.f0) := (blk_cell K3.out 3).trans rfl
      have q4 : wr.cell? ⟨(w.heap.size + 1), 4, none⟩ = some (.slice G4 x.f3.f1.length e4) := (blk_cell K3.out 4).trans rfl
      have q5 : wr.cell? ⟨(w.heap.size + 1), 5, none⟩ = some (.slice G5 x.f3.f2.length e5) := (blk_cell K3.out 5).trans rfl
      have q6 : wr.cell? ⟨(w.heap.size + 1), 6, none⟩ = some (.int .i64 x.f3.f3) := (blk_cell K3.out 6).trans rfl
      go_wp2_with fail
      refine (outer_any TX.out A1 c1 A2 c2 A3 c3 x.f3 G.out.2 wr G4 e4 G5 e5 (Kd.C_below H5.out HB.out) (Kd.C_below HR.out HB.out)).mono ?_
      rintro e w3 ⟨⟨b, rfl, hbt⟩, hb⟩
      have HBe := Aside0.mk (below_step HB.out hb)
      have HBT := Aside0.mk hbt
      clear hb hbt
      go_wp2_with fail
      go_ret
      exact ⟨⟨b, rfl, fun h => ⟨fun z hz => HA.out z (by rw [List.take_length]; exact hz), HBT.out h⟩⟩, HBe.out⟩
end Go.Proofs.Ytmpmcffhlnlejaa.Slf
end
section
namespace Go.Proofs.Ytmpmcffhlnlejaa.Slf
open Go.RowKit Go.Proofs.YtmpmcffhlnlejaaW.PrintWords
open Go.Proofs.Ytmpmcffhlnlejaa.SubEq Go.Proofs.Ytmpmcffhlnlejaa.PSubFits Go.Proofs.Ytmpmcffhlnlejaa.Mkr
set_option linter.unusedVariables false
set_option linter.unusedSimpArgs false
/-- The other side's text. -/
def flipF (s : ByteArray) : ByteArray := if (s.extract 0 7).toList = ([105, 109, 112, 111, 114, 116, 32] : List UInt8) then (⟨#[101, 120, 112, 111, 114, 116, 32]⟩ : ByteArray) ++ s.extract 7 s.size else (⟨#[105, 109, 112, 111, 114, 116, 32]⟩ : ByteArray) ++ s.extract 7 s.size
theorem cut_left (p b : ByteArray) (hp : p.size = 7) : (p ++ b).extract 0 7 = p := ByteArray.extract_append_eq_left hp.symm
theorem cut_right (p b : ByteArray) (hp : p.size = 7) : (p ++ b).extract 7 (p ++ b).size = b := ByteArray.extract_append_eq_right hp.symm (by rw [ByteArray.size_append])
theorem imp_form (key n : ByteArray) : impOf key n = (⟨#[105, 109, 112, 111, 114, 116, 32]⟩ : ByteArray) ++ (key ++ (⟨#[35]⟩ : ByteArray) ++ n) := by
  unfold impOf
  simp only [ByteArray.append_assoc]
theorem exp_form (key n : ByteArray) : expOf key n = (⟨#[101, 120, 112, 111, 114, 116, 32]⟩ : ByteArray) ++ (key ++ (⟨#[35]⟩ : ByteArray) ++ n) := by
  unfold expOf
  simp only [ByteArray.append_assoc]
theorem pre_imp (b : ByteArray) : (((⟨#[105, 109, 112, 111, 114, 116, 32]⟩ : ByteArray) ++ b).extract 0 7).toList = ([105, 109, 112, 111, 114, 116, 32] : List UInt8) := by
  rw [cut_left _ _ rfl, ByteArray.toList_eq]
theorem pre_exp (b : ByteArray) : (((⟨#[101, 120, 112, 111, 114, 116, 32]⟩ : ByteArray) ++ b).extract 0 7).toList ≠ ([105, 109, 112, 111, 114, 116, 32] : List UInt8) := by
  rw [cut_left _ _ rfl, ByteArray.toList_eq]
  decide
theorem flip_imp (b : ByteArray) : flipF ((⟨#[105, 109, 112, 111, 114, 116, 32]⟩ : ByteArray) ++ b) = (⟨#[101, 120, 112, 111, 114, 116, 32]⟩ : ByteArray) ++ b := by
  unfold flipF
  rw [if_pos (pre_imp b), cut_right _ _ rfl]
theorem flip_exp (b : ByteArray) : flipF ((⟨#[101, 120, 112, 111, 114, 116, 32]⟩ : ByteArray) ++ b) = (⟨#[105, 109, 112, 111, 114, 116, 32]⟩ : ByteArray) ++ b := by
  unfold flipF
  rw [if_neg (pre_exp b), cut_right _ _ rfl]
theorem flip_flip {t : ByteArray} (h : Txt t) : flipF (flipF t) = t := by
  obtain ⟨key, n, rfl | rfl, _, _⟩ := h
  · rw [imp_form, flip_imp, flip_exp]
  · rw [exp_form, flip_exp, flip_imp]
theorem flip_nodup : ∀ {l : List ByteArray}, l.Nodup → (∀ t ∈ l, Txt t) → (l.map flipF).Nodup
  | [], _, _ => List.nodup_nil
  | x :: xs, nd, tx => by
    have nd2 := List.nodup_cons.1 nd
    refine List.nodup_cons.2 ⟨fun hm => ?_, flip_nodup nd2.2 (fun t ht => tx t (List.mem_cons_of_mem _ ht))⟩
    obtain ⟨y, hy, e⟩ := List.mem_map.1 hm
    have h1 := congrArg flipF e
    rw [flip_flip (tx y (List.mem_cons_of_mem _ hy)), flip_flip (tx x List.mem_cons_self)] at h1
    exact nd2.1 (h1 ▸ hy)
theorem txt_size8 {t : ByteArray} (h : Txt t) : 8 ≤ t.size ∧ t.size ≤ 1200 := by
  obtain ⟨key, n, rfl | rfl, hk, hn⟩ := h
  · unfold impOf
    simp only [ByteArray.size_append]
    show 8 ≤ 7 + key.size + 1 + n.size ∧ 7 + key.size + 1 + n.size ≤ 1200
    omega
  · unfold expOf
    simp only [ByteArray.size_append]
    show 8 ≤ 7 + key.size + 1 + n.size ∧ 7 + key.size + 1 + n.size ≤ 1200
    omega
/-- Is a resource imported? -/
def ImpR (res : List ByteArray) (r : Int) : Prop := ∃ i : Nat, r = (i : Int) ∧ ∃ h : i < res.length, (res[i].extract 0 7).toList = ([105, 109, 112, 111, 114, 116, 32] : List UInt8)
theorem own_flip {a : Con} (g : GoodC a) : Own (pairsF impT a.res (a.res.map flipF)) (ImpR a.res) := fun r hr => by
  obtain ⟨i, rfl, hi, hp⟩ := hr
  have h8 := txt_size8 (g.tx _ (List.getElem_mem hi))
  refine ⟨by omega, by rw [pairs_len]; omega, ?_⟩
  have e1 : impT a.res[i] = some (flipF a.res[i]) := by
    unfold impT flipF
    rw [if_pos ⟨by omega, hp⟩, if_pos hp]
  rw [rd_map (T := impT) hi e1]
  have hi2 : i < (a.res.map flipF).length := by simpa using hi
  have e2 : flipF a.res[i] = (a.res.map flipF)[i] := by simp
  rw [e2]
  exact ixB_self (flip_nodup g.nd g.tx) hi2
theorem links_all {a : Con} (g : GoodC a) (hm : ∀ x ∈ a.ins, RS (ImpR a.res) x) : linksF a ⟨a.res.map flipF, [], a.ins⟩ = 0 := allF_all (own_flip g) g.ni (fun x hx => ⟨hx, hm x hx⟩)
theorem links_less {a : Con} (g : GoodC a) (hm : ∀ x ∈ a.ins, RS (ImpR a.res) x) : linksF ⟨a.res, a.ins.drop 1, a.outs⟩ ⟨a.res.map flipF, [], a.ins⟩ = 0 := by
  show allF a.ins (pairsF impT a.res (a.res.map flipF)) (a.ins.drop 1) = 0
  exact allF_all (own_flip g) g.ni (fun x hx => ⟨List.mem_of_mem_drop hx, hm x (List.mem_of_mem_drop hx)⟩)
theorem links_none {a : Con} (h0 : a.ins.length ≠ 0) : linksF a ⟨a.res.map flipF, [], []⟩ = 11 := by
  show allF [] _ a.ins = 11
  cases h : a.ins with
  | nil => rw [h] at h0; simp at h0
  | cons x xs => rfl
end Go.Proofs.Ytmpmcffhlnlejaa.Slf
end
section
namespace Go.Proofs.Ytmpmcffhlnlejaa.Slf
open Go.RowKit Go.Proofs.YtmpmcffhlnlejaaW.PrintWords Go.Proofs.YtmpmcffhlnlejaaW.PrintLast Go.Proofs.YtmpmcffhlnlejaaW.PrintMore
open Go.Proofs.Ytmpmcffhlnlejaa.SubEq Go.Proofs.Ytmpmcffhlnlejaa.Mkr
open Go.Proofs.Ytmpmcffhlnlejaa.PSubSelf (S120 k120)
open Go.Proofs.Ytmpmcffhlnlejaa.Wld (SmP)
set_option linter.unusedVariables false
set_option linter.unusedSimpArgs false
structure ConN (w : World) (base N : Nat) (a : Con) (A1 : Option Addr) (c1 : Nat) (A2 : Option Addr) (c2 : Nat) (A3 : Option Addr) (c3 : Nat) : Prop where
  r1 : Kd.string.R 9 w base (fun k => k < N) (.slice A1 a.res.length c1) a.res
  r2 : PSubFits.k27.R 27 w base (fun k => k < N) (.slice A2 a.ins.length c2) a.ins
  r3 : PSubFits.k27.R 27 w base (fun k => k < N) (.slice A3 a.outs.length c3) a.outs
section
variable {w w' : World} {base N : Nat} {a : Con} {A1 : Option Addr} {c1 : Nat} {A2 : Option Addr} {c2 : Nat} {A3 : Option Addr} {c3 : Nat}
theorem ConN.of (h : ConR w base a A1 c1 A2 c2 A3 c3) : ConN w base w.heap.size a A1 c1 A2 c2 A3 c3 := ⟨Kd.R_mono (Kd.R_bound h.r1) (fun k hk => hk.2.2.1), Kd.R_mono (Kd.R_bound h.r2) (fun k hk => hk.2.2.1), Kd.R_mono (Kd.R_bound h.r3) (fun k hk => hk.2.2.1)⟩
theorem ConN.toR (h : ConN w base N a A1 c1 A2 c2 A3 c3) : ConR w base a A1 c1 A2 c2 A3 c3 := ⟨Kd.R_mono h.r1 (fun _ _ => trivial), Kd.R_mono h.r2 (fun _ _ => trivial), Kd.R_mono h.r3 (fun _ _ => trivial)⟩
theorem ConN.set (h : ConN w base N a A1 c1 A2 c2 A3 c3) {g : Nat} {cs : Array Value} (hb : w.heap[g]? = some (.cells cs 40 (0, 0))) (j : Nat) (u : Value) : ConN (w.setCell ⟨g, j, none⟩ u) base N a A1 c1 A2 c2 A3 c3 :=
  ⟨Kd.R_set h.r1 hb (by decide) j u, Kd.R_set h.r2 hb (by decide) j u, Kd.R_set h.r3 hb (by decide) j u⟩
theorem ConN.grown (h : ConN w base N a A1 c1 A2 c2 A3 c3) {row : Option Nat} (hg : w.grownBy w' row) (hr : ∀ k, row = some k → N ≤ k) : ConN w' base N a A1 c1 A2 c2 A3 c3 :=
  ⟨Kd.R_grown h.r1 hg (fun k hk e => by have := hr k e.symm; omega), Kd.R_grown h.r2 hg (fun k hk e => by have := hr k e.symm; omega), Kd.R_grown h.r3 hg (fun k hk e => by have := hr k e.symm; omega)⟩
end
end Go.Proofs.Ytmpmcffhlnlejaa.Slf
end
