/- The contract of subtype.all. -/
import Derived.Test.YtmpmcffhlnlejaaSubFind
namespace Go.Proofs.Ytmpmcffhlnlejaa.SubEq
open Go.RowKit Go.Proofs.YtmpmcffhlnlejaaW.PrintWords Go.Proofs.YtmpmcffhlnlejaaW.PrintLast Go.Proofs.YtmpmcffhlnlejaaW.PrintMore
open Go.Proofs.Ytmpmcffhlnlejaa.PSubFits
set_option linter.unusedVariables false
set_option linter.unusedSimpArgs false

/-- Is each among others, with the same types? -/
def allF (among : List S27) (m : List Int) : List S27 → Int
  | [] => 0
  | x :: xs => match among.find? (fun y => decide (y.f0 = x.f0)) with
    | none => 11
    | some y => if sigsT m x y = true then allF among m xs else 6

theorem allF_drop {among l : List S27} {m : List Int} {k : Nat} (h : k < l.length) :
    allF among m (l.drop k) = match among.find? (fun y => decide (y.f0 = (rd_T27 l (k : Int)).f0)) with
      | none => 11
      | some y => if sigsT m (rd_T27 l (k : Int)) y = true then allF among m (l.drop (k + 1)) else 6 := by
  rw [List.drop_eq_getElem_cons h, rdT27_eq h]
  rfl

set_option maxHeartbeats 4000000 in
theorem all_calls {A B M : Option Addr} {c d cm : Nat} {l among : List S27} {m : List Int} {w : World} (hl : k27.C w A l.length l) (ha : k27.C w B among.length among) (hm : (Kd.int .i64).C w M m.length m) (hcm : m.length ≤ cm) :
    Calls Try.prog 55 #[.slice A l.length c, .slice B among.length d, .slice M m.length cm] w fun e w' => e = .returned (.int .i64 (allF among m l)) ∧ Below w.heap.size w w' := by
  have hm1 : l.length ≤ 9223372036854775807 := hl.2.1
  have HL := Aside0.mk hl
  have HA := Aside0.mk ha
  have HM := Aside0.mk hm
  clear hl ha hm
  go_enter Try.func55, Try.ntmps55
  go_wp2_with fail
  go_loopw [13] (fun v13 wr => ∃ k : Nat, k ≤ l.length ∧ v13 = .int .i64 k ∧ Aside0 (Below w.heap.size w wr) ∧ Aside0 (allF among m l = allF among m (l.drop k))) (fun v13 _ => l.length - (intOf v13).toNat)
  case atStart => exact ⟨0, Nat.zero_le _, rfl, ⟨Below.refl _ _⟩, ⟨rfl⟩⟩
  case round =>
    obtain ⟨k, hk, rfl, HB, HE⟩ := hrel
    by_cases hlt : k < l.length
    · obtain ⟨ad, A1, c1, A2, c2, A4, c4, A5, c5, rfl, x0, x1, x2, x3, x4, x5, x6, l1, g1, l2, g2, l4, g4, l5, g5⟩ := at_T27 (Kd.C_below HL.out HB.out) (k : Int) (by omega) (by omega)
      rw [Int.toNat_natCast] at x0 x1 x2 x3 x4 x5 x6
      have HS : Aside0 (SigAt wr (rd_T27 l (k : Int)) A1 c1 A2 c2 A4 c4 A5 c5) := ⟨⟨g1, l1, g2, l2, ⟨g4, l4, g5, l5⟩⟩⟩
      have HD := Aside0.mk (allF_drop (among := among) (m := m) hlt)
      clear l1 g1 l2 g2 l4 g4 l5 g5
      generalize rd_T27 l (k : Int) = x at *
      have K0 := blk_new wr (.cells #[.string x.f0, .slice A1 x.f1.length c1, .slice A2 x.f2.length c2, .int .i64 x.f3.f0, .slice A4 x.f3.f1.length c4, .slice A5 x.f3.f2.length c5, .int .i64 x.f3.f3] 27)
      have hb0 := below_alloc (Below.refl wr.heap.size wr) (.cells #[.string x.f0, .slice A1 x.f1.length c1, .slice A2 x.f2.length c2, .int .i64 x.f3.f0, .slice A4 x.f3.f1.length c4, .slice A5 x.f3.f2.length c5, .int .i64 x.f3.f3] 27)
      have PK := Aside0.mk K0
      have PB := Aside0.mk hb0
      clear K0 hb0
      rcases ixF_find x.f0 among with ⟨h1, h2⟩ | ⟨i, hi, h1, h2⟩
      · have HR := Aside0.mk (show allF among m l = 11 by rw [HE.out, HD.out, h2])
        have H1 := Aside0.mk h1
        clear h1 h2
        go_wp2_with fail
        refine (find_no (Kd.C_below HA.out (below_step HB.out PB.out)) H1.out).mono ?_
        rintro e w1 ⟨rfl, hb⟩
        have HB1 := Aside0.mk (below_step (below_step HB.out PB.out) hb)
        clear hb x0 x1 x2 x3 x4 x5 x6
        go_wp2_with fail
        go_ret
        exact ⟨by rw [HR.out]; rfl, below_alloc HB1.out _⟩
      · have H1 := Aside0.mk h1
        have HI := Aside0.mk hi
        have HD2 := Aside0.mk (show allF among m l = if sigsT m x among[i] = true then allF among m (l.drop (k + 1)) else 6 by rw [HE.out, HD.out, h2])
        clear h1 h2
        go_wp2_with fail
        refine (find_yes (Kd.C_below HA.out (below_step HB.out PB.out)) HI.out H1.out).mono ?_
        rintro e w1 ⟨B1, d1, B2, d2, B4, d4, B5, d5, rfl, hs, hb⟩
        have HT := Aside0.mk (hs.below hb)
        have K1 := blk_below PK.out hb
        have HB1 := Aside0.mk (below_step (below_step HB.out PB.out) hb)
        have HS1 := Aside0.mk (HS.out.below (below_step PB.out hb))
        clear hb hs x0 x1 x2 x3 x4 x5 x6
        generalize among[i] = y at *
        have z0 : ∀ o, (w1.alloc o).cell? ⟨wr.heap.size, 0, none⟩ = some (.string x.f0) := fun o => (blk_cell (blk_alloc K1 o) 0).trans rfl
        have z1 : ∀ o, (w1.alloc o).cell? ⟨wr.heap.size, 1, none⟩ = some (.slice A1 x.f1.length c1) := fun o => (blk_cell (blk_alloc K1 o) 1).trans rfl
        have z2 : ∀ o, (w1.alloc o).cell? ⟨wr.heap.size, 2, none⟩ = some (.slice A2 x.f2.length c2) := fun o => (blk_cell (blk_alloc K1 o) 2).trans rfl
        have z3 : ∀ o, (w1.alloc o).cell? ⟨wr.heap.size, 3, none⟩ = some (.int .i64 x.f3.f0) := fun o => (blk_cell (blk_alloc K1 o) 3).trans rfl
        have z4 : ∀ o, (w1.alloc o).cell? ⟨wr.heap.size, 4, none⟩ = some (.slice A4 x.f3.f1.length c4) := fun o => (blk_cell (blk_alloc K1 o) 4).trans rfl
        have z5 : ∀ o, (w1.alloc o).cell? ⟨wr.heap.size, 5, none⟩ = some (.slice A5 x.f3.f2.length c5) := fun o => (blk_cell (blk_alloc K1 o) 5).trans rfl
        have z6 : ∀ o, (w1.alloc o).cell? ⟨wr.heap.size, 6, none⟩ = some (.int .i64 x.f3.f3) := fun o => (blk_cell (blk_alloc K1 o) 6).trans rfl
        have y0 : w1.cell? ⟨wr.heap.size, 0, none⟩ = some (.string x.f0) := (blk_cell K1 0).trans rfl
        clear K1
        go_wp2_with fail
        have hb2 := Aside0.mk (below_alloc (Below.refl w1.heap.size w1) (.cells #[.string y.f0, .slice B1 y.f1.length d1, .slice B2 y.f2.length d2, .int .i64 y.f3.f0, .slice B4 y.f3.f1.length d4, .slice B5 y.f3.f2.length d5, .int .i64 y.f3.f3] 27))
        refine (sigs_calls m x y _ A1 c1 A2 c2 A4 c4 A5 c5 B1 d1 B2 d2 B4 d4 B5 d5 M cm (HS1.out.below hb2.out) (HT.out.below hb2.out) (Kd.C_below HM.out (below_step HB1.out hb2.out)) hcm).mono ?_
        rintro e w2 ⟨rfl, hb⟩
        have HB2 := Aside0.mk (below_step (below_step HB1.out hb2.out) hb)
        clear hb z0 z1 z2 z3 z4 z5 z6 y0
        cases hv : sigsT m x y with
        | true =>
          have HR := Aside0.mk (HD2.out.trans (if_pos hv))
          clear HD2 HD HE
          go_wp2_with fail
          go_roundw
          case rel => exact ⟨k + 1, by omega, by go_num, HB2, HR⟩
          case measure => simp [intOf]; omega
        | false =>
          have HR := Aside0.mk (HD2.out.trans (if_neg (by rw [hv]; simp)))
          clear HD2 HD HE
          go_wp2_with fail
          go_ret
          exact ⟨by rw [HR.out]; rfl, HB2.out⟩
    · have HR := Aside0.mk (show allF among m l = 0 by rw [HE.out, List.drop_eq_nil_of_le (by omega)]; rfl)
      go_wp2_with fail
      go_ret
      exact ⟨by rw [HR.out]; rfl, HB.out⟩
end Go.Proofs.Ytmpmcffhlnlejaa.SubEq
