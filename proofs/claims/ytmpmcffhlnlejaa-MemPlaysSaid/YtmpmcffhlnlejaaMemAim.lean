/- The walks of scarflaw04.place (as the printer wrote it) and .aimed. -/
import Derived.Test.YtmpmcffhlnlejaaMemSome
namespace Go.Proofs.Ytmpmcffhlnlejaa.MemEq
open Go.RowKit Go.Proofs.YtmpmcffhlnlejaaW.PrintWords Go.Proofs.YtmpmcffhlnlejaaW.PrintLast Go.Proofs.YtmpmcffhlnlejaaW.PrintMore
open Go.Proofs.Ytmpmcffhlnlejaa.PMemBack
set_option linter.unusedVariables false
set_option linter.unusedSimpArgs false

/-! ### scarflaw04_place: function 72 -/
def scarflaw04_place.f (a0 : Int) (a1 : Int) : Option (Int) := if (Go.bits .and .i64 a0 64) = 0 then (some (Go.bits .and .i64 a0 63)) else (some (wrap64 (a1 - (Go.bits .and .i64 a0 31))))
set_option maxHeartbeats 8000000 in
set_option maxRecDepth 100000 in
theorem scarflaw04_place.calls (a0 : Int) (a1 : Int) (r : Int) (w : World) (h : scarflaw04_place.f a0 a1 = some r) :
    Calls Try.prog 72 #[.int .i64 a0, .int .i64 a1] w fun e w' => e = .returned (.int .i64 r) ∧ Drawn0 w w' := by
  have H : (if (Go.bits .and .i64 a0 64) = 0 then (some (Go.bits .and .i64 a0 63)) else (some (wrap64 (a1 - (Go.bits .and .i64 a0 31))))) = some r := h
  clear h
  by_cases c3 : (Go.bits .and .i64 a0 64) = 0
  · rw [if_pos c3] at H
    have c3b0 : ((Go.bits .and .i64 a0 64) == 0) = true := beq_iff_eq.mpr c3
    have c3b1 : ((Go.bits .and .i64 a0 64) != 0) = false := bne_eq_false_iff_eq.mpr c3
    clear c3
    obtain rfl := Option.some.inj H
    go_enter Try.func72, Try.ntmps72
    go_wp2
    go_ret
    exact ⟨by first | rfl | (simp; done) | (simp [*]; done), by repeat (first | exact Drawn0.refl _ | apply Drawn0.step)⟩
  · rw [if_neg c3] at H
    have c3b0 : ((Go.bits .and .i64 a0 64) == 0) = false := beq_eq_false_iff_ne.mpr c3
    have c3b1 : ((Go.bits .and .i64 a0 64) != 0) = true := bne_iff_ne.mpr c3
    obtain rfl := Option.some.inj H
    go_enter Try.func72, Try.ntmps72
    go_wp2
    go_ret
    exact ⟨by first | rfl | (simp; done) | (simp [*]; done), by repeat (first | exact Drawn0.refl _ | apply Drawn0.step)⟩

theorem place_calls (a0 a1 : Int) (w : World) : Calls Try.prog 72 #[.int .i64 a0, .int .i64 a1] w fun e w' => ∃ r : Int, e = .returned (.int .i64 r) ∧ Drawn0 w w' := by
  by_cases h : Go.bits .and .i64 a0 64 = 0
  · exact (scarflaw04_place.calls a0 a1 _ w (if_pos h)).mono fun e w' hh => ⟨_, hh⟩
  · exact (scarflaw04_place.calls a0 a1 _ w (if_neg h)).mono fun e w' hh => ⟨_, hh⟩

/-- A result cell's block, written whole. -/
theorem below_dc {w W : World} {g : Nat} (hb : Below w.heap.size w W) (hg : w.heap.size ≤ g) (a0 a1 a2 a3 a4 a5 a6 a7 : Value) :
    Below w.heap.size w ((((((((W.setCell ⟨g, 0, none⟩ a0).setCell ⟨g, 1, none⟩ a1).setCell ⟨g, 2, none⟩ a2).setCell ⟨g, 3, none⟩ a3).setCell ⟨g, 4, none⟩ a4).setCell ⟨g, 5, none⟩ a5).setCell ⟨g, 6, none⟩ a6).setCell ⟨g, 7, none⟩ a7) :=
  pw_below_grown hb (some g) hb.size (dc_far W g a0 a1 a2 a3 a4 a5 a6 a7) (fun k hk => by obtain rfl := Option.some.inj hk; exact hg)


set_option maxHeartbeats 8000000 in
set_option maxRecDepth 100000 in
theorem aimed_far (x : S79) (n : Int) (w : World) (hx : x.f7 = false) :
    Calls Try.prog 42 #[.agg #[.int .i64 x.f0, .int .i64 x.f1, .int .i64 x.f2, .int .i64 x.f3, .int .i64 x.f4, .int .i64 x.f5, .string x.f6, .bool x.f7], .int .i64 n] w fun e w' => ∃ y : S79, e = .returned (.agg (dc y).toArray) ∧ Below w.heap.size w w' := by
  go_enter Try.func42, Try.ntmps42
  go_wp2_with (first | ((with_reducible refine gate_dst (N := 2) rfl ?_); refine box_event ?hg (N := 2) ?hd (cs := #[.int .i64 x.f0, .int .i64 x.f1, .int .i64 x.f2, .int .i64 x.f3, .int .i64 x.f4, .int .i64 x.f5, .string x.f6, .bool x.f7]) (t := 79) ?hr ?_; (case hd => rfl); (case hg => rfl); (case hr => first | (go_simp; done) | (go_simp; rfl)); intro b0 hg w2 hbox hb; have K1 := Aside0.mk hbox; have HB := Aside0.mk hb; have HG1 := Aside0.mk (show w.heap.size ≤ b0 from Nat.le_of_eq hg.symm); clear hb hbox hg) | ((with_reducible refine gate_dst (N := 4) rfl ?_); refine box_event ?hg (N := 4) ?hd (cs := #[.int .i64 0, .int .i64 0, .int .i64 0, .int .i64 0, .int .i64 0, .int .i64 0, .string (⟨#[]⟩ : ByteArray), .bool false]) (t := 79) ?hr ?_; (case hd => rfl); (case hg => rfl); (case hr => first | (go_simp; done) | (go_simp; rfl)); intro b1 hg w3 hbox hb; have K2 := Aside0.mk hbox; have K3 := Aside0.mk (blk_below K1.out hb); have HB2 := Aside0.mk (below_step HB.out hb); have HG2 := Aside0.mk (by rw [hg]; exact HB.out.size : w.heap.size ≤ b1); have HN := Aside0.mk (show b0 ≠ b1 from fun h => by have := blk_lt K1.out; omega); clear hb hbox hg; have y0 : w3.cell? ⟨b0, 0, none⟩ = some (.int .i64 x.f0) := (blk_cell K3.out 0).trans rfl; have yf0 : w3.frozen? ⟨b0, 0, none⟩ = false := blk_frozen K3.out 0; have y1 : w3.cell? ⟨b0, 1, none⟩ = some (.int .i64 x.f1) := (blk_cell K3.out 1).trans rfl; have yf1 : w3.frozen? ⟨b0, 1, none⟩ = false := blk_frozen K3.out 1; have y2 : w3.cell? ⟨b0, 2, none⟩ = some (.int .i64 x.f2) := (blk_cell K3.out 2).trans rfl; have yf2 : w3.frozen? ⟨b0, 2, none⟩ = false := blk_frozen K3.out 2; have y3 : w3.cell? ⟨b0, 3, none⟩ = some (.int .i64 x.f3) := (blk_cell K3.out 3).trans rfl; have yf3 : w3.frozen? ⟨b0, 3, none⟩ = false := blk_frozen K3.out 3; have y4 : w3.cell? ⟨b0, 4, none⟩ = some (.int .i64 x.f4) := (blk_cell K3.out 4).trans rfl; have yf4 : w3.frozen? ⟨b0, 4, none⟩ = false := blk_frozen K3.out 4; have y5 : w3.cell? ⟨b0, 5, none⟩ = some (.int .i64 x.f5) := (blk_cell K3.out 5).trans rfl; have yf5 : w3.frozen? ⟨b0, 5, none⟩ = false := blk_frozen K3.out 5; have y6 : w3.cell? ⟨b0, 6, none⟩ = some (.string x.f6) := (blk_cell K3.out 6).trans rfl; have yf6 : w3.frozen? ⟨b0, 6, none⟩ = false := blk_frozen K3.out 6; have y7 : w3.cell? ⟨b0, 7, none⟩ = some (.bool x.f7) := (blk_cell K3.out 7).trans rfl; have yf7 : w3.frozen? ⟨b0, 7, none⟩ = false := blk_frozen K3.out 7; have z0 : w3.cell? ⟨b1, 0, none⟩ = some (.int .i64 0) := (blk_cell K2.out 0).trans rfl; have zf0 : w3.frozen? ⟨b1, 0, none⟩ = false := blk_frozen K2.out 0; have z1 : w3.cell? ⟨b1, 1, none⟩ = some (.int .i64 0) := (blk_cell K2.out 1).trans rfl; have zf1 : w3.frozen? ⟨b1, 1, none⟩ = false := blk_frozen K2.out 1; have z2 : w3.cell? ⟨b1, 2, none⟩ = some (.int .i64 0) := (blk_cell K2.out 2).trans rfl; have zf2 : w3.frozen? ⟨b1, 2, none⟩ = false := blk_frozen K2.out 2; have z3 : w3.cell? ⟨b1, 3, none⟩ = some (.int .i64 0) := (blk_cell K2.out 3).trans rfl; have zf3 : w3.frozen? ⟨b1, 3, none⟩ = false := blk_frozen K2.out 3; have z4 : w3.cell? ⟨b1, 4, none⟩ = some (.int .i64 0) := (blk_cell K2.out 4).trans rfl; have zf4 : w3.frozen? ⟨b1, 4, none⟩ = false := blk_frozen K2.out 4; have z5 : w3.cell? ⟨b1, 5, none⟩ = some (.int .i64 0) := (blk_cell K2.out 5).trans rfl; have zf5 : w3.frozen? ⟨b1, 5, none⟩ = false := blk_frozen K2.out 5; have z6 : w3.cell? ⟨b1, 6, none⟩ = some (.string (⟨#[]⟩ : ByteArray)) := (blk_cell K2.out 6).trans rfl; have zf6 : w3.frozen? ⟨b1, 6, none⟩ = false := blk_frozen K2.out 6; have z7 : w3.cell? ⟨b1, 7, none⟩ = some (.bool false) := (blk_cell K2.out 7).trans rfl; have zf7 : w3.frozen? ⟨b1, 7, none⟩ = false := blk_frozen K2.out 7))
  exact bodyPost_ret (v := .agg (dc x).toArray) (by simp [results, Try.results42, go_sem, dc, *]) rfl ⟨x, rfl, below_dc HB2.out HG2.out _ _ _ _ _ _ _ _⟩

set_option maxHeartbeats 8000000 in
set_option maxRecDepth 100000 in
theorem aimed_near (x : S79) (n : Int) (w : World) (hx : x.f7 = true) :
    Calls Try.prog 42 #[.agg #[.int .i64 x.f0, .int .i64 x.f1, .int .i64 x.f2, .int .i64 x.f3, .int .i64 x.f4, .int .i64 x.f5, .string x.f6, .bool x.f7], .int .i64 n] w fun e w' => ∃ y : S79, e = .returned (.agg (dc y).toArray) ∧ Below w.heap.size w w' := by
  go_enter Try.func42, Try.ntmps42
  go_wp2_with (first | ((with_reducible refine gate_dst (N := 2) rfl ?_); refine box_event ?hg (N := 2) ?hd (cs := #[.int .i64 x.f0, .int .i64 x.f1, .int .i64 x.f2, .int .i64 x.f3, .int .i64 x.f4, .int .i64 x.f5, .string x.f6, .bool x.f7]) (t := 79) ?hr ?_; (case hd => rfl); (case hg => rfl); (case hr => first | (go_simp; done) | (go_simp; rfl)); intro b0 hg w2 hbox hb; have K1 := Aside0.mk hbox; have HB := Aside0.mk hb; have HG1 := Aside0.mk (show w.heap.size ≤ b0 from Nat.le_of_eq hg.symm); clear hb hbox hg) | ((with_reducible refine gate_dst (N := 4) rfl ?_); refine box_event ?hg (N := 4) ?hd (cs := #[.int .i64 0, .int .i64 0, .int .i64 0, .int .i64 0, .int .i64 0, .int .i64 0, .string (⟨#[]⟩ : ByteArray), .bool false]) (t := 79) ?hr ?_; (case hd => rfl); (case hg => rfl); (case hr => first | (go_simp; done) | (go_simp; rfl)); intro b1 hg w3 hbox hb; have K2 := Aside0.mk hbox; have K3 := Aside0.mk (blk_below K1.out hb); have HB2 := Aside0.mk (below_step HB.out hb); have HG2 := Aside0.mk (by rw [hg]; exact HB.out.size : w.heap.size ≤ b1); have HN := Aside0.mk (show b0 ≠ b1 from fun h => by have := blk_lt K1.out; omega); clear hb hbox hg; have y0 : w3.cell? ⟨b0, 0, none⟩ = some (.int .i64 x.f0) := (blk_cell K3.out 0).trans rfl; have yf0 : w3.frozen? ⟨b0, 0, none⟩ = false := blk_frozen K3.out 0; have y1 : w3.cell? ⟨b0, 1, none⟩ = some (.int .i64 x.f1) := (blk_cell K3.out 1).trans rfl; have yf1 : w3.frozen? ⟨b0, 1, none⟩ = false := blk_frozen K3.out 1; have y2 : w3.cell? ⟨b0, 2, none⟩ = some (.int .i64 x.f2) := (blk_cell K3.out 2).trans rfl; have yf2 : w3.frozen? ⟨b0, 2, none⟩ = false := blk_frozen K3.out 2; have y3 : w3.cell? ⟨b0, 3, none⟩ = some (.int .i64 x.f3) := (blk_cell K3.out 3).trans rfl; have yf3 : w3.frozen? ⟨b0, 3, none⟩ = false := blk_frozen K3.out 3; have y4 : w3.cell? ⟨b0, 4, none⟩ = some (.int .i64 x.f4) := (blk_cell K3.out 4).trans rfl; have yf4 : w3.frozen? ⟨b0, 4, none⟩ = false := blk_frozen K3.out 4; have y5 : w3.cell? ⟨b0, 5, none⟩ = some (.int .i64 x.f5) := (blk_cell K3.out 5).trans rfl; have yf5 : w3.frozen? ⟨b0, 5, none⟩ = false := blk_frozen K3.out 5; have y6 : w3.cell? ⟨b0, 6, none⟩ = some (.string x.f6) := (blk_cell K3.out 6).trans rfl; have yf6 : w3.frozen? ⟨b0, 6, none⟩ = false := blk_frozen K3.out 6; have y7 : w3.cell? ⟨b0, 7, none⟩ = some (.bool x.f7) := (blk_cell K3.out 7).trans rfl; have yf7 : w3.frozen? ⟨b0, 7, none⟩ = false := blk_frozen K3.out 7; have z0 : w3.cell? ⟨b1, 0, none⟩ = some (.int .i64 0) := (blk_cell K2.out 0).trans rfl; have zf0 : w3.frozen? ⟨b1, 0, none⟩ = false := blk_frozen K2.out 0; have z1 : w3.cell? ⟨b1, 1, none⟩ = some (.int .i64 0) := (blk_cell K2.out 1).trans rfl; have zf1 : w3.frozen? ⟨b1, 1, none⟩ = false := blk_frozen K2.out 1; have z2 : w3.cell? ⟨b1, 2, none⟩ = some (.int .i64 0) := (blk_cell K2.out 2).trans rfl; have zf2 : w3.frozen? ⟨b1, 2, none⟩ = false := blk_frozen K2.out 2; have z3 : w3.cell? ⟨b1, 3, none⟩ = some (.int .i64 0) := (blk_cell K2.out 3).trans rfl; have zf3 : w3.frozen? ⟨b1, 3, none⟩ = false := blk_frozen K2.out 3; have z4 : w3.cell? ⟨b1, 4, none⟩ = some (.int .i64 0) := (blk_cell K2.out 4).trans rfl; have zf4 : w3.frozen? ⟨b1, 4, none⟩ = false := blk_frozen K2.out 4; have z5 : w3.cell? ⟨b1, 5, none⟩ = some (.int .i64 0) := (blk_cell K2.out 5).trans rfl; have zf5 : w3.frozen? ⟨b1, 5, none⟩ = false := blk_frozen K2.out 5; have z6 : w3.cell? ⟨b1, 6, none⟩ = some (.string (⟨#[]⟩ : ByteArray)) := (blk_cell K2.out 6).trans rfl; have zf6 : w3.frozen? ⟨b1, 6, none⟩ = false := blk_frozen K2.out 6; have z7 : w3.cell? ⟨b1, 7, none⟩ = some (.bool false) := (blk_cell K2.out 7).trans rfl; have zf7 : w3.frozen? ⟨b1, 7, none⟩ = false := blk_frozen K2.out 7))
  refine (place_calls x.f2 n _).mono ?_
  rintro e w4 ⟨r1, rfl, ⟨d1, rfl⟩⟩
  have HB3 := Aside0.mk (pw_below_drewN HB2.out d1)
  have K3a := Aside0.mk (blk_drewN K3.out d1)
  have K2a := Aside0.mk (blk_drewN K2.out d1)
  clear y0 yf0 y1 yf1 y2 yf2 y3 yf3 y4 yf4 y5 yf5 y6 yf6 y7 yf7
  clear z0 zf0 z1 zf1 z2 zf2 z3 zf3 z4 zf4 z5 zf5 z6 zf6 z7 zf7
  clear HB2 K3 K2 K1 HB
  generalize w3.drewN d1 = w3d at *
  have y0 : w3d.cell? ⟨b0, 0, none⟩ = some (.int .i64 x.f0) := (blk_cell K3a.out 0).trans rfl; have yf0 : w3d.frozen? ⟨b0, 0, none⟩ = false := blk_frozen K3a.out 0; have y1 : w3d.cell? ⟨b0, 1, none⟩ = some (.int .i64 x.f1) := (blk_cell K3a.out 1).trans rfl; have yf1 : w3d.frozen? ⟨b0, 1, none⟩ = false := blk_frozen K3a.out 1; have y2 : w3d.cell? ⟨b0, 2, none⟩ = some (.int .i64 x.f2) := (blk_cell K3a.out 2).trans rfl; have yf2 : w3d.frozen? ⟨b0, 2, none⟩ = false := blk_frozen K3a.out 2; have y3 : w3d.cell? ⟨b0, 3, none⟩ = some (.int .i64 x.f3) := (blk_cell K3a.out 3).trans rfl; have yf3 : w3d.frozen? ⟨b0, 3, none⟩ = false := blk_frozen K3a.out 3; have y4 : w3d.cell? ⟨b0, 4, none⟩ = some (.int .i64 x.f4) := (blk_cell K3a.out 4).trans rfl; have yf4 : w3d.frozen? ⟨b0, 4, none⟩ = false := blk_frozen K3a.out 4; have y5 : w3d.cell? ⟨b0, 5, none⟩ = some (.int .i64 x.f5) := (blk_cell K3a.out 5).trans rfl; have yf5 : w3d.frozen? ⟨b0, 5, none⟩ = false := blk_frozen K3a.out 5; have y6 : w3d.cell? ⟨b0, 6, none⟩ = some (.string x.f6) := (blk_cell K3a.out 6).trans rfl; have yf6 : w3d.frozen? ⟨b0, 6, none⟩ = false := blk_frozen K3a.out 6; have y7 : w3d.cell? ⟨b0, 7, none⟩ = some (.bool x.f7) := (blk_cell K3a.out 7).trans rfl; have yf7 : w3d.frozen? ⟨b0, 7, none⟩ = false := blk_frozen K3a.out 7
  have z0 : w3d.cell? ⟨b1, 0, none⟩ = some (.int .i64 0) := (blk_cell K2a.out 0).trans rfl; have zf0 : w3d.frozen? ⟨b1, 0, none⟩ = false := blk_frozen K2a.out 0; have z1 : w3d.cell? ⟨b1, 1, none⟩ = some (.int .i64 0) := (blk_cell K2a.out 1).trans rfl; have zf1 : w3d.frozen? ⟨b1, 1, none⟩ = false := blk_frozen K2a.out 1; have z2 : w3d.cell? ⟨b1, 2, none⟩ = some (.int .i64 0) := (blk_cell K2a.out 2).trans rfl; have zf2 : w3d.frozen? ⟨b1, 2, none⟩ = false := blk_frozen K2a.out 2; have z3 : w3d.cell? ⟨b1, 3, none⟩ = some (.int .i64 0) := (blk_cell K2a.out 3).trans rfl; have zf3 : w3d.frozen? ⟨b1, 3, none⟩ = false := blk_frozen K2a.out 3; have z4 : w3d.cell? ⟨b1, 4, none⟩ = some (.int .i64 0) := (blk_cell K2a.out 4).trans rfl; have zf4 : w3d.frozen? ⟨b1, 4, none⟩ = false := blk_frozen K2a.out 4; have z5 : w3d.cell? ⟨b1, 5, none⟩ = some (.int .i64 0) := (blk_cell K2a.out 5).trans rfl; have zf5 : w3d.frozen? ⟨b1, 5, none⟩ = false := blk_frozen K2a.out 5; have z6 : w3d.cell? ⟨b1, 6, none⟩ = some (.string (⟨#[]⟩ : ByteArray)) := (blk_cell K2a.out 6).trans rfl; have zf6 : w3d.frozen? ⟨b1, 6, none⟩ = false := blk_frozen K2a.out 6; have z7 : w3d.cell? ⟨b1, 7, none⟩ = some (.bool false) := (blk_cell K2a.out 7).trans rfl; have zf7 : w3d.frozen? ⟨b1, 7, none⟩ = false := blk_frozen K2a.out 7
  go_wp2_with fail
  refine (place_calls x.f3 n _).mono ?_
  rintro e w5 ⟨r2, rfl, ⟨d2, rfl⟩⟩
  have HB5 := Aside0.mk (pw_below_drewN (below_set (j := 2) (v := .int .i64 r1) HB3.out HG1.out) d2)
  have K3b := Aside0.mk (blk_drewN (blk_put K3a.out 2 (.int .i64 r1) (cs' := #[.int .i64 x.f0, .int .i64 x.f1, .int .i64 r1, .int .i64 x.f3, .int .i64 x.f4, .int .i64 x.f5, .string x.f6, .bool x.f7]) rfl) d2)
  have K2b := Aside0.mk (blk_drewN (blk_far K2a.out (p := ⟨b0, 2, none⟩) (Ne.symm HN.out) (.int .i64 r1)) d2)
  clear y0 yf0 y1 yf1 y2 yf2 y3 yf3 y4 yf4 y5 yf5 y6 yf6 y7 yf7
  clear z0 zf0 z1 zf1 z2 zf2 z3 zf3 z4 zf4 z5 zf5 z6 zf6 z7 zf7
  clear HB3 K3a K2a
  generalize (w3d.setCell ⟨b0, 2, none⟩ (.int .i64 r1)).drewN d2 = w4d at *
  have y0 : w4d.cell? ⟨b0, 0, none⟩ = some (.int .i64 x.f0) := (blk_cell K3b.out 0).trans rfl; have yf0 : w4d.frozen? ⟨b0, 0, none⟩ = false := blk_frozen K3b.out 0; have y1 : w4d.cell? ⟨b0, 1, none⟩ = some (.int .i64 x.f1) := (blk_cell K3b.out 1).trans rfl; have yf1 : w4d.frozen? ⟨b0, 1, none⟩ = false := blk_frozen K3b.out 1; have y2 : w4d.cell? ⟨b0, 2, none⟩ = some (.int .i64 r1) := (blk_cell K3b.out 2).trans rfl; have yf2 : w4d.frozen? ⟨b0, 2, none⟩ = false := blk_frozen K3b.out 2; have y3 : w4d.cell? ⟨b0, 3, none⟩ = some (.int .i64 x.f3) := (blk_cell K3b.out 3).trans rfl; have yf3 : w4d.frozen? ⟨b0, 3, none⟩ = false := blk_frozen K3b.out 3; have y4 : w4d.cell? ⟨b0, 4, none⟩ = some (.int .i64 x.f4) := (blk_cell K3b.out 4).trans rfl; have yf4 : w4d.frozen? ⟨b0, 4, none⟩ = false := blk_frozen K3b.out 4; have y5 : w4d.cell? ⟨b0, 5, none⟩ = some (.int .i64 x.f5) := (blk_cell K3b.out 5).trans rfl; have yf5 : w4d.frozen? ⟨b0, 5, none⟩ = false := blk_frozen K3b.out 5; have y6 : w4d.cell? ⟨b0, 6, none⟩ = some (.string x.f6) := (blk_cell K3b.out 6).trans rfl; have yf6 : w4d.frozen? ⟨b0, 6, none⟩ = false := blk_frozen K3b.out 6; have y7 : w4d.cell? ⟨b0, 7, none⟩ = some (.bool x.f7) := (blk_cell K3b.out 7).trans rfl; have yf7 : w4d.frozen? ⟨b0, 7, none⟩ = false := blk_frozen K3b.out 7
  have z0 : w4d.cell? ⟨b1, 0, none⟩ = some (.int .i64 0) := (blk_cell K2b.out 0).trans rfl; have zf0 : w4d.frozen? ⟨b1, 0, none⟩ = false := blk_frozen K2b.out 0; have z1 : w4d.cell? ⟨b1, 1, none⟩ = some (.int .i64 0) := (blk_cell K2b.out 1).trans rfl; have zf1 : w4d.frozen? ⟨b1, 1, none⟩ = false := blk_frozen K2b.out 1; have z2 : w4d.cell? ⟨b1, 2, none⟩ = some (.int .i64 0) := (blk_cell K2b.out 2).trans rfl; have zf2 : w4d.frozen? ⟨b1, 2, none⟩ = false := blk_frozen K2b.out 2; have z3 : w4d.cell? ⟨b1, 3, none⟩ = some (.int .i64 0) := (blk_cell K2b.out 3).trans rfl; have zf3 : w4d.frozen? ⟨b1, 3, none⟩ = false := blk_frozen K2b.out 3; have z4 : w4d.cell? ⟨b1, 4, none⟩ = some (.int .i64 0) := (blk_cell K2b.out 4).trans rfl; have zf4 : w4d.frozen? ⟨b1, 4, none⟩ = false := blk_frozen K2b.out 4; have z5 : w4d.cell? ⟨b1, 5, none⟩ = some (.int .i64 0) := (blk_cell K2b.out 5).trans rfl; have zf5 : w4d.frozen? ⟨b1, 5, none⟩ = false := blk_frozen K2b.out 5; have z6 : w4d.cell? ⟨b1, 6, none⟩ = some (.string (⟨#[]⟩ : ByteArray)) := (blk_cell K2b.out 6).trans rfl; have zf6 : w4d.frozen? ⟨b1, 6, none⟩ = false := blk_frozen K2b.out 6; have z7 : w4d.cell? ⟨b1, 7, none⟩ = some (.bool false) := (blk_cell K2b.out 7).trans rfl; have zf7 : w4d.frozen? ⟨b1, 7, none⟩ = false := blk_frozen K2b.out 7
  have hn1 := HN.out
  have hn2 := Ne.symm HN.out
  go_wp2_with fail
  exact bodyPost_ret (v := .agg (dc ⟨x.f0, x.f1, r1, r2, x.f4, Go.bits .and .i64 x.f5 63, x.f6, x.f7⟩).toArray) (by simp [results, Try.results42, go_sem, dc, *]) rfl ⟨_, rfl, below_dc (below_set (below_set HB5.out HG1.out) HG1.out) HG2.out _ _ _ _ _ _ _ _⟩

theorem aimed_calls (x : S79) (n : Int) (w : World) :
    Calls Try.prog 42 #[.agg #[.int .i64 x.f0, .int .i64 x.f1, .int .i64 x.f2, .int .i64 x.f3, .int .i64 x.f4, .int .i64 x.f5, .string x.f6, .bool x.f7], .int .i64 n] w fun e w' => ∃ y : S79, e = .returned (.agg (dc y).toArray) ∧ Below w.heap.size w w' := by
  cases hx : x.f7 with
  | false => rw [← hx]; exact aimed_far x n w hx
  | true => rw [← hx]; exact aimed_near x n w hx
end Go.Proofs.Ytmpmcffhlnlejaa.MemEq
