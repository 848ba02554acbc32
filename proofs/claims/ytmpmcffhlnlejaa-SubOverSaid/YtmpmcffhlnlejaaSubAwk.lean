/- scarflaw14.awake returns true, and leaves all that lay in memory as it was. -/
import Derived.Test.YtmpmcffhlnlejaaSubSig
namespace Go.Proofs.Ytmpmcffhlnlejaa.SubEq
open Go.RowKit Go.Proofs.YtmpmcffhlnlejaaW.PrintWords Go.Proofs.YtmpmcffhlnlejaaW.PrintLast Go.Proofs.YtmpmcffhlnlejaaW.PrintMore
open Go.Proofs.Ytmpmcffhlnlejaa.PSubFits
set_option linter.unusedVariables false
set_option linter.unusedSimpArgs false

theorem C_nil {α : Type} (d : Kd α) (w : World) : d.C w none 0 [] := ⟨rfl, by omega, fun h => absurd h (by omega)⟩
theorem TyAt.bare (w : World) (k r : Int) : TyAt w ⟨k, [], [], r⟩ none 0 none 0 := ⟨C_nil _ _, Nat.le_refl _, C_nil _ _, Nat.le_refl _⟩

theorem awake_one : sameT [2] ⟨20, [], [], 0⟩ ⟨20, [], [], 2⟩ = true := by
  simp [sameT_eq, eqL, refOk, rd]
theorem awake_two : sameT [] ⟨20, [], [], 0⟩ ⟨20, [], [], 2⟩ = false := by
  simp [sameT_eq, eqL, refOk, rd]

theorem C_two (w : World) (o o' : Obj) : (Kd.int .i64).C (((w.alloc o).alloc o').alloc (.cells #[.int .i64 2] 3)) (some ⟨w.heap.size + 1 + 1, 0, none⟩) 1 [2] := by
  refine ⟨rfl, by omega, fun _ => ⟨_, rfl, fun j p hj => ?_⟩⟩
  match j, hj with
  | 0, hj =>
    obtain rfl : (2 : Int) = p := by simpa using hj
    refine ⟨[.int .i64 2], rfl, rfl, fun i u hi => ?_⟩
    match i, hi with
    | 0, hi =>
      obtain rfl : Value.int .i64 2 = u := by simpa using hi
      exact cell_third w o o' (.int .i64 2) 3 0

set_option maxHeartbeats 1000000 in
theorem awake_calls (w : World) : Calls Try.prog 19 #[] w fun e w' => e = .returned (.bool true) ∧ Below w.heap.size w w' := by
  have u25 := Try.underlying25
  go_enter Try.func19, Try.ntmps19
  go_wp2_with fail
  have hb1 := Aside0.mk (b3 w (.cells #[.int .i64 20, .slice none 0 0, .slice none 0 0, .int .i64 0] 25) (.cells #[.int .i64 20, .slice none 0 0, .slice none 0 0, .int .i64 2] 25) (.cells #[.int .i64 2] 3))
  refine (Same_calls (x := ⟨20, [], [], 0⟩) (y := ⟨20, [], [], 2⟩) (m := [2]) (M := some ⟨w.heap.size + 1 + 1, 0, none⟩) (cm := 1) (TyAt.bare _ _ _) (TyAt.bare _ _ _) (C_two w _ _) (Nat.le_refl _)).mono ?_
  rintro e w1 ⟨rfl, hb⟩
  rw [awake_one]
  have z0 : w1.cell? ⟨w.heap.size, 0, none⟩ = some (.int .i64 20) := (hb.cell (p := ⟨w.heap.size, 0, none⟩) (lt_b3 w _ _ _ 0 0 (by omega))).trans ((cell_b1 w _ _ _ _ 0 0).trans rfl)
  have z1 : w1.cell? ⟨w.heap.size, 1, none⟩ = some (.slice none 0 0) := (hb.cell (p := ⟨w.heap.size, 1, none⟩) (lt_b3 w _ _ _ 0 0 (by omega))).trans ((cell_b1 w _ _ _ _ 0 1).trans rfl)
  have z2 : w1.cell? ⟨w.heap.size, 2, none⟩ = some (.slice none 0 0) := (hb.cell (p := ⟨w.heap.size, 2, none⟩) (lt_b3 w _ _ _ 0 0 (by omega))).trans ((cell_b1 w _ _ _ _ 0 2).trans rfl)
  have z3 : w1.cell? ⟨w.heap.size, 3, none⟩ = some (.int .i64 0) := (hb.cell (p := ⟨w.heap.size, 3, none⟩) (lt_b3 w _ _ _ 0 0 (by omega))).trans ((cell_b1 w _ _ _ _ 0 3).trans rfl)
  have y0 : w1.cell? ⟨w.heap.size + 1, 0, none⟩ = some (.int .i64 20) := (hb.cell (p := ⟨w.heap.size + 1, 0, none⟩) (lt_b3 w _ _ _ 0 1 (by omega))).trans ((cell_b2 w _ _ _ _ 0 0).trans rfl)
  have y1 : w1.cell? ⟨w.heap.size + 1, 1, none⟩ = some (.slice none 0 0) := (hb.cell (p := ⟨w.heap.size + 1, 1, none⟩) (lt_b3 w _ _ _ 0 1 (by omega))).trans ((cell_b2 w _ _ _ _ 0 1).trans rfl)
  have y2 : w1.cell? ⟨w.heap.size + 1, 2, none⟩ = some (.slice none 0 0) := (hb.cell (p := ⟨w.heap.size + 1, 2, none⟩) (lt_b3 w _ _ _ 0 1 (by omega))).trans ((cell_b2 w _ _ _ _ 0 2).trans rfl)
  have y3 : w1.cell? ⟨w.heap.size + 1, 3, none⟩ = some (.int .i64 2) := (hb.cell (p := ⟨w.heap.size + 1, 3, none⟩) (lt_b3 w _ _ _ 0 1 (by omega))).trans ((cell_b2 w _ _ _ _ 0 3).trans rfl)
  have HB := Aside0.mk (below_step hb1.out hb)
  clear hb hb1
  go_wp2_with fail
  refine (Same_calls (x := ⟨20, [], [], 0⟩) (y := ⟨20, [], [], 2⟩) (m := []) (M := none) (cm := 0) (TyAt.bare _ _ _) (TyAt.bare _ _ _) (C_nil _ _) (Nat.le_refl _)).mono ?_
  rintro e w2 ⟨rfl, hb⟩
  rw [awake_two]
  have HB2 := Aside0.mk (below_step HB.out hb)
  clear hb HB z0 z1 z2 z3 y0 y1 y2 y3
  go_wp2_with fail
  go_ret
  exact ⟨rfl, HB2.out⟩
end Go.Proofs.Ytmpmcffhlnlejaa.SubEq
