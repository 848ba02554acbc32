/- mem.Check, mem.New. -/
import Derived.Test.YtmpmcffhlnlejaaMemSt
namespace Go.Proofs.Ytmpmcffhlnlejaa.MemEq
open Go.RowKit Go.Proofs.YtmpmcffhlnlejaaW.PrintWords Go.Proofs.YtmpmcffhlnlejaaW.PrintLast Go.Proofs.YtmpmcffhlnlejaaW.PrintMore
open Go.Proofs.Ytmpmcffhlnlejaa.PMemBack
set_option linter.unusedVariables false
set_option linter.unusedSimpArgs false

/-- May a memory have such limits? -/
def limOk (mn mx : Int) : Bool := decide (0 ≤ mn ∧ mn ≤ 16 ∧ -1 ≤ mx ∧ mx ≤ 16 ∧ (0 ≤ mx → mn ≤ mx))
theorem check_calls (mn mx : Int) (w : World) :
    Calls Try.prog 39 #[.agg #[.int .i64 mn, .int .i64 mx]] w fun e w' => e = .returned (.int .i64 (if limOk mn mx then 0 else 8)) ∧ Below w.heap.size w w' := by
  refine mem_Check.calls mn mx _ w ?_
  unfold mem_Check.f limOk
  by_cases h1 : mn < 0
  · rw [if_pos h1, if_neg (by simp; omega)]
  · rw [if_neg h1]
    by_cases h2 : mn > 16
    · rw [if_pos h2, if_neg (by simp; omega)]
    · rw [if_neg h2]
      by_cases h3 : mx < -1
      · rw [if_pos h3, if_neg (by simp; omega)]
      · rw [if_neg h3]
        by_cases h4 : mx > 16
        · rw [if_pos h4, if_neg (by simp; omega)]
        · rw [if_neg h4]
          by_cases h5 : mx ≥ 0
          · rw [if_pos h5]
            by_cases h6 : mx < mn
            · rw [if_pos h6, if_neg (by simp; omega)]
            · rw [if_neg h6, if_pos (by simp; omega)]
          · rw [if_neg h5, if_pos (by simp; omega)]

theorem info5' : (Try.prog.info? 5).map (fun i => (i.zero, i.size, i.bytes)) = some (some (.int .u8 0), 1, 1) := by kernel_rfl

theorem new_no {mn mx : Int} {w : World} (h : limOk mn mx = false) :
    Calls Try.prog 37 #[.agg #[.int .i64 mn, .int .i64 mx]] w fun e w' => e = .returned (.tuple #[.pointer none, .int .i64 8]) ∧ Below w.heap.size w w' := by
  have hc := fun w => check_calls mn mx w
  rw [h] at hc
  have HC := Aside0.mk hc
  clear hc h
  go_enter Try.func37, Try.ntmps37
  go_wp2_with fail
  have HB := Aside0.mk (below_alloc (Below.refl w.heap.size w) (.cells #[.int .i64 mn, .int .i64 mx] 69))
  refine (HC.out _).mono ?_
  rintro e w1 ⟨rfl, hb⟩
  have HB1 := Aside0.mk (below_step HB.out hb)
  clear hb
  go_wp2_with fail
  exact bodyPost_ret (v := .tuple #[.pointer none, .int .i64 8]) (by simp [results, Try.results37, go_sem, *]) rfl ⟨rfl, HB1.out⟩

theorem bz_rep (n : Nat) : bz (List.replicate n 0) = List.replicate n (.int .u8 0) := by simp [bz]

theorem madeB (n : Nat) : madeCells #[.int .u8 0] n = (bz (List.replicate n 0) ++ []).toArray := by
  apply Array.ext'
  rw [toList_madeCells_one, bz_rep]
  simp
/-- What a new memory is. -/
theorem new_at (T : TypeId) (w1 : World) (n : Nat) (M mx : Int) :
    MemAt T (((w1.alloc (.cells (madeCells #[.int .u8 0] n) 5)).alloc (.cells #[.slice (some ⟨w1.heap.size, 0, none⟩) n n, .int .i64 M, .int .i64 mx] T)).drew) (w1.heap.size + 1) w1.heap.size n (List.replicate n 0) M mx := by
  refine ⟨?_, ⟨[], ?_, by simp⟩, by omega⟩
  · have h := blk_new (w1.alloc (.cells (madeCells #[.int .u8 0] n) 5)) (.cells #[.slice (some ⟨w1.heap.size, 0, none⟩) n n, .int .i64 M, .int .i64 mx] T)
    simp only [World.size_alloc] at h
    rw [List.length_replicate]
    exact h
  · rw [← madeB]
    exact blk_alloc (blk_new w1 _) _

theorem new_yes {mn : Nat} {mx : Int} {w : World} (h : limOk mn mx = true) :
    Calls Try.prog 37 #[.agg #[.int .i64 mn, .int .i64 mx]] w fun e w' => ∃ p g, e = .returned (.tuple #[.pointer (some ⟨p, 0, none⟩), .int .i64 0]) ∧ w.heap.size ≤ p ∧ w.heap.size ≤ g ∧
      MemAt 105 w' p g (mn * 65536) (List.replicate (mn * 65536) 0) (if mx < 0 then 16 else mx) mx ∧ Below w.heap.size w w' := by
  have hc := fun w => check_calls mn mx w
  rw [h] at hc
  have HC := Aside0.mk hc
  have hl := of_decide_eq_true h
  clear hc h
  have hmk := run_make_row' (P := Try.prog) 81 5 (.int .u8 0) 1 Try.underlying81 info5' rfl .i64 .i64 (mn * 65536) (by omega) (by omega)
  rw [Int.natCast_mul] at hmk
  have hmk' : ∀ w : World, (Instr.makeSlice 81 (.int .i64 ((mn : Int) * 65536)) (.int .i64 ((mn : Int) * 65536))).run Try.prog w = .ok (.slice (some ⟨w.heap.size, 0, none⟩) (mn * 65536) (mn * 65536)) (w.alloc (.cells (madeCells #[.int .u8 0] (mn * 65536)) 5)) := hmk
  clear hmk
  obtain ⟨M, hM⟩ : ∃ M : Int, M = if mx < 0 then 16 else mx := ⟨_, rfl⟩
  rw [← hM]
  have HM := Aside0.mk hM
  clear hM
  go_enter Try.func37, Try.ntmps37
  go_wp2_with fail
  have HB := Aside0.mk (below_alloc (Below.refl w.heap.size w) (.cells #[.int .i64 mn, .int .i64 mx] 69))
  have K0 := blk_new w (.cells #[.int .i64 mn, .int .i64 mx] 69)
  refine (HC.out _).mono ?_
  rintro e w1 ⟨rfl, hb⟩
  have z0 : w1.cell? ⟨w.heap.size, 0, none⟩ = some (.int .i64 mn) := (blk_cell (blk_below K0 hb) 0).trans rfl
  have z1 : w1.cell? ⟨w.heap.size, 1, none⟩ = some (.int .i64 mx) := (blk_cell (blk_below K0 hb) 1).trans rfl
  have HB1 := Aside0.mk (below_step HB.out hb)
  clear hb K0
  have y0 : ∀ o, (w1.alloc o).cell? ⟨w.heap.size, 0, none⟩ = some (.int .i64 mn) := fun o => (World.cell?_alloc_lt w1 o _ (World.block_lt_of_cell? w1 _ z0)).trans z0
  have y1 : ∀ o, (w1.alloc o).cell? ⟨w.heap.size, 1, none⟩ = some (.int .i64 mx) := fun o => (World.cell?_alloc_lt w1 o _ (World.block_lt_of_cell? w1 _ z1)).trans z1
  by_cases hx : mx < 0
  · obtain rfl : M = 16 := HM.out.trans (if_pos hx)
    go_wp2_with fail
    go_region
    go_wp2_with fail
    exact bodyPost_ret (v := .tuple #[.pointer (some ⟨w1.heap.size + 1, 0, none⟩), .int .i64 0]) (by simp [results, Try.results37, go_sem, *]) rfl ⟨_, _, rfl, Nat.le_succ_of_le HB1.out.size, HB1.out.size, new_at 105 w1 _ _ _, (below_alloc (below_alloc HB1.out _) _).drew⟩
  · obtain rfl : M = mx := HM.out.trans (if_neg hx)
    go_wp2_with fail
    go_region
    go_wp2_with fail
    exact bodyPost_ret (v := .tuple #[.pointer (some ⟨w1.heap.size + 1, 0, none⟩), .int .i64 0]) (by simp [results, Try.results37, go_sem, *]) rfl ⟨_, _, rfl, Nat.le_succ_of_le HB1.out.size, HB1.out.size, new_at 105 w1 _ _ _, (below_alloc (below_alloc HB1.out _) _).drew⟩
end Go.Proofs.Ytmpmcffhlnlejaa.MemEq
