/- The walk of the law MemNone: a memory that is none. -/
import Derived.Test.YtmpmcffhlnlejaaMemAwk
namespace Go.Proofs.Ytmpmcffhlnlejaa.MemEq
open Go.RowKit Go.Proofs.YtmpmcffhlnlejaaW.PrintWords Go.Proofs.YtmpmcffhlnlejaaW.PrintLast Go.Proofs.YtmpmcffhlnlejaaW.PrintMore
set_option linter.unusedVariables false
set_option linter.unusedSimpArgs false

theorem fits_none {at_ : Int} {n : Nat} (hn : n ≠ 0) : fits 0 at_ (n : Int) = false := decide_eq_false (by omega)

theorem load_none (op at_ : Int) (w : World) (hw1 : at_ ≤ 9223372036854775807) (hw0 : -9223372036854775808 ≤ at_) :
    Calls Try.prog 35 #[.pointer none, .int .i64 op, .int .i64 at_] w fun e w' => e = .returned (.tuple #[.int .i64 0, .int .i64 4]) ∧ Drawn0 w w' := by
  have HW := Aside0.mk (fun w => width_calls op w)
  generalize (widthF op) = W at *
  obtain ⟨n, t, st⟩ := W
  go_enter Try.func35, Try.ntmps35
  go_wp2_with fail
  refine (HW.out w).mono ?_
  rintro e w1 ⟨rfl, ⟨d1, rfl⟩⟩
  by_cases hn : n = 0
  · subst hn
    by_cases ha : at_ = 0
    · subst ha
      go_wp2_with fail
      refine part_none0.mono ?_
      rintro e w1 ⟨rfl, rfl⟩
      go_wp2_with fail
      all_goals exact bodyPost_ret (v := .tuple #[.int .i64 0, .int .i64 4]) (by simp [results, Try.results35, go_sem, *]) rfl ⟨rfl, ⟨⟨d1, rfl⟩⟩⟩
    · go_wp2_with fail
      refine (part_none hw1 hw0 (decide_eq_false (by omega))).mono ?_
      rintro e w1 ⟨rfl, rfl⟩
      go_wp2_with fail
      all_goals exact bodyPost_ret (v := .tuple #[.int .i64 0, .int .i64 4]) (by simp [results, Try.results35, go_sem, *]) rfl ⟨rfl, ⟨⟨d1, rfl⟩⟩⟩
  · have hf := fits_none (at_ := at_) hn
    have hn' : ((n : Int) == 0) = false := beq_eq_false_iff_ne.mpr (by omega)
    go_wp2_with fail
    refine (part_none hw1 hw0 hf).mono ?_
    rintro e w1 ⟨rfl, rfl⟩
    go_wp2_with fail
    all_goals exact bodyPost_ret (v := .tuple #[.int .i64 0, .int .i64 4]) (by simp [results, Try.results35, go_sem, *]) rfl ⟨rfl, ⟨⟨d1, rfl⟩⟩⟩

theorem width_st {op : Int} (h : (widthF op).2.2 = true) : (widthF op).1 ≠ 0 := by
  have key : ∀ {c : Prop} [Decidable c] {a b : Nat × Int × Bool}, (a.2.2 = true → a.1 ≠ 0) → (b.2.2 = true → b.1 ≠ 0) → ((if c then a else b).2.2 = true → (if c then a else b).1 ≠ 0) := by
    intro c _ a b h1 h2
    by_cases h : c
    · rw [if_pos h]; exact h1
    · rw [if_neg h]; exact h2
  revert h
  unfold widthF
  repeat (refine key (by decide) ?_)
  decide

theorem store_none (op at_ v : Int) (w : World) (hw1 : at_ ≤ 9223372036854775807) (hw0 : -9223372036854775808 ≤ at_) :
    Calls Try.prog 34 #[.pointer none, .int .i64 op, .int .i64 at_, .int .i64 v] w fun e w' => e = .returned (.int .i64 4) ∧ Drawn0 w w' := by
  have HW := Aside0.mk (fun w => width_calls op w)
  have HS := Aside0.mk (@width_st op)
  generalize (widthF op) = W at *
  obtain ⟨n, t, st⟩ := W
  go_enter Try.func34, Try.ntmps34
  go_wp2_with fail
  refine (HW.out w).mono ?_
  rintro e w1 ⟨rfl, ⟨d1, rfl⟩⟩
  by_cases hn : n = 0
  · subst hn
    obtain rfl : st = false := by
      cases st with
      | false => rfl
      | true => exact absurd rfl (HS.out rfl)
    clear HS
    by_cases ha : at_ = 0
    · subst ha
      go_wp2_with fail
      refine part_none0.mono ?_
      rintro e w1 ⟨rfl, rfl⟩
      go_wp2_with fail
      all_goals (go_ret; exact ⟨rfl, ⟨⟨d1, rfl⟩⟩⟩)
    · go_wp2_with fail
      refine (part_none hw1 hw0 (decide_eq_false (by omega))).mono ?_
      rintro e w1 ⟨rfl, rfl⟩
      go_wp2_with fail
      all_goals (go_ret; exact ⟨rfl, ⟨⟨d1, rfl⟩⟩⟩)
  · have hf := fits_none (at_ := at_) hn
    clear HS
    go_wp2_with fail
    refine (part_none hw1 hw0 hf).mono ?_
    rintro e w1 ⟨rfl, rfl⟩
    go_wp2_with fail
    all_goals (go_ret; exact ⟨rfl, ⟨⟨d1, rfl⟩⟩⟩)

theorem conv_none (w : World) : (convert 81 9 (.slice none 0 0)).run Try.prog w = .ok (.string ByteArray.empty) w := run_convert_bytes_nil w 81 5 Try.underlying81 Try.underlying5 0 0 9 Try.underlying9

theorem read_none0 (w : World) :
    Calls Try.prog 33 #[.pointer none, .int .i64 0, .int .i64 0] w fun e w' => e = .returned (.tuple #[.string ⟨#[]⟩, .int .i64 0]) ∧ w' = w := by
  have hc := conv_none
  go_enter Try.func33, Try.ntmps33
  go_wp2_with fail
  refine part_none0.mono ?_
  rintro e w1 ⟨rfl, rfl⟩
  go_wp2_with fail
  exact bodyPost_ret (v := .tuple #[.string ⟨#[]⟩, .int .i64 0]) (by simp [results, Try.results33, go_sem, *] <;> rfl) rfl ⟨rfl, rfl⟩
theorem read_none1 (at_ : Int) (w : World) (hw1 : at_ ≤ 9223372036854775807) (hw0 : -9223372036854775808 ≤ at_) :
    Calls Try.prog 33 #[.pointer none, .int .i64 at_, .int .i64 1] w fun e w' => e = .returned (.tuple #[.string ⟨#[]⟩, .int .i64 4]) ∧ w' = w := by
  go_enter Try.func33, Try.ntmps33
  go_wp2_with fail
  refine (part_none hw1 hw0 (decide_eq_false (by omega))).mono ?_
  rintro e w1 ⟨rfl, rfl⟩
  go_wp2_with fail
  exact bodyPost_ret (v := .tuple #[.string ⟨#[]⟩, .int .i64 4]) (by simp [results, Try.results33, go_sem, *]) rfl ⟨rfl, rfl⟩
theorem grow_none (v : Int) (w : World) :
    Calls Try.prog 47 #[.pointer none, .int .i64 v] w fun e w' => e = .returned (.int .i64 (-1)) ∧ w' = w := by
  go_enter Try.func47, Try.ntmps47
  go_wp2_with fail
  refine pages_none.mono ?_
  rintro e w1 ⟨rfl, rfl⟩
  go_wp2_with fail
  go_ret
  exact ⟨rfl, rfl⟩
theorem write_none (at_ : Int) (w : World) (hw1 : at_ ≤ 9223372036854775807) (hw0 : -9223372036854775808 ≤ at_) :
    Calls Try.prog 48 #[.pointer none, .int .i64 at_, .string ⟨#[120]⟩] w fun e w' => e = .returned (.int .i64 4) ∧ w' = w := by
  go_enter Try.func48, Try.ntmps48
  go_wp2_with fail
  refine (part_none hw1 hw0 (decide_eq_false (by omega))).mono ?_
  rintro e w1 ⟨rfl, rfl⟩
  go_wp2_with fail
  go_ret
  exact ⟨rfl, rfl⟩
theorem fill_none (at_ v : Int) (w : World) (hw1 : at_ ≤ 9223372036854775807) (hw0 : -9223372036854775808 ≤ at_) :
    Calls Try.prog 49 #[.pointer none, .int .i64 at_, .int .i64 v, .int .i64 1] w fun e w' => e = .returned (.int .i64 4) ∧ w' = w := by
  go_enter Try.func49, Try.ntmps49
  go_wp2_with fail
  refine (part_none hw1 hw0 (decide_eq_false (by omega))).mono ?_
  rintro e w1 ⟨rfl, rfl⟩
  go_wp2_with fail
  go_ret
  exact ⟨rfl, rfl⟩
theorem info5s : (Try.prog.info? 5).map (·.size) = some 1 := by kernel_rfl
theorem copy_none (w : World) :
    Calls Try.prog 36 #[.pointer none, .int .i64 0, .pointer none, .int .i64 0, .int .i64 0] w fun e w' => e = .returned (.int .i64 0) ∧ w' = w := by
  go_enter Try.func36, Try.ntmps36
  go_wp2_with fail
  refine part_none0.mono ?_
  rintro e w1 ⟨rfl, rfl⟩
  go_wp2_with fail
  refine part_none0.mono ?_
  rintro e w1 ⟨rfl, rfl⟩
  go_wp2_with (with_reducible refine wpList_copy_nothing rfl (.tmp 35) (.tmp 36) 81 81 rfl 5 Try.underlying81 info5s none none 0 0 0 0 rfl rfl rfl ?_)
  go_ret
  exact ⟨rfl, rfl⟩
theorem clone_none (w : World) :
    Calls Try.prog 44 #[.pointer none] w fun e w' => e = .returned (.pointer none) ∧ w' = w := by
  go_enter Try.func44, Try.ntmps44
  go_wp2_with fail
  go_ret
  exact ⟨rfl, rfl⟩

set_option maxHeartbeats 4000000 in
theorem law_none (op at_ v : Int) (W : World) (wop : -9223372036854775808 ≤ op ∧ op ≤ 9223372036854775807) (wat : -9223372036854775808 ≤ at_ ∧ at_ ≤ 9223372036854775807) (wv : -9223372036854775808 ≤ v ∧ v ≤ 9223372036854775807) :
    Calls Try.prog 14 #[.int .i64 op, .int .i64 at_, .int .i64 v] W fun e w' => e = .returned (.bool true) ∧ Below W.heap.size W w' := by
  go_enter Try.func14, Try.ntmps14
  go_wp2_with fail
  refine (load_none op at_ _ wat.2 wat.1).mono ?_
  rintro e w1 ⟨rfl, ⟨d1, rfl⟩⟩
  go_wp2_with fail
  refine (read_none0 _).mono ?_
  rintro e w2 ⟨rfl, rfl⟩
  go_wp2_with fail
  refine (read_none1 at_ _ wat.2 wat.1).mono ?_
  rintro e w2 ⟨rfl, rfl⟩
  go_wp2_with fail
  refine pages_none.mono ?_
  rintro e w2 ⟨rfl, rfl⟩
  go_wp2_with fail
  refine most_none.mono ?_
  rintro e w2 ⟨rfl, rfl⟩
  go_wp2_with fail
  refine (grow_none v _).mono ?_
  rintro e w2 ⟨rfl, rfl⟩
  go_wp2_with fail
  refine (store_none op at_ v _ wat.2 wat.1).mono ?_
  rintro e w1 ⟨rfl, ⟨d2, rfl⟩⟩
  go_wp2_with fail
  refine (write_none at_ _ wat.2 wat.1).mono ?_
  rintro e w2 ⟨rfl, rfl⟩
  go_wp2_with fail
  refine (fill_none at_ v _ wat.2 wat.1).mono ?_
  rintro e w2 ⟨rfl, rfl⟩
  go_wp2_with fail
  refine (copy_none _).mono ?_
  rintro e w2 ⟨rfl, rfl⟩
  go_wp2_with fail
  refine (clone_none _).mono ?_
  rintro e w2 ⟨rfl, rfl⟩
  go_wp2_with fail
  refine (awake_calls _).mono ?_
  rintro e w3 ⟨rfl, hb⟩
  have HB := Aside0.mk (below_step (pw_below_drewN (Below.refl W.heap.size W) (d1 + d2)) hb)
  clear hb
  go_wp2_with fail
  go_ret
  exact ⟨rfl, HB.out⟩
end Go.Proofs.Ytmpmcffhlnlejaa.MemEq
