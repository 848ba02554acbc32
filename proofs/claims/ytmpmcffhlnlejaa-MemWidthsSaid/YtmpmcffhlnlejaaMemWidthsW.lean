/- The walk of the law MemWidths: it returns true at whatever opcode. -/
import Derived.Test.YtmpmcffhlnlejaaMemAwk
import Derived.Test.YtmpmcffhlnlejaaPMemWidthsx1
namespace Go.Proofs.Ytmpmcffhlnlejaa.MemEq
open Go.RowKit Go.Proofs.YtmpmcffhlnlejaaW.PrintWords Go.Proofs.YtmpmcffhlnlejaaW.PrintLast Go.Proofs.YtmpmcffhlnlejaaW.PrintMore
set_option linter.unusedVariables false
set_option linter.unusedSimpArgs false

theorem rd_mem {l : List Int} {i : Nat} (h : i < l.length) : rd l (i : Int) = l[i] := by
  show l.getD ((i : Int)).toNat 0 = l[i]
  simp [List.getD, h]

theorem rw_l0 (op : Int) (x5 x6 x7 : List Int) (hn : ∀ y ∈ x5, y ≠ op) (hl : x5.length ≤ 100) : ∀ (d i : Nat), i + d = x5.length → PMemWidths.scarfref04_Width.l0 (d + 1) op x5 x6 x7 (i : Int) = some (0, 0, false)
  | 0, i, h => by
    simp only [PMemWidths.scarfref04_Width.l0]
    rw [if_neg (by omega)]
  | d + 1, i, h => by
    rw [PMemWidths.scarfref04_Width.l0, if_pos (by omega), if_pos (by omega), rd_mem (show i < x5.length by omega), if_neg (hn _ (List.getElem_mem _)), show wrap64 ((i : Int) + 1) = ((i + 1 : Nat) : Int) by unfold wrap64; omega]
    exact rw_l0 op x5 x6 x7 hn hl d (i + 1) (by omega)

theorem rwidth_ev (op : Int) : ∃ k, PMemWidths.scarfref04_Width.f k op = some ((((widthF op).1 : Nat) : Int), (widthF op).2.1, (widthF op).2.2) := by
  by_cases h : op = 40 ∨ op = 41 ∨ op = 44 ∨ op = 45 ∨ op = 46 ∨ op = 47 ∨ op = 48 ∨ op = 49 ∨ op = 50 ∨ op = 51 ∨ op = 52 ∨ op = 53 ∨ op = 54 ∨ op = 55 ∨ op = 58 ∨ op = 59 ∨ op = 60 ∨ op = 61 ∨ op = 62
  · rcases h with rfl | rfl | rfl | rfl | rfl | rfl | rfl | rfl | rfl | rfl | rfl | rfl | rfl | rfl | rfl | rfl | rfl | rfl | rfl <;> exact ⟨20, by kernel_rfl⟩
  · refine ⟨20, ?_⟩
    have hw : widthF op = (0, 0, false) := by
      simp only [not_or] at h
      obtain ⟨h1, h2, h3, h4, h5, h6, h7, h8, h9, h10, h11, h12, h13, h14, h15, h16, h17, h18, h19⟩ := h
      simp [widthF, *]
    rw [hw]
    refine rw_l0 op _ _ _ ?_ (by decide) 19 0 rfl
    intro y hy he
    subst he
    apply h
    simpa using hy

theorem rwidth_calls (op : Int) (w : World) :
    Calls Try.prog 28 #[.int .i64 op] w fun e w' => e = .returned (.tuple #[.int .i64 (((widthF op).1 : Nat) : Int), .int .i64 (widthF op).2.1, .bool (widthF op).2.2]) ∧ Below w.heap.size w w' := by
  obtain ⟨k, hk⟩ := rwidth_ev op
  exact PMemWidths.scarfref04_Width.calls k op _ _ _ w hk

theorem law_widths (op : Int) (W : World) : Calls Try.prog 8 #[.int .i64 op] W fun e w' => e = .returned (.bool true) ∧ Below W.heap.size W w' := by
  have HW := Aside0.mk (fun w => width_calls op w)
  have HR := Aside0.mk (fun w => rwidth_calls op w)
  generalize widthF op = x at *
  obtain ⟨n, t, st⟩ := x
  go_enter Try.func8, Try.ntmps8
  go_wp2_with fail
  refine (HW.out W).mono ?_
  rintro e w1 ⟨rfl, ⟨d1, rfl⟩⟩
  go_wp2_with fail
  refine (HR.out _).mono ?_
  rintro e w2 ⟨rfl, hb⟩
  have HB := Aside0.mk (below_step (pw_below_drewN (Below.refl _ W) d1) hb)
  clear hb
  go_wp2_with fail
  refine (awake_calls _).mono ?_
  rintro e w3 ⟨rfl, hb⟩
  have HB2 := Aside0.mk (below_step HB.out hb)
  clear hb
  go_wp2_with fail
  go_ret
  exact ⟨rfl, HB2.out⟩
end Go.Proofs.Ytmpmcffhlnlejaa.MemEq
