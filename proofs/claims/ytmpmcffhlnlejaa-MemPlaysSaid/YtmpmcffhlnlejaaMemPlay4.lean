/- (*mem.Mem).Clone. -/
import Derived.Test.YtmpmcffhlnlejaaMemPlay3
namespace Go.Proofs.Ytmpmcffhlnlejaa.MemEq
open Go.RowKit Go.Proofs.YtmpmcffhlnlejaaW.PrintWords Go.Proofs.YtmpmcffhlnlejaaW.PrintLast Go.Proofs.YtmpmcffhlnlejaaW.PrintMore
open Go.Proofs.Ytmpmcffhlnlejaa.PMemBack
set_option linter.unusedVariables false
set_option linter.unusedSimpArgs false

theorem run_clone_some (w : World) (g cap : Nat) (S : List UInt8) (h0 : 0 < S.length) (hs : S.length ≤ 1048576) (hc : ∀ j v, (bz S)[j]? = some v → w.cell? ((⟨g, 0, none⟩ : Addr).add j) = some v) (ty : TypeId) :
    (Builtin.append_ #[81, 81] ty #[.slice none 0 0, .slice (some ⟨g, 0, none⟩) S.length cap]).run Try.prog w =
      .ok (.slice (some ⟨w.heap.size, 0, none⟩) S.length (grownCap w S.length 0 5)) (w.drew.alloc (.cells (bz S ++ List.replicate (grownCap w S.length 0 5 - S.length) (Value.int .u8 0)).toArray 5)) := by
  obtain ⟨i, hi, hz, hsz, hby⟩ := info_parts info5'
  have h := run_append_nil (P := Try.prog) (w := w) 81 ty 5 i (.int .u8 0) Try.underlying81 hi hz ⟨g, 0, none⟩ S.length cap (bz S) (by rw [bz_length, hsz, Nat.mul_one]) hc h0 (by omega) (by rw [hby]; omega)
  rw [h]
  refine congrArg (fun c => Result.ok _ (w.drew.alloc (.cells c 5))) ?_
  rw [show (Value.int .u8 0).cells = #[Value.int .u8 0] from rfl, zeroCells_one]
  simp

theorem run_clone_none (w : World) (g cap : Nat) (ty : TypeId) :
    (Builtin.append_ #[81, 81] ty #[.slice none 0 0, .slice (some ⟨g, 0, none⟩) 0 cap]).run Try.prog w = .ok (.slice none 0 0) w := by
  obtain ⟨i, hi, hz, hsz, hby⟩ := info_parts info5'
  have hw0 : IntKind.i64.wrap 0 = 0 := IntWalk.i64_in 0 (by decide)
  simp [Builtin.append_, run_underlying Try.underlying81, sizeOf, typeInfo, zeroValue, hi, hz, hsz, hby, Builtin.lenOf, Builtin.firstCells, storeCells, loadCells, loadCellsFrom, asInt, asIntOf, hw0]

/-- An append whose run is known, at a step of a region that draws its order. -/
theorem step_append_run {w w2 : World} {ops : Array Oper} {o : Oper} {a : Act} {K : Act → World → Prop} {Q : Exit → Act → World → Prop} {E : Prop} (hgd : o.guard = none) (s x : Operand)
    (ho : o.op = .call { callee := .builtin .append, args := #[s, x], argTypes := #[81, 81] }) (v u r : Value) (hs : a.eval s = v) (hx : a.eval x = u)
    (hrun : (Builtin.append_ #[81, 81] o.type #[v, u]).run Try.prog w = .ok r w2) (h : K (a.put o.dst r) w2) :
    if Region.wanted o (yielded ops a.tmps) = true then Oper.wp Try.prog o a w K Q else E := by
  have hw : Region.wanted o (yielded ops a.tmps) = true := by simp [Region.wanted, hgd]
  rw [if_pos hw]
  unfold Oper.wp execOp
  simp only [ho, resolve, invoke, builtin, Sem.run_bind, Sem.run_pure, Result.andThen_ok, List.map_toArray, List.map_cons, List.map_nil, hs, hx, hrun]
  exact h

/-- What a clone is. -/
def Cloned (w : World) (p : Nat) (S : List UInt8) (most bound : Int) : Prop := (∃ g cap, MemAt 105 w p g cap S most bound) ∨ (S = [] ∧ NoneAt w p most bound)
theorem Cloned.reads {w : World} {p : Nat} {S : List UInt8} {most bound : Int} (h : Cloned w p S most bound) (hs : S.length ≤ 1048576) : Reads w p S bound := by
  rcases h with ⟨g, cap, h⟩ | ⟨rfl, h⟩
  · exact h.reads hs
  · exact h.reads
theorem Cloned.drewN {w : World} {p : Nat} {S : List UInt8} {most bound : Int} (h : Cloned w p S most bound) (n : Nat) : Cloned (w.drewN n) p S most bound := by
  rcases h with ⟨g, cap, h⟩ | ⟨rfl, h⟩
  · exact .inl ⟨g, cap, h.drewN n⟩
  · exact .inr ⟨rfl, h⟩

set_option maxHeartbeats 4000000 in
set_option maxRecDepth 20000 in
theorem clone_calls {w : World} {p g cap : Nat} {S : List UInt8} {most bound : Int} (h : MemAt 105 w p g cap S most bound) (hs : S.length ≤ 1048576) :
    Calls Try.prog 44 #[.pointer (some ⟨p, 0, none⟩)] w fun e w' => ∃ p', e = .returned (.pointer (some ⟨p', 0, none⟩)) ∧ Cloned w' p' S most bound ∧ Below w.heap.size w w' := by
  have z0 := h.c0
  have z1 := h.c1
  have z2 := h.c2
  have HM := Aside0.mk h
  have HLT := Aside0.mk h.lt
  by_cases h0 : S.length = 0
  · have hS : S = [] := List.eq_nil_of_length_eq_zero h0
    rw [h0] at z0
    have hr := run_clone_none w.drew g cap 81
    clear h h0
    go_enter Try.func44, Try.ntmps44
    go_wp2_with fail
    go_region_held3 (fun w' => w'.cell? ⟨p, 0, none⟩ = some (.slice (some ⟨g, 0, none⟩) 0 cap) ∧ w'.cell? ⟨p, 1, none⟩ = some (.int .i64 most) ∧ w'.cell? ⟨p, 2, none⟩ = some (.int .i64 bound))
      (first
        | exact ⟨z0, z1, z2⟩
        | (refine ⟨(World.cell?_alloc_lt _ _ _ HLT.out.1).trans z0, (World.cell?_alloc_lt _ _ _ HLT.out.1).trans z1, (World.cell?_alloc_lt _ _ _ HLT.out.1).trans z2⟩)
        | go_keep)
      (fail)
    go_wp2_with fail
    go_ret
    exact ⟨_, rfl, .inr ⟨hS, blk_new w _⟩, below_drew1 (below_alloc (Below.refl _ _) _)⟩
  · have hc := getAt_cell HM.out (a := 0) (n := S.length) (by omega)
    rw [show getAt S 0 S.length = S by simp [getAt]] at hc
    obtain ⟨gg, c2, w2, cur, hr, hgg, hc2, hb2⟩ : ∃ (gg c2 : Nat) (w2 : World) (cur : List Value), (Builtin.append_ #[81, 81] 81 #[.slice none 0 0, .slice (some ⟨g, 0, none⟩) S.length cap]).run Try.prog w.drew = .ok (.slice (some ⟨gg, 0, none⟩) S.length c2) w2 ∧ w2.heap[gg]? = some (.cells (bz S ++ cur).toArray 5 (0, 0)) ∧ S.length + cur.length = c2 ∧ Below w.heap.size w w2 := by
      refine ⟨_, _, _, _, run_clone_some w.drew g cap S (by omega) hs hc 81, blk_new w.drew.drew _, ?_, below_alloc (below_drew1 (below_drew1 (Below.refl _ _))) _⟩
      have hge := grownCap_ge w.drew S.length 0 5
      simp
      omega
    have y0 : w2.cell? ⟨p, 0, none⟩ = some (.slice (some ⟨g, 0, none⟩) S.length cap) := (blk_cell (blk_below HM.out.hp hb2) 0).trans rfl
    have y1 : w2.cell? ⟨p, 1, none⟩ = some (.int .i64 most) := (blk_cell (blk_below HM.out.hp hb2) 1).trans rfl
    have y2 : w2.cell? ⟨p, 2, none⟩ = some (.int .i64 bound) := (blk_cell (blk_below HM.out.hp hb2) 2).trans rfl
    have HLT2 := Aside0.mk (show p < w2.heap.size from Nat.lt_of_lt_of_le HLT.out.1 hb2.size)
    have HGG := Aside0.mk hgg
    have HC2 := Aside0.mk hc2
    have HB2 := Aside0.mk hb2
    have HR := Aside0.mk hr
    clear h h0 hc hgg hc2 hb2 hr
    go_enter Try.func44, Try.ntmps44
    go_wp2_with fail
    go_region_held3 (fun w' => w'.cell? ⟨p, 0, none⟩ = some (.slice (some ⟨g, 0, none⟩) S.length cap) ∧ w'.cell? ⟨p, 1, none⟩ = some (.int .i64 most) ∧ w'.cell? ⟨p, 2, none⟩ = some (.int .i64 bound))
      (first
        | exact ⟨z0, z1, z2⟩
        | exact ⟨y0, y1, y2⟩
        | (refine ⟨(World.cell?_alloc_lt _ _ _ HLT2.out).trans y0, (World.cell?_alloc_lt _ _ _ HLT2.out).trans y1, (World.cell?_alloc_lt _ _ _ HLT2.out).trans y2⟩))
      (refine step_append_run (by rfl) _ _ (by rfl) _ _ _ (by rfl) (by rfl) HR.out ?_)
    go_wp2_with fail
    go_ret
    refine ⟨_, rfl, .inl ⟨gg, c2, blk_new w2 _, ⟨cur, blk_alloc HGG.out _, HC2.out⟩, ?_⟩, below_alloc HB2.out _⟩
    have := blk_lt HGG.out
    omega
end Go.Proofs.Ytmpmcffhlnlejaa.MemEq
