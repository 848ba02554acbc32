/- (*Mem).Grow: the append of zeros. -/
import Derived.Test.YtmpmcffhlnlejaaMemNew
namespace Go.Proofs.Ytmpmcffhlnlejaa.MemEq
open Go.RowKit Go.Proofs.YtmpmcffhlnlejaaW.PrintWords Go.Proofs.YtmpmcffhlnlejaaW.PrintLast Go.Proofs.YtmpmcffhlnlejaaW.PrintMore
set_option linter.unusedVariables false
set_option linter.unusedSimpArgs false

theorem zeroCells_one (n : Nat) : Builtin.zeroCells #[Value.int .u8 0] n = (List.replicate n (Value.int .u8 0)).toArray := by
  apply Array.ext
  · simp [Builtin.zeroCells]
  · intro i h1 h2
    simp [Builtin.zeroCells, Nat.mod_one]

theorem run_append_zeros (w : World) (ty : TypeId) (g sLen sCap : Nat) (S cur : List Value) (hg : w.heap[g]? = some (.cells (S ++ cur).toArray 5 (0, 0))) (hS : S.length = sLen) (hc : sLen + cur.length = sCap)
    (n : Nat) (hn : sLen + n ≤ 140737488355328) :
    ∃ g' cap' cur' w', (Builtin.append_ #[81, 3] ty #[.slice (some ⟨g, 0, none⟩) sLen sCap, .int .i64 n]).run Try.prog w = .ok (.slice (some ⟨g', 0, none⟩) (sLen + n) cap') w' ∧
      w'.heap[g']? = some (.cells (S ++ List.replicate n (Value.int .u8 0) ++ cur').toArray 5 (0, 0)) ∧ sLen + n + cur'.length = cap' ∧ w.grownBy w' (some g) ∧ (g' = g ∨ g' = w.heap.size) := by
  obtain ⟨i, hi, hz, hsz, hby⟩ := info_parts info5'
  have ht := Try.underlying81
  have hu := Try.underlying3
  have hw : IntKind.i64.wrap (n : Int) = n := IntWalk.i64_in _ (by omega)
  have hz1 : (Value.int .u8 0).cells = #[Value.int .u8 0] := rfl
  have hw0 : IntKind.i64.wrap 0 = 0 := IntWalk.i64_in 0 (by decide)
  subst hS
  by_cases hroom : S.length + n ≤ sCap
  · have hst := run_storeCells_at (P := Try.prog) g S.length 5 (List.replicate n (Value.int .u8 0)) 0 (S ++ cur).toArray w hg (by simp; omega) (fun u hu => by rw [(List.mem_replicate.1 hu).2]; rfl)
    have hl : (S ++ cur).take S.length ++ List.replicate n (Value.int .u8 0) ++ (S ++ cur).drop (S.length + n) = S ++ List.replicate n (Value.int .u8 0) ++ cur.drop n := by
      rw [List.take_left, List.drop_append]
      simp
    simp only [List.length_replicate, Nat.add_zero] at hst
    rw [hl] at hst
    refine ⟨g, sCap, cur.drop n, w.setRow g ((S ++ List.replicate n (Value.int .u8 0) ++ cur.drop n)).toArray, ?_, ?_, ?_, ?_, .inl rfl⟩
    · by_cases h0 : n = 0
      · subst h0
        have hst' : (storeCells ⟨g, S.length, none⟩ []).run Try.prog w = .ok () (w.setRow g ((S ++ List.replicate 0 (Value.int .u8 0) ++ cur.drop 0)).toArray) := hst
        simp only [List.replicate_zero, List.drop_zero, List.append_nil] at hst' ⊢
        simp [Builtin.append_, run_underlying ht, run_underlying hu, sizeOf, typeInfo, zeroValue, hi, hz, hsz, hby, asInt, asIntOf, hroom, Addr.add_lit, hst', hz1, hw0]
        exact fun h => absurd h (by omega)
      · have h5 : ¬ ((n : Int) < 0) := by omega
        have h6 : ¬ (281474976710656 < (n : Int)) := by omega
        simp [Builtin.append_, run_underlying ht, run_underlying hu, sizeOf, typeInfo, zeroValue, hi, hz, hsz, hby, asInt, asIntOf, hw, hroom, Addr.add_lit, hz1, h0, h5, h6, zeroCells_one, hst]
    · exact setRow_heap w g _ _ 5 _ hg
    · simp; omega
    · exact ⟨rfl, rfl, rfl, by simp [World.setRow], fun k _ hk => setRow_other w g k _ (fun e => hk (by rw [e]))⟩
  · have h0 : n ≠ 0 := by omega
    have h5 : ¬ ((n : Int) < 0) := by omega
    have h6 : ¬ (281474976710656 < (n : Int)) := by omega
    have h63' : ¬ (9223372036854775807 < ((S.length : Int) + (n : Int))) := by omega
    have hfit := growslice_fits (need := S.length + n) (old := sCap) (bytes := 1) (by omega) (by omega)
    have h48' : ¬ (281474976710656 < Builtin.nextslicecap (S.length + n) sCap) := by omega
    have hge := grownCap_ge w (S.length + n) sCap 5
    have hfo := run_firstCells_some (P := Try.prog) w.drew 1 S.length ⟨g, 0, none⟩ S.length sCap S (by simp) (fun j v hj => by
      rw [addr_add, show w.drew.cell? ⟨g, 0 + j, none⟩ = w.cell? ⟨g, 0 + j, none⟩ from rfl, blk_cell hg]
      have : j < S.length := (List.getElem?_eq_some_iff.1 hj).1
      simpa [List.getElem?_append_left this] using hj)
    refine ⟨w.heap.size, grownCap w (S.length + n) sCap 5, List.replicate (grownCap w (S.length + n) sCap 5 - (S.length + n)) (Value.int .u8 0), w.drew.alloc (.cells ((S ++ List.replicate n (Value.int .u8 0) ++ List.replicate (grownCap w (S.length + n) sCap 5 - (S.length + n)) (Value.int .u8 0))).toArray 5), ?_, heap_alloc_new w.drew _, ?_, ⟨rfl, rfl, rfl, by simp, fun k hk _ => Below.heap_alloc w.drew _ k hk⟩, .inr rfl⟩
    · simp [Builtin.append_, run_underlying ht, run_underlying hu, sizeOf, typeInfo, zeroValue, hi, hz, hsz, hby, asInt, asIntOf, hw, hroom, Addr.add_lit, hz1, h0, h5, h6, h63', h48', Question.forced, zeroCells_one, hfo, newRow, grownCap]
      refine congrArg (fun c => w.drew.alloc (.cells c 5)) ?_
      apply Array.ext'
      simp
    · simp; omega

theorem wpList_append_zeros {w : World} {ops : Array Oper} {rest : List Oper} {o : Oper} {a : Act} {Q : Exit → Act → World → Prop} (hgd : o.guard = none) (s x : Operand)
    (hop : o.op = .call { callee := .builtin .append, args := #[s, x], argTypes := #[81, 3] })
    (g sLen sCap : Nat) (S cur : List Value) (n : Nat) (hs : a.eval s = .slice (some ⟨g, 0, none⟩) sLen sCap) (hx : a.eval x = .int .i64 n)
    (hg : w.heap[g]? = some (.cells (S ++ cur).toArray 5 (0, 0))) (hS : S.length = sLen) (hc : sLen + cur.length = sCap) (hn : sLen + n ≤ 140737488355328)
    (h : ∀ g' cap' cur' w', w'.heap[g']? = some (.cells (S ++ List.replicate n (Value.int .u8 0) ++ cur').toArray 5 (0, 0)) → sLen + n + cur'.length = cap' → w.grownBy w' (some g) → (g' = g ∨ g' = w.heap.size) →
      wpList Try.prog ops Q rest (a.put o.dst (.slice (some ⟨g', 0, none⟩) (sLen + n) cap')) w') :
    wpList Try.prog ops Q (o :: rest) a w := by
  refine wpList_plain hgd fun K hK' => ?_
  obtain ⟨g', cap', cur', w', hrun, r1, r2, r3, r4⟩ := run_append_zeros w o.type g sLen sCap S cur hg hS hc n hn
  unfold Oper.wp
  simp [execOp, hop, resolve, invoke, builtin, hs, hx, hrun, Result.andThen]
  exact hK' _ _ (h g' cap' cur' w' r1 r2 r3 r4)

/-- May so many pages be had? -/
def growOk (l : Nat) (most n : Int) : Bool := decide (0 ≤ n ∧ n ≤ most - ((l / 65536 : Nat) : Int))
theorem grow_no {w : World} {p g cap : Nat} {S : List UInt8} {most bound n : Int} (h : MemAt 105 w p g cap S most bound) (hs : S.length ≤ 1048576) (hm : -1 ≤ most ∧ most ≤ 16) (hf : growOk S.length most n = false) :
    Calls Try.prog 47 #[.pointer (some ⟨p, 0, none⟩), .int .i64 n] w fun e w' => e = .returned (.int .i64 (-1)) ∧ w' = w := by
  have HM := Aside0.mk h
  have z1 := h.c1
  have hf' := of_decide_eq_false hf
  clear h hf
  go_enter Try.func47, Try.ntmps47
  go_wp2_with fail
  refine (pages_calls HM.out hs).mono ?_
  rintro e w1 ⟨rfl, rfl⟩
  have hq16 : S.length / 65536 ≤ 16 := by omega
  generalize S.length / 65536 = q at *
  by_cases hn : n < 0
  · have hd : decide (n < 0) = true := decide_eq_true hn
    clear hf'
    go_wp2_with fail
    all_goals (go_ret; exact ⟨rfl, rfl⟩)
  · have hd : decide (n < 0) = false := decide_eq_false hn
    have hd2 : decide (most - (q : Int) < n) = true := decide_eq_true (by omega)
    go_wp2_with fail
    all_goals (go_ret; exact ⟨rfl, rfl⟩)

theorem grow_yes {w : World} {p g cap : Nat} {S : List UInt8} {most bound : Int} {n : Nat} (h : MemAt 105 w p g cap S most bound) (hs : S.length ≤ 1048576) (hm : -1 ≤ most ∧ most ≤ 16) (hf : growOk S.length most n = true) :
    Calls Try.prog 47 #[.pointer (some ⟨p, 0, none⟩), .int .i64 n] w fun e w' => e = .returned (.int .i64 ((S.length / 65536 : Nat) : Int)) ∧ ∃ g' cap', (g' = g ∨ g' = w.heap.size) ∧ MemAt 105 w' p g' cap' (S ++ List.replicate (n * 65536) 0) most bound ∧ Turned p g w w' := by
  have HM := Aside0.mk h
  have z0 := h.c0
  have z1 := h.c1
  have hf' := of_decide_eq_true hf
  clear h hf
  go_enter Try.func47, Try.ntmps47
  go_wp2_with fail
  refine (pages_calls HM.out hs).mono ?_
  rintro e w1 ⟨rfl, rfl⟩
  generalize hq : S.length / 65536 = q at *
  have HQ := Aside0.mk hq
  clear hq
  obtain ⟨cur, hg, hc⟩ := HM.out.hg
  have HG := Aside0.mk hg
  have hn16 : n ≤ 16 := by omega
  clear hg
  go_wp2_with (at_builtin; refine wpList_append_zeros rfl (.tmp 28) (.tmp 30) rfl g S.length cap (bz S) cur (n * 65536) rfl (by go_num) HG.out (bz_length S) hc (by omega) ?_)
  intro g' cap' cur' w' r1 r2 r3 r4
  have hne : p ≠ g' := by
    rcases r4 with rfl | rfl
    · exact HM.out.ne
    · exact Nat.ne_of_lt HM.out.lt.1
  have K := blk_grown HM.out.hp r3 (fun h => HM.out.ne (Option.some.inj h))
  have y0 : w'.cell? ⟨p, 0, none⟩ = some (.slice (some ⟨g, 0, none⟩) S.length cap) := (blk_cell K 0).trans rfl
  have f0 : w'.frozen? ⟨p, 0, none⟩ = false := blk_frozen K 0
  have R1 : Aside0 (MemAt 105 (w'.setCell ⟨p, 0, none⟩ (.slice (some ⟨g', 0, none⟩) (S.length + n * 65536) cap')) p g' cap' (S ++ List.replicate (n * 65536) 0) most bound) := by
    refine ⟨⟨?_, ⟨cur', ?_, by simp; omega⟩, hne⟩⟩
    · rw [blk_set K]
      simp
    · rw [bz_append, bz_rep, List.append_assoc]
      exact blk_far r1 (p := ⟨p, 0, none⟩) (Ne.symm hne) _
  have R2 : Aside0 (Turned p g w1 (w'.setCell ⟨p, 0, none⟩ (.slice (some ⟨g', 0, none⟩) (S.length + n * 65536) cap'))) :=
    ⟨⟨r3.os, r3.tape, r3.output, by simpa [World.setCell] using r3.size, fun k hk h1 h2 => (Below.heap_setCell w' _ _ k h1).trans (r3.block k hk (fun h => h2 (Option.some.inj h)))⟩⟩
  have R4 := Aside0.mk r4
  clear r1 r3 K r4
  go_wp2_with fail
  go_ret
  exact ⟨by rw [HQ.out]; rfl, g', cap', R4.out, R1.out, R2.out⟩
end Go.Proofs.Ytmpmcffhlnlejaa.MemEq
