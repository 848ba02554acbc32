/- (*Mem).Write, mem.Copy; Store, Fill, Write, whichever way they go. -/
import Derived.Test.YtmpmcffhlnlejaaMemAwk
import Derived.Lib.BufferWrite
namespace Go.Proofs.Ytmpmcffhlnlejaa.MemEq
open Go.RowKit Go.Proofs.YtmpmcffhlnlejaaW.PrintWords Go.Proofs.YtmpmcffhlnlejaaW.PrintLast Go.Proofs.YtmpmcffhlnlejaaW.PrintMore
set_option linter.unusedVariables false
set_option linter.unusedSimpArgs false

theorem splice_row {S L : List UInt8} {cur : List Value} {a : Nat} (h : a + L.length ≤ S.length) :
    (bz S ++ cur).take a ++ (bz L ++ (bz S ++ cur).drop (a + L.length)) = bz (splice S a L) ++ cur := by
  have hb : (bz S).length = S.length := bz_length S
  rw [List.take_append_of_le_length (by omega), List.drop_append_of_le_length (by omega)]
  simp [bz, splice, List.map_take, List.map_drop]

theorem info5s' : (Try.prog.info? 5).map (·.size) = some 1 := by kernel_rfl
theorem info5i : ((Try.prog.info? 5).map (·.size)).isSome = true := by kernel_rfl
theorem byteCells_bz (l : List UInt8) : Go.Lib.byteCells l = bz l := rfl

theorem wpList_copy_str {w : World} {ops : Array Oper} {rest : List Oper} {o : Oper} {a : Act} {Q : Exit → Act → World → Prop} (hgd : o.guard = none) (d s : Operand)
    (hop : o.op = .call { callee := .builtin .copy, args := #[d, s], argTypes := #[81, 9] })
    (g off n : Nat) (str : ByteArray) (hd : a.eval d = .slice (some ⟨g, off, none⟩) n n) (hs : a.eval s = .string str) (hn : str.size = n)
    (S : List UInt8) (cur : List Value) (hg : w.heap[g]? = some (.cells (bz S ++ cur).toArray 5 (0, 0))) (at_ : Nat) (hoff : n ≠ 0 → off = at_) (hfit : at_ + n ≤ S.length)
    (h : ∀ w', w'.heap[g]? = some (.cells (bz (splice S at_ str.data.toList) ++ cur).toArray 5 (0, 0)) → w.grownBy w' (some g) → wpList Try.prog ops Q rest (a.put o.dst (goInt str.size)) w') :
    wpList Try.prog ops Q (o :: rest) a w := by
  have hl : str.data.toList.length = n := by rw [← hn]; exact Array.length_toList
  refine wpList_plain hgd fun K hK' => ?_
  by_cases h0 : n = 0
  · have hrun := Go.Lib.run_copy_empty_string (P := Try.prog) w 81 9 o.type 5 (some ⟨g, off, none⟩) n n str Try.underlying81 info5i (by omega)
    have hL : str.data.toList = [] := List.eq_nil_of_length_eq_zero (by omega)
    have hsz : str.size = 0 := by omega
    unfold Oper.wp
    simp [execOp, hop, resolve, invoke, builtin, hd, hs, hrun, Result.andThen]
    have := h w (by rw [hL, splice_nil]; exact hg) ⟨rfl, rfl, rfl, Nat.le_refl _, fun _ _ _ => rfl⟩
    rw [hsz] at this
    exact hK' _ _ this
  · obtain rfl := hoff h0
    have hrun := Go.Lib.run_copy_row_string (P := Try.prog) w 81 9 o.type 5 g off n n str (bz S ++ cur).toArray 5 Try.underlying81 info5s' hg (by omega) (by simp [bz_length]; omega)
    have hr : (bz S ++ cur).toArray.toList.take off ++ Go.Lib.byteCells str.data.toList ++ (bz S ++ cur).toArray.toList.drop (off + str.size) = bz (splice S off str.data.toList) ++ cur := by
      rw [byteCells_bz, List.append_assoc, hn, ← hl]
      exact splice_row (by omega)
    rw [hr] at hrun
    unfold Oper.wp
    simp [execOp, hop, resolve, invoke, builtin, hd, hs, hrun, Result.andThen]
    exact hK' _ _ (h _ (setRow_heap w g _ _ 5 _ hg) ⟨rfl, rfl, rfl, by simp [World.setRow], fun k _ hk => setRow_other w g k _ (fun e => hk (by rw [e]))⟩)

/-- What a write into a memory's row leaves. -/
theorem wrote {T : TypeId} {w w' : World} {p g cap : Nat} {S L : List UInt8} {most bound : Int} {a : Nat} {cur : List Value} (h : MemAt T w p g cap S most bound) (hl : a + L.length ≤ S.length) (hc : S.length + cur.length = cap)
    (hg : w'.heap[g]? = some (.cells (bz (splice S a L) ++ cur).toArray 5 (0, 0))) (hgr : w.grownBy w' (some g)) : MemAt T w' p g cap (splice S a L) most bound ∧ Turned p g w w' := by
  have hs := length_splice S a L hl
  refine ⟨⟨?_, ⟨cur, hg, by rw [hs]; exact hc⟩, h.ne⟩, ⟨hgr.os, hgr.tape, hgr.output, hgr.size, fun k hk h1 h2 => hgr.block k hk (fun e => h2 (Option.some.inj e))⟩⟩
  rw [hs]
  exact blk_grown h.hp hgr (fun e => h.ne (Option.some.inj e))

theorem write_no {w : World} {p g cap : Nat} {S : List UInt8} {most bound : Int} {at_ : Int} {s : ByteArray} (h : MemAt 105 w p g cap S most bound) (hs : S.length ≤ 1048576)
    (hf : fits S.length at_ s.size = false) :
    Calls Try.prog 48 #[.pointer (some ⟨p, 0, none⟩), .int .i64 at_, .string s] w fun e w' => e = .returned (.int .i64 4) ∧ w' = w := by
  have HM := Aside0.mk h
  clear h
  go_enter Try.func48, Try.ntmps48
  go_wp2_with fail
  refine (part_no HM.out hs hf).mono ?_
  rintro e w1 ⟨rfl, rfl⟩
  go_wp2_with fail
  go_ret
  exact ⟨rfl, rfl⟩

set_option maxHeartbeats 4000000 in
theorem write_yes {w : World} {p g cap : Nat} {S : List UInt8} {most bound : Int} {a : Nat} {s : ByteArray} (h : MemAt 105 w p g cap S most bound) (hs : S.length ≤ 1048576)
    (hf : a + s.size ≤ S.length) :
    Calls Try.prog 48 #[.pointer (some ⟨p, 0, none⟩), .int .i64 a, .string s] w fun e w' => e = .returned (.int .i64 0) ∧ MemAt 105 w' p g cap (splice S a s.data.toList) most bound ∧ Turned p g w w' := by
  have HM := Aside0.mk h
  obtain ⟨cur, hg, hc⟩ := h.hg
  have HG := Aside0.mk hg
  clear h hg
  go_enter Try.func48, Try.ntmps48
  go_wp2_with fail
  refine (part_yes (at_ := a) (n := s.size) HM.out hs hf).mono ?_
  rintro e w1 ⟨off, ho, rfl, rfl⟩
  have HO := Aside0.mk ho
  clear ho
  go_wp2_with (with_reducible refine wpList_copy_str rfl (.tmp 19) (.tmp 20) rfl g off s.size s rfl rfl rfl S cur HG.out a HO.out hf ?_)
  intro w' h1 h2
  obtain ⟨R1, R2⟩ := wrote (T := 105) HM.out (by have : s.data.toList.length = s.size := Array.length_toList
                                                 omega) hc h1 h2
  have R1' := Aside0.mk R1
  have R2' := Aside0.mk R2
  clear h1 h2 R1 R2
  go_wp2_with fail
  go_ret
  exact ⟨rfl, R1'.out, R2'.out⟩

theorem width_st' {op : Int} (h : (widthF op).2.2 = true) : (widthF op).1 ≠ 0 := by
  have key : ∀ {c : Prop} [Decidable c] {a b : Nat × Int × Bool}, (a.2.2 = true → a.1 ≠ 0) → (b.2.2 = true → b.1 ≠ 0) → ((if c then a else b).2.2 = true → (if c then a else b).1 ≠ 0) := by
    intro c _ a b h1 h2
    by_cases h : c
    · rw [if_pos h]; exact h1
    · rw [if_neg h]; exact h2
  revert h
  unfold widthF
  repeat (refine key (by decide) ?_)
  decide

/-- Whatever becomes of a memory of so many bytes. -/
def Some (p g cap l : Nat) (most bound : Int) (w w' : World) : Prop := ∃ S' : List UInt8, S'.length = l ∧ MemAt 105 w' p g cap S' most bound ∧ Turned p g w w'

theorem store_any {w : World} {p g cap : Nat} {S : List UInt8} {most bound : Int} (op at_ v : Int) (h : MemAt 105 w p g cap S most bound) (hs : S.length ≤ 1048576) :
    Calls Try.prog 34 #[.pointer (some ⟨p, 0, none⟩), .int .i64 op, .int .i64 at_, .int .i64 v] w fun e w' => ∃ t : Int, e = .returned (.int .i64 t) ∧ Some p g cap S.length most bound w w' := by
  cases hf : ((widthF op).2.2 && fits S.length at_ (widthF op).1) with
  | false =>
    refine (store_no (v := v) h hs hf).mono ?_
    rintro e w' ⟨rfl, ⟨d, rfl⟩⟩
    exact ⟨_, rfl, S, rfl, h.drewN d, Turned.drewN d⟩
  | true =>
    rw [Bool.and_eq_true] at hf
    have hf2 := of_decide_eq_true hf.2
    obtain ⟨a, rfl⟩ := Int.eq_ofNat_of_zero_le hf2.1
    have hst := width_st' hf.1
    obtain ⟨⟨n, t, st⟩, hw⟩ : ∃ x, widthF op = x := ⟨_, rfl⟩
    rw [hw] at hf hf2 hst
    obtain rfl : st = true := hf.1
    have hn : n ≠ 0 := hst
    have hfn : a + n ≤ S.length := by have := hf2.2.2; omega
    refine (store_yes (v := v) h hs hw hn hfn).mono ?_
    rintro e w' ⟨rfl, h1, h2⟩
    exact ⟨_, rfl, _, length_splice S a _ (by rw [stB_length]; exact hfn), h1, h2⟩
theorem fill_any {w : World} {p g cap : Nat} {S : List UInt8} {most bound : Int} (at_ v n : Int) (h : MemAt 105 w p g cap S most bound) (hs : S.length ≤ 1048576) :
    Calls Try.prog 49 #[.pointer (some ⟨p, 0, none⟩), .int .i64 at_, .int .i64 v, .int .i64 n] w fun e w' => ∃ t : Int, e = .returned (.int .i64 t) ∧ Some p g cap S.length most bound w w' := by
  cases hf : fits S.length at_ n with
  | false =>
    refine (fill_no (v := v) h hs hf).mono ?_
    rintro e w' ⟨rfl, rfl⟩
    exact ⟨_, rfl, S, rfl, h, Turned.refl _ _ _⟩
  | true =>
    have hf2 := of_decide_eq_true hf
    obtain ⟨a, rfl⟩ := Int.eq_ofNat_of_zero_le hf2.1
    obtain ⟨m, rfl⟩ := Int.eq_ofNat_of_zero_le hf2.2.1
    refine (fill_yes (v := v) h hs (by omega : a + m ≤ S.length)).mono ?_
    rintro e w' ⟨rfl, h1, h2⟩
    exact ⟨_, rfl, _, length_splice S a _ (by rw [List.length_replicate]; omega), h1, h2⟩
theorem write_any {w : World} {p g cap : Nat} {S : List UInt8} {most bound : Int} (at_ : Int) (s : ByteArray) (h : MemAt 105 w p g cap S most bound) (hs : S.length ≤ 1048576) :
    Calls Try.prog 48 #[.pointer (some ⟨p, 0, none⟩), .int .i64 at_, .string s] w fun e w' => ∃ t : Int, e = .returned (.int .i64 t) ∧ Some p g cap S.length most bound w w' := by
  cases hf : fits S.length at_ s.size with
  | false =>
    refine (write_no h hs hf).mono ?_
    rintro e w' ⟨rfl, rfl⟩
    exact ⟨_, rfl, S, rfl, h, Turned.refl _ _ _⟩
  | true =>
    have hf2 := of_decide_eq_true hf
    obtain ⟨a, rfl⟩ := Int.eq_ofNat_of_zero_le hf2.1
    refine (write_yes h hs (by omega : a + s.size ≤ S.length)).mono ?_
    rintro e w' ⟨rfl, h1, h2⟩
    exact ⟨_, rfl, _, length_splice S a _ (by have : s.data.toList.length = s.size := Array.length_toList
                                              omega), h1, h2⟩
end Go.Proofs.Ytmpmcffhlnlejaa.MemEq
