/- The reference's memories (scarfref04): Write, Store, New, Copy, Grow. -/
import Derived.Test.YtmpmcffhlnlejaaMemRefA
namespace Go.Proofs.Ytmpmcffhlnlejaa.MemEq
open Go.RowKit Go.Proofs.YtmpmcffhlnlejaaW.PrintWords Go.Proofs.YtmpmcffhlnlejaaW.PrintLast Go.Proofs.YtmpmcffhlnlejaaW.PrintMore
set_option linter.unusedVariables false
set_option linter.unusedSimpArgs false

theorem wpList_copy_str2 {w : World} {ops : Array Oper} {rest : List Oper} {o : Oper} {a : Act} {Q : Exit → Act → World → Prop} (hgd : o.guard = none) (d s : Operand)
    (hop : o.op = .call { callee := .builtin .copy, args := #[d, s], argTypes := #[81, 9] })
    (g off dl dc : Nat) (str : ByteArray) (hd : a.eval d = .slice (some ⟨g, off, none⟩) dl dc) (hs : a.eval s = .string str) (hn : str.size ≤ dl)
    (S : List UInt8) (cur : List Value) (hg : w.heap[g]? = some (.cells (bz S ++ cur).toArray 5 (0, 0))) (at_ : Nat) (hoff : str.size ≠ 0 → off = at_) (hfit : at_ + str.size ≤ S.length)
    (h : ∀ w', w'.heap[g]? = some (.cells (bz (splice S at_ str.data.toList) ++ cur).toArray 5 (0, 0)) → w.grownBy w' (some g) → wpList Try.prog ops Q rest (a.put o.dst (goInt str.size)) w') :
    wpList Try.prog ops Q (o :: rest) a w := by
  have hl : str.data.toList.length = str.size := Array.length_toList
  refine wpList_plain hgd fun K hK' => ?_
  by_cases h0 : str.size = 0
  · have hrun := Go.Lib.run_copy_empty_string (P := Try.prog) w 81 9 o.type 5 (some ⟨g, off, none⟩) dl dc str Try.underlying81 info5i h0
    have hL : str.data.toList = [] := List.eq_nil_of_length_eq_zero (by omega)
    unfold Oper.wp
    simp [execOp, hop, resolve, invoke, builtin, hd, hs, hrun, Result.andThen]
    have := h w (by rw [hL, splice_nil]; exact hg) ⟨rfl, rfl, rfl, Nat.le_refl _, fun _ _ _ => rfl⟩
    rw [h0] at this
    exact hK' _ _ this
  · obtain rfl := hoff h0
    have hrun := Go.Lib.run_copy_row_string (P := Try.prog) w 81 9 o.type 5 g off dl dc str (bz S ++ cur).toArray 5 Try.underlying81 info5s' hg hn (by simp [bz_length]; omega)
    have hr : (bz S ++ cur).toArray.toList.take off ++ Go.Lib.byteCells str.data.toList ++ (bz S ++ cur).toArray.toList.drop (off + str.size) = bz (splice S off str.data.toList) ++ cur := by
      rw [byteCells_bz, List.append_assoc, ← hl]
      exact splice_row (by omega)
    rw [hr] at hrun
    unfold Oper.wp
    simp [execOp, hop, resolve, invoke, builtin, hd, hs, hrun, Result.andThen]
    exact hK' _ _ (h _ (setRow_heap w g _ _ 5 _ hg) ⟨rfl, rfl, rfl, by simp [World.setRow], fun k _ hk => setRow_other w g k _ (fun e => hk (by rw [e]))⟩)

theorem rwrite_no {w : World} {p g cap : Nat} {S : List UInt8} {most bound : Int} {at_ : Int} {s : ByteArray} (h : MemAt 83 w p g cap S most bound) (hs : S.length ≤ 1048576)
    (hf : fits S.length at_ s.size = false) :
    Calls Try.prog 68 #[.pointer (some ⟨p, 0, none⟩), .int .i64 at_, .string s] w fun e w' => e = .returned (.int .i64 4) ∧ w' = w := by
  have HM := Aside0.mk h
  clear h
  go_enter Try.func68, Try.ntmps68
  go_wp2_with fail
  refine (rin_no HM.out hs hf).mono ?_
  rintro e w1 ⟨rfl, rfl⟩
  go_wp2_with fail
  go_ret
  exact ⟨rfl, rfl⟩

set_option maxHeartbeats 4000000 in
theorem rwrite_yes {w : World} {p g cap : Nat} {S : List UInt8} {most bound : Int} {a : Nat} {s : ByteArray} (h : MemAt 83 w p g cap S most bound) (hs : S.length ≤ 1048576)
    (hf : a + s.size ≤ S.length) :
    Calls Try.prog 68 #[.pointer (some ⟨p, 0, none⟩), .int .i64 a, .string s] w fun e w' => e = .returned (.int .i64 0) ∧ MemAt 83 w' p g cap (splice S a s.data.toList) most bound ∧ Turned p g w w' := by
  have z0 := h.c0
  have hle := h.le
  have HM := Aside0.mk h
  obtain ⟨cur, hg, hc⟩ := h.hg
  have HG := Aside0.mk hg
  clear h hg
  by_cases hq : cap = a
  · go_enter Try.func68, Try.ntmps68
    go_wp2_with fail
    refine (rin_yes HM.out hs hf).mono ?_
    rintro e w1 ⟨rfl, rfl⟩
    subst hq
    go_wp2_with (with_reducible refine wpList_copy_str2 rfl (.tmp 18) (.tmp 19) rfl g 0 _ _ s rfl rfl (by omega) S cur HG.out cap (by omega) hf ?_)
    intro w' h1 h2
    obtain ⟨R1, R2⟩ := wrote (T := 83) HM.out (by have : s.data.toList.length = s.size := Array.length_toList
                                                  omega) hc h1 h2
    have R1' := Aside0.mk R1
    have R2' := Aside0.mk R2
    clear h1 h2 R1 R2
    go_wp2_with fail
    go_ret
    exact ⟨rfl, R1'.out, R2'.out⟩
  · go_enter Try.func68, Try.ntmps68
    go_wp2_with fail
    refine (rin_yes HM.out hs hf).mono ?_
    rintro e w1 ⟨rfl, rfl⟩
    go_wp2_with (with_reducible refine wpList_copy_str2 rfl (.tmp 18) (.tmp 19) rfl g a _ _ s rfl rfl (by omega) S cur HG.out a (fun _ => rfl) hf ?_)
    intro w' h1 h2
    obtain ⟨R1, R2⟩ := wrote (T := 83) HM.out (by have : s.data.toList.length = s.size := Array.length_toList
                                                  omega) hc h1 h2
    have R1' := Aside0.mk R1
    have R2' := Aside0.mk R2
    clear h1 h2 R1 R2
    go_wp2_with fail
    go_ret
    exact ⟨rfl, R1'.out, R2'.out⟩

theorem rcopy_no {w : World} {p g cap p2 g2 cap2 : Nat} {S S2 : List UInt8} {most bound most2 bound2 at_ b n : Int} (h : MemAt 83 w p g cap S most bound) (h2 : MemAt 83 w p2 g2 cap2 S2 most2 bound2) (hs : S.length ≤ 1048576) (hs2 : S2.length ≤ 1048576)
    (hf : (fits S.length at_ n && fits S2.length b n) = false) :
    Calls Try.prog 71 #[.pointer (some ⟨p, 0, none⟩), .int .i64 at_, .pointer (some ⟨p2, 0, none⟩), .int .i64 b, .int .i64 n] w fun e w' => e = .returned (.int .i64 4) ∧ w' = w := by
  have HM := Aside0.mk h
  have HM2 := Aside0.mk h2
  clear h h2
  cases hf2 : fits S2.length b n with
  | false =>
    clear hf
    go_enter Try.func71, Try.ntmps71
    go_wp2_with fail
    refine (rread_no HM2.out hs2 hf2).mono ?_
    rintro e w1 ⟨rfl, rfl⟩
    clear hf2
    go_wp2_with fail
    go_ret
    exact ⟨rfl, rfl⟩
  | true =>
    have hf1 : fits S.length at_ n = false := by rw [hf2, Bool.and_true] at hf; exact hf
    clear hf
    have hf2' := of_decide_eq_true hf2
    clear hf2
    obtain ⟨b, rfl⟩ := Int.eq_ofNat_of_zero_le hf2'.1
    obtain ⟨n, rfl⟩ := Int.eq_ofNat_of_zero_le hf2'.2.1
    go_enter Try.func71, Try.ntmps71
    go_wp2_with fail
    refine (rread_yes HM2.out hs2 (by omega)).mono ?_
    rintro e w1 ⟨rfl, rfl⟩
    go_wp2_with fail
    refine (rin_no HM.out hs hf1).mono ?_
    rintro e w1 ⟨rfl, rfl⟩
    clear hf1
    go_wp2_with fail
    go_ret
    exact ⟨rfl, rfl⟩

theorem rcopy_yes {w : World} {p g cap p2 g2 cap2 : Nat} {S S2 : List UInt8} {most bound most2 bound2 : Int} {a b n : Nat} (h : MemAt 83 w p g cap S most bound) (h2 : MemAt 83 w p2 g2 cap2 S2 most2 bound2) (hs : S.length ≤ 1048576) (hs2 : S2.length ≤ 1048576)
    (hf : a + n ≤ S.length) (hf2 : b + n ≤ S2.length) :
    Calls Try.prog 71 #[.pointer (some ⟨p, 0, none⟩), .int .i64 a, .pointer (some ⟨p2, 0, none⟩), .int .i64 b, .int .i64 n] w fun e w' => e = .returned (.int .i64 0) ∧ MemAt 83 w' p g cap (splice S a (getAt S2 b n)) most bound ∧ Turned p g w w' := by
  have HM := Aside0.mk h
  have HM2 := Aside0.mk h2
  clear h h2
  go_enter Try.func71, Try.ntmps71
  go_wp2_with fail
  refine (rread_yes HM2.out hs2 hf2).mono ?_
  rintro e w1 ⟨rfl, rfl⟩
  go_wp2_with fail
  refine (rin_yes HM.out hs hf).mono ?_
  rintro e w1 ⟨rfl, rfl⟩
  go_wp2_with fail
  have hsz : (⟨(getAt S2 b n).toArray⟩ : ByteArray).size = n := by
    have := getAt_length hf2
    simpa [ByteArray.size] using this
  refine (rwrite_yes (s := ⟨(getAt S2 b n).toArray⟩) HM.out hs (by omega)).mono ?_
  rintro e w2 ⟨rfl, h1, h2⟩
  have R1' := Aside0.mk h1
  have R2' := Aside0.mk h2
  clear h1 h2
  go_wp2_with fail
  go_ret
  exact ⟨rfl, R1'.out, R2'.out⟩

theorem copy_no {w : World} {p g cap p2 g2 cap2 : Nat} {S S2 : List UInt8} {most bound most2 bound2 at_ b n : Int} (h : MemAt 105 w p g cap S most bound) (h2 : MemAt 105 w p2 g2 cap2 S2 most2 bound2) (hs : S.length ≤ 1048576) (hs2 : S2.length ≤ 1048576)
    (hf : (fits S.length at_ n && fits S2.length b n) = false) :
    Calls Try.prog 36 #[.pointer (some ⟨p, 0, none⟩), .int .i64 at_, .pointer (some ⟨p2, 0, none⟩), .int .i64 b, .int .i64 n] w fun e w' => e = .returned (.int .i64 4) ∧ w' = w := by
  have HM := Aside0.mk h
  have HM2 := Aside0.mk h2
  clear h h2
  cases hf1 : fits S.length at_ n with
  | false =>
    clear hf
    cases hf2 : fits S2.length b n with
    | false =>
      go_enter Try.func36, Try.ntmps36
      go_wp2_with fail
      refine (part_no HM.out hs hf1).mono ?_
      rintro e w1 ⟨rfl, rfl⟩
      clear hf1
      go_wp2_with fail
      refine (part_no HM2.out hs2 hf2).mono ?_
      rintro e w1 ⟨rfl, rfl⟩
      clear hf2
      go_wp2_with fail
      go_ret
      exact ⟨rfl, rfl⟩
    | true =>
      have hf2' := of_decide_eq_true hf2
      clear hf2
      obtain ⟨b, rfl⟩ := Int.eq_ofNat_of_zero_le hf2'.1
      obtain ⟨n, rfl⟩ := Int.eq_ofNat_of_zero_le hf2'.2.1
      go_enter Try.func36, Try.ntmps36
      go_wp2_with fail
      refine (part_no HM.out hs hf1).mono ?_
      rintro e w1 ⟨rfl, rfl⟩
      clear hf1
      go_wp2_with fail
      refine (part_yes HM2.out hs2 (by omega)).mono ?_
      rintro e w1 ⟨off, ho, rfl, rfl⟩
      clear ho
      go_wp2_with fail
      go_ret
      exact ⟨rfl, rfl⟩
  | true =>
    have hf2 : fits S2.length b n = false := by rw [hf1, Bool.true_and] at hf; exact hf
    clear hf
    have hf1' := of_decide_eq_true hf1
    clear hf1
    obtain ⟨a, rfl⟩ := Int.eq_ofNat_of_zero_le hf1'.1
    obtain ⟨n, rfl⟩ := Int.eq_ofNat_of_zero_le hf1'.2.1
    go_enter Try.func36, Try.ntmps36
    go_wp2_with fail
    refine (part_yes HM.out hs (by omega)).mono ?_
    rintro e w1 ⟨off, ho, rfl, rfl⟩
    clear ho
    go_wp2_with fail
    refine (part_no HM2.out hs2 hf2).mono ?_
    rintro e w1 ⟨rfl, rfl⟩
    clear hf2
    go_wp2_with fail
    go_ret
    exact ⟨rfl, rfl⟩
end Go.Proofs.Ytmpmcffhlnlejaa.MemEq
