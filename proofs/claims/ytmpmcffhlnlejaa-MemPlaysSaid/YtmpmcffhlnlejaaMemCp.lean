/- mem.Copy. -/
import Derived.Test.YtmpmcffhlnlejaaMemWr
namespace Go.Proofs.Ytmpmcffhlnlejaa.MemEq
open Go.RowKit Go.Proofs.YtmpmcffhlnlejaaW.PrintWords Go.Proofs.YtmpmcffhlnlejaaW.PrintLast Go.Proofs.YtmpmcffhlnlejaaW.PrintMore
set_option linter.unusedVariables false
set_option linter.unusedSimpArgs false

theorem wpList_copy_mem {w : World} {ops : Array Oper} {rest : List Oper} {o : Oper} {a : Act} {Q : Exit → Act → World → Prop} (hgd : o.guard = none) (d s : Operand)
    (hop : o.op = .call { callee := .builtin .copy, args := #[d, s], argTypes := #[81, 81] })
    (g off g2 off2 n : Nat) (hd : a.eval d = .slice (some ⟨g, off, none⟩) n n) (hs : a.eval s = .slice (some ⟨g2, off2, none⟩) n n)
    (S : List UInt8) (cur : List Value) (hg : w.heap[g]? = some (.cells (bz S ++ cur).toArray 5 (0, 0))) (at_ : Nat) (hoff : n ≠ 0 → off = at_) (hfit : at_ + n ≤ S.length)
    (L : List UInt8) (hL : L.length = n) (hc : n ≠ 0 → ∀ j v, (bz L)[j]? = some v → w.cell? ((⟨g2, off2, none⟩ : Addr).add j) = some v)
    (h : ∀ x w', w'.heap[g]? = some (.cells (bz (splice S at_ L) ++ cur).toArray 5 (0, 0)) → w.grownBy w' (some g) → wpList Try.prog ops Q rest (a.put o.dst x) w') :
    wpList Try.prog ops Q (o :: rest) a w := by
  by_cases h0 : n = 0
  · have hL0 : L = [] := List.eq_nil_of_length_eq_zero (by omega)
    refine wpList_copy_nothing hgd d s 81 81 hop 5 Try.underlying81 info5s' _ _ n n n n hd hs (by simp [h0]) ?_
    exact h _ w (by rw [hL0, splice_nil]; exact hg) ⟨rfl, rfl, rfl, Nat.le_refl _, fun _ _ _ => rfl⟩
  · obtain rfl := hoff h0
    refine wpList_copy_own hgd d s 81 81 hop 5 Try.underlying81 info5s' g off n n ⟨g2, off2, none⟩ n n hd hs (bz S ++ cur).toArray 5 hg (bz L) (by rw [bz_length, hL]; simp) (hc h0) (by rw [bz_length]; simp [bz_length]; omega) (bz_one L) ?_
    refine h _ _ ?_ ⟨rfl, rfl, rfl, by simp [World.setRow], fun k _ hk => setRow_other w g k _ (fun e => hk (by rw [e]))⟩
    have hr : (bz S ++ cur).toArray.toList.take off ++ (bz L ++ (bz S ++ cur).toArray.toList.drop (off + (bz L).length)) = bz (splice S off L) ++ cur := by
      rw [bz_length]
      exact splice_row (by omega)
    rw [hr]
    exact setRow_heap w g _ _ 5 _ hg

theorem getAt_cell {T : TypeId} {w : World} {p g cap : Nat} {S : List UInt8} {most bound : Int} (h : MemAt T w p g cap S most bound) {a n : Nat} (hf : a + n ≤ S.length) :
    ∀ j v, (bz (getAt S a n))[j]? = some v → w.cell? ((⟨g, a, none⟩ : Addr).add j) = some v := by
  intro j v hv
  have hj : j < (getAt S a n).length := by
    have := (List.getElem?_eq_some_iff.1 hv).1
    rwa [bz_length] at this
  obtain ⟨h1, h2⟩ := getAt_get hj
  rw [addr_add, h.byte h1, ← h2]
  simp only [bz, List.getElem?_map, List.getElem?_eq_getElem hj, Option.map_some] at hv
  exact hv

set_option maxHeartbeats 4000000 in
theorem copy_yes {w : World} {p g cap p2 g2 cap2 : Nat} {S S2 : List UInt8} {most bound most2 bound2 : Int} {a b n : Nat} (h : MemAt 105 w p g cap S most bound) (h2 : MemAt 105 w p2 g2 cap2 S2 most2 bound2) (hs : S.length ≤ 1048576) (hs2 : S2.length ≤ 1048576)
    (hf : a + n ≤ S.length) (hf2 : b + n ≤ S2.length) :
    Calls Try.prog 36 #[.pointer (some ⟨p, 0, none⟩), .int .i64 a, .pointer (some ⟨p2, 0, none⟩), .int .i64 b, .int .i64 n] w fun e w' => e = .returned (.int .i64 0) ∧ MemAt 105 w' p g cap (splice S a (getAt S2 b n)) most bound ∧ Turned p g w w' := by
  have HM := Aside0.mk h
  have HM2 := Aside0.mk h2
  obtain ⟨cur, hg, hc⟩ := h.hg
  have HG := Aside0.mk hg
  clear h h2 hg
  go_enter Try.func36, Try.ntmps36
  go_wp2_with fail
  refine (part_yes (at_ := a) (n := n) HM.out hs hf).mono ?_
  rintro e w1 ⟨off, ho, rfl, rfl⟩
  have HO := Aside0.mk ho
  clear ho
  go_wp2_with fail
  refine (part_yes (at_ := b) (n := n) HM2.out hs2 hf2).mono ?_
  rintro e w1 ⟨off2, ho2, rfl, rfl⟩
  have HO2 := Aside0.mk ho2
  clear ho2
  go_wp2_with (with_reducible refine wpList_copy_mem rfl (.tmp 35) (.tmp 36) rfl g off g2 off2 n rfl rfl S cur HG.out a HO.out hf (getAt S2 b n) (getAt_length hf2) (fun h0 => by rw [HO2.out h0]; exact getAt_cell HM2.out hf2) ?_)
  intro x w' h1 h2
  obtain ⟨R1, R2⟩ := wrote (T := 105) HM.out (by rw [getAt_length hf2]; exact hf) hc h1 h2
  have R1' := Aside0.mk R1
  have R2' := Aside0.mk R2
  clear h1 h2 R1 R2
  go_wp2_with fail
  go_ret
  exact ⟨rfl, R1'.out, R2'.out⟩
end Go.Proofs.Ytmpmcffhlnlejaa.MemEq
