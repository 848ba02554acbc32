/- scarflaw04.some: some deeds, whichever. -/
import Derived.Test.YtmpmcffhlnlejaaMemAwk
namespace Go.Proofs.Ytmpmcffhlnlejaa.MemEq
open Go.RowKit Go.Proofs.YtmpmcffhlnlejaaW.PrintWords Go.Proofs.YtmpmcffhlnlejaaW.PrintLast Go.Proofs.YtmpmcffhlnlejaaW.PrintMore
open Go.Proofs.Ytmpmcffhlnlejaa.PMemBack
set_option linter.unusedVariables false
set_option linter.unusedSimpArgs false

/-- A deed's cells. -/
def dc (x : S79) : List Value := [.int .i64 x.f0, .int .i64 x.f1, .int .i64 x.f2, .int .i64 x.f3, .int .i64 x.f4, .int .i64 x.f5, .string x.f6, .bool x.f7]
def dcs (r : List S79) : List Value := r.flatMap dc
theorem dcs_length : ∀ r : List S79, (dcs r).length = r.length * 8
  | [] => rfl
  | x :: xs => by
    have := dcs_length xs
    simp only [dcs, List.flatMap_cons, List.length_append] at this ⊢
    rw [this]
    simp [dc]; omega
theorem dcs_snoc (r : List S79) (x : S79) : dcs (r ++ [x]) = dcs r ++ dc x := by simp [dcs]
theorem dcs_get : ∀ (r : List S79) (j i : Nat) (p : S79) (u : Value), r[j]? = some p → (dc p)[i]? = some u → (dcs r)[j * 8 + i]? = some u
  | x :: xs, 0, i, p, u, h1, h2 => by
    obtain rfl : x = p := by simpa using h1
    have hi : i < (dc x).length := (List.getElem?_eq_some_iff.1 h2).1
    simp only [dcs, List.flatMap_cons, Nat.zero_mul, Nat.zero_add]
    rw [List.getElem?_append_left hi]
    exact h2
  | x :: xs, j + 1, i, p, u, h1, h2 => by
    have h3 := dcs_get xs j i p u (by simpa using h1) h2
    have hl : (dc x).length = 8 := rfl
    simp only [dcs, List.flatMap_cons] at h3 ⊢
    rw [List.getElem?_append_right (by omega), hl, show (j + 1) * 8 + i - 8 = j * 8 + i by omega]
    exact h3
  | [], j, i, p, u, h1, h2 => by simp at h1

theorem C_of_own79 {w : World} {base : Nat} {v : Value} {xs : List S79} (h : w.ownsRow base 79 8 v xs.length (dcs xs)) : ∃ (A : Option Addr) (cap : Nat), v = .slice A xs.length cap ∧ xs.length ≤ cap ∧ k79.C w A xs.length xs := by
  rcases Nat.eq_zero_or_pos xs.length with h0 | h0
  · have hx : xs = [] := List.eq_nil_of_length_eq_zero h0
    subst hx
    rcases h.2 with ⟨rfl, _⟩ | ⟨g, cap, cur, rfl, _⟩
    · exact ⟨none, 0, rfl, Nat.le_refl _, rfl, by simp, fun h => absurd h (by simp)⟩
    · exact ⟨_, cap, rfl, by simp, rfl, by simp, fun h => absurd h (by simp)⟩
  · obtain ⟨g, cap, rfl, _, _⟩ := h.form h0
    have hc : xs.length ≤ cap ∧ cap ≤ maxLen := by
      rcases h.2 with ⟨h1, _⟩ | ⟨g', cap', cur, h1, _, _, hc, hm, _⟩
      · cases h1
      · injection h1 with _ _ h3
        omega
    refine ⟨_, cap, rfl, hc.1, rfl, by have := hc.2; simp only [maxLen] at this; omega, fun _ => ⟨_, rfl, fun j p hj => ⟨dc p, rfl, k79_mk w p, fun i u hu => ?_⟩⟩⟩
    exact h.cells (g := g) rfl (j * 8 + i) u (dcs_get xs j i p u hj hu)

/-- A deed written into a block. -/
theorem dc_put {W : World} {g : Nat} {cs : Array Value} (h : W.heap[g]? = some (.cells cs 79 (0, 0))) (hs : cs.size = 8) (a0 a1 a2 a3 a4 a5 : Value) (a6 a7 : Value) :
    ((((((((W.setCell ⟨g, 0, none⟩ a0).setCell ⟨g, 1, none⟩ a1).setCell ⟨g, 2, none⟩ a2).setCell ⟨g, 3, none⟩ a3).setCell ⟨g, 4, none⟩ a4).setCell ⟨g, 5, none⟩ a5).setCell ⟨g, 6, none⟩ a6).setCell ⟨g, 7, none⟩ a7).heap[g]? = some (.cells #[a0, a1, a2, a3, a4, a5, a6, a7] 79 (0, 0)) := by
  obtain ⟨l⟩ := cs
  match l, hs with
  | [b0, b1, b2, b3, b4, b5, b6, b7], _ =>
    have e0 := blk_put h 0 a0 (cs' := #[a0, b1, b2, b3, b4, b5, b6, b7]) rfl
    have e1 := blk_put e0 1 a1 (cs' := #[a0, a1, b2, b3, b4, b5, b6, b7]) rfl
    have e2 := blk_put e1 2 a2 (cs' := #[a0, a1, a2, b3, b4, b5, b6, b7]) rfl
    have e3 := blk_put e2 3 a3 (cs' := #[a0, a1, a2, a3, b4, b5, b6, b7]) rfl
    have e4 := blk_put e3 4 a4 (cs' := #[a0, a1, a2, a3, a4, b5, b6, b7]) rfl
    have e5 := blk_put e4 5 a5 (cs' := #[a0, a1, a2, a3, a4, a5, b6, b7]) rfl
    have e6 := blk_put e5 6 a6 (cs' := #[a0, a1, a2, a3, a4, a5, a6, b7]) rfl
    exact blk_put e6 7 a7 (cs' := #[a0, a1, a2, a3, a4, a5, a6, a7]) rfl


theorem C79_take {w : World} {A : Option Addr} {l : List S79} {m : Nat} (h : k79.C w A l.length l) (hm : m ≤ l.length) : k79.C w A m (l.take m) :=
  ⟨by simp; omega, Nat.le_trans hm h.2.1, fun h0 => by
    obtain ⟨ad, e, hh⟩ := h.2.2 (by omega)
    exact ⟨ad, e, fun j p hj => hh j p (by
      have : j < (l.take m).length := (List.getElem?_eq_some_iff.1 hj).1
      rw [List.getElem?_take] at hj
      split at hj
      · exact hj
      · cases hj)⟩⟩
theorem one_far (W : World) (g i : Nat) (a : Value) : W.grownBy (W.setCell ⟨g, i, none⟩ a) (some g) :=
  ⟨rfl, rfl, rfl, by simp [World.setCell], fun k hk hne => Below.heap_setCell _ _ _ k (fun h => hne (by rw [h]))⟩
theorem grown_trans {a b c : World} {r : Option Nat} (h : a.grownBy b r) (k : b.grownBy c r) : a.grownBy c r :=
  ⟨k.os.trans h.os, k.tape.trans h.tape, k.output.trans h.output, Nat.le_trans h.size k.size, fun i hi hne => (k.block i (Nat.lt_of_lt_of_le hi h.size) hne).trans (h.block i hi hne)⟩
theorem dc_far (W : World) (g : Nat) (a0 a1 a2 a3 a4 a5 : Value) (a6 a7 : Value) :
    W.grownBy ((((((((W.setCell ⟨g, 0, none⟩ a0).setCell ⟨g, 1, none⟩ a1).setCell ⟨g, 2, none⟩ a2).setCell ⟨g, 3, none⟩ a3).setCell ⟨g, 4, none⟩ a4).setCell ⟨g, 5, none⟩ a5).setCell ⟨g, 6, none⟩ a6).setCell ⟨g, 7, none⟩ a7) (some g) := by
  have e1 := grown_trans (one_far W g 0 a0) (one_far _ g 1 a1)
  have e2 := grown_trans e1 (one_far _ g 2 a2)
  have e3 := grown_trans e2 (one_far _ g 3 a3)
  have e4 := grown_trans e3 (one_far _ g 4 a4)
  have e5 := grown_trans e4 (one_far _ g 5 a5)
  have e6 := grown_trans e5 (one_far _ g 6 a6)
  exact grown_trans e6 (one_far _ g 7 a7)

theorem new_at_size {W : World} {o : Obj} {n : Nat} (h : W.heap.size = n) : (W.alloc o).heap[n]? = some o := h ▸ blk_new W o
/-- What a store into the deed's own block leaves. -/
theorem some_keep {w w2 w3 : World} {g0 q : Nat} {v : Value} {xs : List Value} (hg : w2.grownBy w3 (some g0)) (HG : w.heap.size ≤ g0) (HB : Below w.heap.size w w2) (HO : w2.ownsRow w.heap.size 79 8 v q xs) (HN : some g0 ≠ v.ownBlock) :
    Aside0 (Below w.heap.size w w3) ∧ Aside0 (w3.ownsRow w.heap.size 79 8 v q xs) :=
  ⟨⟨pw_below_grown HB (some g0) HB.size hg (fun k hk => by obtain rfl := Option.some.inj hk; exact HG)⟩, ⟨HO.kept hg (.inr (Ne.symm HN))⟩⟩

/-- What one round leaves. -/
theorem some_round {w wr w2 : World} {v v' : Value} {k : Nat} {r : List S79} {y : S79} (hr : r.length = k) (HO : wr.ownsRow w.heap.size 79 8 v k (dcs r)) (HB : Below w.heap.size w wr) {o : Obj}
    (hown : w2.ownsRow w.heap.size 79 8 v' (k + 1) (dcs r ++ dc y)) (hg : (wr.alloc o).grownBy w2 v.ownBlock) :
    (r ++ [y]).length = k + 1 ∧ Aside0 (w2.ownsRow w.heap.size 79 8 v' (k + 1) (dcs (r ++ [y]))) ∧ Aside0 (Below w.heap.size w w2) := by
  refine ⟨by simp [hr], ⟨?_⟩, ⟨?_⟩⟩
  · rw [dcs_snoc]
    exact hown
  · exact Below.grown (below_alloc HB _) hg (below_alloc HB _).size (fun q hq => own_base HO q hq)


set_option maxHeartbeats 8000000 in
set_option maxRecDepth 100000 in
theorem some_short {A : Option Addr} {c : Nat} {l : List S79} {w : World} (hl : k79.C w A l.length l) (h60 : l.length ≤ 60) :
    Calls Try.prog 40 #[.slice A l.length c] w fun e w' => ∃ (A' : Option Addr) (c' : Nat) (r : List S79), e = .returned (.slice A' r.length c') ∧ r.length ≤ 60 ∧ k79.C w' A' r.length r ∧ (∀ ad, A' = some ad → w.heap.size ≤ ad.block) ∧ Below w.heap.size w w' := by
  obtain ⟨i0, hi, hz0, hz1, hz2⟩ := info_parts info79
  have HL := Aside0.mk hl
  clear hl
  have hd0 : decide (60 < (l.length : Int)) = false := decide_eq_false (by omega)
  have hd1 : decide (60 < l.length) = false := decide_eq_false (by omega)
  go_enter Try.func40, Try.ntmps40
  go_wp2_with fail
  go_loopw [3, 4] (fun v3 v4 wr => ∃ r : List S79, r.length ≤ l.length ∧ v4 = .int .i64 r.length ∧ Aside0 (wr.ownsRow w.heap.size 79 8 v3 r.length (dcs r)) ∧ Aside0 (Below w.heap.size w wr)) (fun _ v4 _ => l.length - (intOf v4).toNat)
  case atStart => exact ⟨[], Nat.zero_le _, rfl, ⟨World.ownsRow_nil _ _ _ _⟩, ⟨Below.refl _ _⟩⟩
  case round =>
    obtain ⟨r, hk, rfl, HO, HB⟩ := hrel
    by_cases hlt : r.length < l.length
    · obtain ⟨ad, rfl, x0, x1, x2, x3, x4, x5, x6, x7⟩ := at_T79 (Kd.C_below HL.out HB.out) (r.length : Int) (by omega) (by omega)
      rw [Int.toNat_natCast] at x0 x1 x2 x3 x4 x5 x6 x7
      generalize rd_T79 l (r.length : Int) = x at *
      generalize hq : r.length = q at *
      have HQ := Aside0.mk hq
      clear hq
      by_cases hs : 200 < x.f6.size
      · have hs0 : decide (200 < (x.f6.size : Int)) = true := decide_eq_true (by omega)
        have hs1 : decide (200 < x.f6.size) = true := decide_eq_true hs
        go_wp2_with (first | ((with_reducible refine gate_dst (N := 5) rfl ?_); refine box_event ?hg (N := 5) ?hd (cs := #[.int .i64 0, .int .i64 0, .int .i64 0, .int .i64 0, .int .i64 0, .int .i64 0, .string (⟨#[]⟩ : ByteArray), .bool false]) (t := 79) ?hr ?_; (case hd => rfl); (case hg => rfl); (case hr => first | (go_simp; done) | (go_simp; rfl)); intro g0 hg w2 hbox hb; have K2 := Aside0.mk hbox; have HB2 := Aside0.mk (below_step HB.out hb); have HG := Aside0.mk (show w.heap.size ≤ g0 from hg ▸ HB.out.size); have HO2 := Aside0.mk (pw_own_below HO.out hb); have HN := Aside0.mk (show some g0 ≠ u3.ownBlock from fun h => by have := (HO.out.lt g0 h.symm).2; omega); replace x0 := pw_cell_below hb x0; replace x1 := pw_cell_below hb x1; replace x2 := pw_cell_below hb x2; replace x3 := pw_cell_below hb x3; replace x4 := pw_cell_below hb x4; replace x5 := pw_cell_below hb x5; replace x6 := pw_cell_below hb x6; replace x7 := pw_cell_below hb x7; clear hb hbox hg; have z0 : w2.cell? ⟨g0, 0, none⟩ = some (.int .i64 0) := (blk_cell K2.out 0).trans rfl; have zf0 : w2.frozen? ⟨g0, 0, none⟩ = false := blk_frozen K2.out 0; have z1 : w2.cell? ⟨g0, 1, none⟩ = some (.int .i64 0) := (blk_cell K2.out 1).trans rfl; have zf1 : w2.frozen? ⟨g0, 1, none⟩ = false := blk_frozen K2.out 1; have z2 : w2.cell? ⟨g0, 2, none⟩ = some (.int .i64 0) := (blk_cell K2.out 2).trans rfl; have zf2 : w2.frozen? ⟨g0, 2, none⟩ = false := blk_frozen K2.out 2; have z3 : w2.cell? ⟨g0, 3, none⟩ = some (.int .i64 0) := (blk_cell K2.out 3).trans rfl; have zf3 : w2.frozen? ⟨g0, 3, none⟩ = false := blk_frozen K2.out 3; have z4 : w2.cell? ⟨g0, 4, none⟩ = some (.int .i64 0) := (blk_cell K2.out 4).trans rfl; have zf4 : w2.frozen? ⟨g0, 4, none⟩ = false := blk_frozen K2.out 4; have z5 : w2.cell? ⟨g0, 5, none⟩ = some (.int .i64 0) := (blk_cell K2.out 5).trans rfl; have zf5 : w2.frozen? ⟨g0, 5, none⟩ = false := blk_frozen K2.out 5; have z6 : w2.cell? ⟨g0, 6, none⟩ = some (.string (⟨#[]⟩ : ByteArray)) := (blk_cell K2.out 6).trans rfl; have zf6 : w2.frozen? ⟨g0, 6, none⟩ = false := blk_frozen K2.out 6; have z7 : w2.cell? ⟨g0, 7, none⟩ = some (.bool false) := (blk_cell K2.out 7).trans rfl; have zf7 : w2.frozen? ⟨g0, 7, none⟩ = false := blk_frozen K2.out 7; obtain ⟨HB3, HO3⟩ := some_keep (dc_far w2 g0 (.int .i64 x.f0) (.int .i64 x.f1) (.int .i64 x.f2) (.int .i64 x.f3) (.int .i64 x.f4) (.int .i64 x.f5) (.string (x.f6)) (.bool x.f7)) HG.out HB2.out HO2.out HN.out; have K3 := Aside0.mk (dc_put K2.out rfl (.int .i64 x.f0) (.int .i64 x.f1) (.int .i64 x.f2) (.int .i64 x.f3) (.int .i64 x.f4) (.int .i64 x.f5) (.string (x.f6)) (.bool x.f7))) | ((with_reducible refine gate_dst (N := 25) rfl ?_); clear z0 zf0 z1 zf1 z2 zf2 z3 zf3 z4 zf4 z5 zf5 z6 zf6 z7 zf7; clear K2 HB2 HO2 x0 x1 x2 x3 x4 x5 x6 x7; generalize ((((((((w2.setCell ⟨g0, 0, none⟩ (.int .i64 x.f0)).setCell ⟨g0, 1, none⟩ (.int .i64 x.f1)).setCell ⟨g0, 2, none⟩ (.int .i64 x.f2)).setCell ⟨g0, 3, none⟩ (.int .i64 x.f3)).setCell ⟨g0, 4, none⟩ (.int .i64 x.f4)).setCell ⟨g0, 5, none⟩ (.int .i64 x.f5)).setCell ⟨g0, 6, none⟩ (.string (x.f6))).setCell ⟨g0, 7, none⟩ (.bool x.f7)) = w3 at *; obtain ⟨HB4, HO4⟩ := some_keep (one_far w3 g0 6 (.string (x.f6.extract 0 200))) HG.out HB3.out HO3.out HN.out; clear HB3 HO3 HB HO HL; have y0 : w3.cell? ⟨g0, 0, none⟩ = some (.int .i64 x.f0) := (blk_cell K3.out 0).trans rfl; have yf0 : w3.frozen? ⟨g0, 0, none⟩ = false := blk_frozen K3.out 0; have y1 : w3.cell? ⟨g0, 1, none⟩ = some (.int .i64 x.f1) := (blk_cell K3.out 1).trans rfl; have yf1 : w3.frozen? ⟨g0, 1, none⟩ = false := blk_frozen K3.out 1; have y2 : w3.cell? ⟨g0, 2, none⟩ = some (.int .i64 x.f2) := (blk_cell K3.out 2).trans rfl; have yf2 : w3.frozen? ⟨g0, 2, none⟩ = false := blk_frozen K3.out 2; have y3 : w3.cell? ⟨g0, 3, none⟩ = some (.int .i64 x.f3) := (blk_cell K3.out 3).trans rfl; have yf3 : w3.frozen? ⟨g0, 3, none⟩ = false := blk_frozen K3.out 3; have y4 : w3.cell? ⟨g0, 4, none⟩ = some (.int .i64 x.f4) := (blk_cell K3.out 4).trans rfl; have yf4 : w3.frozen? ⟨g0, 4, none⟩ = false := blk_frozen K3.out 4; have y5 : w3.cell? ⟨g0, 5, none⟩ = some (.int .i64 x.f5) := (blk_cell K3.out 5).trans rfl; have yf5 : w3.frozen? ⟨g0, 5, none⟩ = false := blk_frozen K3.out 5; have y6 : w3.cell? ⟨g0, 6, none⟩ = some (.string (x.f6)) := (blk_cell K3.out 6).trans rfl; have yf6 : w3.frozen? ⟨g0, 6, none⟩ = false := blk_frozen K3.out 6; have y7 : w3.cell? ⟨g0, 7, none⟩ = some (.bool x.f7) := (blk_cell K3.out 7).trans rfl; have yf7 : w3.frozen? ⟨g0, 7, none⟩ = false := blk_frozen K3.out 7; go_wp2_with (at_builtin; refine wpList_append_own _ rfl (.tmp 29) (.tmp 31) 55 rfl w.heap.size 79 i0 _ 8 72 Try.underlying55 hi hz0 hz1 hz2 rfl (by decide) _ q (dcs r) rfl (World.ownsRow.alloc HO4.out _) ⟨w3.heap.size, 0, none⟩ 1 1 (dc (⟨x.f0, x.f1, x.f2, x.f3, x.f4, x.f5, x.f6.extract 0 200, x.f7⟩ : S79)) rfl rfl ?ap1 ?ap2 ?ap3 ?ap4 ?ap5 ?_)))
        case ap1 =>
          intro j u hj
          rw [addr_add, Nat.zero_add]
          refine (cell_of_row _ w3.heap.size j #[.int .i64 x.f0, .int .i64 x.f1, .int .i64 x.f2, .int .i64 x.f3, .int .i64 x.f4, .int .i64 x.f5, .string (x.f6.extract 0 200), .bool x.f7] 79 (0, 0) (new_at_size (by simp [World.setCell]))).trans ?_
          simpa [dc] using hj
        case ap2 =>
          intro u hu
          simp only [dc, List.mem_cons, List.not_mem_nil, or_false] at hu
          rcases hu with rfl | rfl | rfl | rfl | rfl | rfl | rfl | rfl <;> rfl
        case ap3 => simp only [maxLen]; omega
        case ap4 => omega
        case ap5 => exact (below_alloc HB4.out _).size
        intro v' w5 hown hgrow _
        obtain ⟨R0, R1, R2⟩ := some_round (y := (⟨x.f0, x.f1, x.f2, x.f3, x.f4, x.f5, x.f6.extract 0 200, x.f7⟩ : S79)) HQ.out HO4.out HB4.out hown hgrow
        clear hown hgrow HO4 HB4
        go_wp2_with fail
        go_roundw
        case rel => exact ⟨r ++ [(⟨x.f0, x.f1, x.f2, x.f3, x.f4, x.f5, x.f6.extract 0 200, x.f7⟩ : S79)], by rw [R0]; omega, by rw [R0]; go_num, by rw [R0]; exact R1, R2⟩
        case measure => simp [intOf]; omega
      · have hs0 : decide (200 < (x.f6.size : Int)) = false := decide_eq_false (by omega)
        have hs1 : decide (200 < x.f6.size) = false := decide_eq_false hs
        go_wp2_with (first | ((with_reducible refine gate_dst (N := 5) rfl ?_); refine box_event ?hg (N := 5) ?hd (cs := #[.int .i64 0, .int .i64 0, .int .i64 0, .int .i64 0, .int .i64 0, .int .i64 0, .string (⟨#[]⟩ : ByteArray), .bool false]) (t := 79) ?hr ?_; (case hd => rfl); (case hg => rfl); (case hr => first | (go_simp; done) | (go_simp; rfl)); intro g0 hg w2 hbox hb; have K2 := Aside0.mk hbox; have HB2 := Aside0.mk (below_step HB.out hb); have HG := Aside0.mk (show w.heap.size ≤ g0 from hg ▸ HB.out.size); have HO2 := Aside0.mk (pw_own_below HO.out hb); have HN := Aside0.mk (show some g0 ≠ u3.ownBlock from fun h => by have := (HO.out.lt g0 h.symm).2; omega); replace x0 := pw_cell_below hb x0; replace x1 := pw_cell_below hb x1; replace x2 := pw_cell_below hb x2; replace x3 := pw_cell_below hb x3; replace x4 := pw_cell_below hb x4; replace x5 := pw_cell_below hb x5; replace x6 := pw_cell_below hb x6; replace x7 := pw_cell_below hb x7; clear hb hbox hg; have z0 : w2.cell? ⟨g0, 0, none⟩ = some (.int .i64 0) := (blk_cell K2.out 0).trans rfl; have zf0 : w2.frozen? ⟨g0, 0, none⟩ = false := blk_frozen K2.out 0; have z1 : w2.cell? ⟨g0, 1, none⟩ = some (.int .i64 0) := (blk_cell K2.out 1).trans rfl; have zf1 : w2.frozen? ⟨g0, 1, none⟩ = false := blk_frozen K2.out 1; have z2 : w2.cell? ⟨g0, 2, none⟩ = some (.int .i64 0) := (blk_cell K2.out 2).trans rfl; have zf2 : w2.frozen? ⟨g0, 2, none⟩ = false := blk_frozen K2.out 2; have z3 : w2.cell? ⟨g0, 3, none⟩ = some (.int .i64 0) := (blk_cell K2.out 3).trans rfl; have zf3 : w2.frozen? ⟨g0, 3, none⟩ = false := blk_frozen K2.out 3; have z4 : w2.cell? ⟨g0, 4, none⟩ = some (.int .i64 0) := (blk_cell K2.out 4).trans rfl; have zf4 : w2.frozen? ⟨g0, 4, none⟩ = false := blk_frozen K2.out 4; have z5 : w2.cell? ⟨g0, 5, none⟩ = some (.int .i64 0) := (blk_cell K2.out 5).trans rfl; have zf5 : w2.frozen? ⟨g0, 5, none⟩ = false := blk_frozen K2.out 5; have z6 : w2.cell? ⟨g0, 6, none⟩ = some (.string (⟨#[]⟩ : ByteArray)) := (blk_cell K2.out 6).trans rfl; have zf6 : w2.frozen? ⟨g0, 6, none⟩ = false := blk_frozen K2.out 6; have z7 : w2.cell? ⟨g0, 7, none⟩ = some (.bool false) := (blk_cell K2.out 7).trans rfl; have zf7 : w2.frozen? ⟨g0, 7, none⟩ = false := blk_frozen K2.out 7; obtain ⟨HB3, HO3⟩ := some_keep (dc_far w2 g0 (.int .i64 x.f0) (.int .i64 x.f1) (.int .i64 x.f2) (.int .i64 x.f3) (.int .i64 x.f4) (.int .i64 x.f5) (.string (x.f6)) (.bool x.f7)) HG.out HB2.out HO2.out HN.out) | (at_builtin; refine wpList_append_own _ rfl (.tmp 29) (.tmp 31) 55 rfl w.heap.size 79 i0 _ 8 72 Try.underlying55 hi hz0 hz1 hz2 rfl (by decide) _ q (dcs r) rfl (World.ownsRow.alloc HO3.out _) ⟨w2.heap.size, 0, none⟩ 1 1 (dc (⟨x.f0, x.f1, x.f2, x.f3, x.f4, x.f5, x.f6, x.f7⟩ : S79)) rfl rfl ?aq1 ?aq2 ?aq3 ?aq4 ?aq5 ?_))
        case aq1 =>
          intro j u hj
          rw [addr_add, Nat.zero_add]
          refine (cell_of_row _ w2.heap.size j #[.int .i64 x.f0, .int .i64 x.f1, .int .i64 x.f2, .int .i64 x.f3, .int .i64 x.f4, .int .i64 x.f5, .string (x.f6), .bool x.f7] 79 (0, 0) (new_at_size (by simp [World.setCell]))).trans ?_
          simpa [dc] using hj
        case aq2 =>
          intro u hu
          simp only [dc, List.mem_cons, List.not_mem_nil, or_false] at hu
          rcases hu with rfl | rfl | rfl | rfl | rfl | rfl | rfl | rfl <;> rfl
        case aq3 => simp only [maxLen]; omega
        case aq4 => omega
        case aq5 => exact (below_alloc HB3.out _).size
        intro v' w5 hown hgrow _
        obtain ⟨R0, R1, R2⟩ := some_round (y := (⟨x.f0, x.f1, x.f2, x.f3, x.f4, x.f5, x.f6, x.f7⟩ : S79)) HQ.out HO3.out HB3.out hown hgrow
        clear hown hgrow HO HB HO2 HB2 HO3 HB3
        go_wp2_with fail
        go_roundw
        case rel => exact ⟨r ++ [(⟨x.f0, x.f1, x.f2, x.f3, x.f4, x.f5, x.f6, x.f7⟩ : S79)], by rw [R0]; omega, by rw [R0]; go_num, by rw [R0]; exact R1, R2⟩
        case measure => simp [intOf]; omega
    · obtain ⟨A', c', hv, hc, hC⟩ := C_of_own79 HO.out
      have HV := Aside0.mk hv
      have HC := Aside0.mk hC
      have HF := Aside0.mk (show ∀ ad, A' = some ad → w.heap.size ≤ ad.block from fun ad h => own_base HO.out ad.block (by rw [hv, h]; rfl))
      clear hv hC
      go_wp2_with fail
      go_ret
      exact ⟨A', c', r, by rw [← HV.out]; rfl, by omega, HC.out, HF.out, HB.out⟩

set_option maxHeartbeats 8000000 in
set_option maxRecDepth 100000 in
theorem some_long {A : Option Addr} {c : Nat} {l0 : List S79} {w : World} (hl0 : k79.C w A l0.length l0) (hc0 : l0.length ≤ c) (h60l : 60 < l0.length) :
    Calls Try.prog 40 #[.slice A l0.length c] w fun e w' => ∃ (A' : Option Addr) (c' : Nat) (r : List S79), e = .returned (.slice A' r.length c') ∧ r.length ≤ 60 ∧ k79.C w' A' r.length r ∧ (∀ ad, A' = some ad → w.heap.size ≤ ad.block) ∧ Below w.heap.size w w' := by
  obtain ⟨i0, hi, hz0, hz1, hz2⟩ := info_parts info79
  have hcut := cut_to (P := Try.prog) 55 79 .i64 Try.underlying55 hi A l0.length c 60 (by omega) (by omega) hc0
  obtain ⟨l, hll, hl⟩ : ∃ l : List S79, l.length = 60 ∧ k79.C w A l.length l := ⟨l0.take 60, by simp; omega, by
    rw [List.length_take, Nat.min_eq_left (by omega)]
    exact C79_take hl0 (by omega)⟩
  rw [show (60 : Int).toNat = l.length from hll.symm] at hcut
  have h60 : l.length ≤ 60 := by omega
  have HL := Aside0.mk hl
  clear hl hl0
  have hd0 : decide (60 < (l0.length : Int)) = true := decide_eq_true (by omega)
  have hd1 : decide (60 < l0.length) = true := decide_eq_true (by omega)
  go_enter Try.func40, Try.ntmps40
  go_wp2_with fail
  clear hcut hd0 hd1
  go_loopw [3, 4] (fun v3 v4 wr => ∃ r : List S79, r.length ≤ l.length ∧ v4 = .int .i64 r.length ∧ Aside0 (wr.ownsRow w.heap.size 79 8 v3 r.length (dcs r)) ∧ Aside0 (Below w.heap.size w wr)) (fun _ v4 _ => l.length - (intOf v4).toNat)
  case atStart => exact ⟨[], Nat.zero_le _, rfl, ⟨World.ownsRow_nil _ _ _ _⟩, ⟨Below.refl _ _⟩⟩
  case round =>
    obtain ⟨r, hk, rfl, HO, HB⟩ := hrel
    by_cases hlt : r.length < l.length
    · obtain ⟨ad, rfl, x0, x1, x2, x3, x4, x5, x6, x7⟩ := at_T79 (Kd.C_below HL.out HB.out) (r.length : Int) (by omega) (by omega)
      rw [Int.toNat_natCast] at x0 x1 x2 x3 x4 x5 x6 x7
      generalize rd_T79 l (r.length : Int) = x at *
      generalize hq : r.length = q at *
      have HQ := Aside0.mk hq
      clear hq
      by_cases hs : 200 < x.f6.size
      · have hs0 : decide (200 < (x.f6.size : Int)) = true := decide_eq_true (by omega)
        have hs1 : decide (200 < x.f6.size) = true := decide_eq_true hs
        go_wp2_with (first | ((with_reducible refine gate_dst (N := 5) rfl ?_); refine box_event ?hg (N := 5) ?hd (cs := #[.int .i64 0, .int .i64 0, .int .i64 0, .int .i64 0, .int .i64 0, .int .i64 0, .string (⟨#[]⟩ : ByteArray), .bool false]) (t := 79) ?hr ?_; (case hd => rfl); (case hg => rfl); (case hr => first | (go_simp; done) | (go_simp; rfl)); intro g0 hg w2 hbox hb; have K2 := Aside0.mk hbox; have HB2 := Aside0.mk (below_step HB.out hb); have HG := Aside0.mk (show w.heap.size ≤ g0 from hg ▸ HB.out.size); have HO2 := Aside0.mk (pw_own_below HO.out hb); have HN := Aside0.mk (show some g0 ≠ u3.ownBlock from fun h => by have := (HO.out.lt g0 h.symm).2; omega); replace x0 := pw_cell_below hb x0; replace x1 := pw_cell_below hb x1; replace x2 := pw_cell_below hb x2; replace x3 := pw_cell_below hb x3; replace x4 := pw_cell_below hb x4; replace x5 := pw_cell_below hb x5; replace x6 := pw_cell_below hb x6; replace x7 := pw_cell_below hb x7; clear hb hbox hg; have z0 : w2.cell? ⟨g0, 0, none⟩ = some (.int .i64 0) := (blk_cell K2.out 0).trans rfl; have zf0 : w2.frozen? ⟨g0, 0, none⟩ = false := blk_frozen K2.out 0; have z1 : w2.cell? ⟨g0, 1, none⟩ = some (.int .i64 0) := (blk_cell K2.out 1).trans rfl; have zf1 : w2.frozen? ⟨g0, 1, none⟩ = false := blk_frozen K2.out 1; have z2 : w2.cell? ⟨g0, 2, none⟩ = some (.int .i64 0) := (blk_cell K2.out 2).trans rfl; have zf2 : w2.frozen? ⟨g0, 2, none⟩ = false := blk_frozen K2.out 2; have z3 : w2.cell? ⟨g0, 3, none⟩ = some (.int .i64 0) := (blk_cell K2.out 3).trans rfl; have zf3 : w2.frozen? ⟨g0, 3, none⟩ = false := blk_frozen K2.out 3; have z4 : w2.cell? ⟨g0, 4, none⟩ = some (.int .i64 0) := (blk_cell K2.out 4).trans rfl; have zf4 : w2.frozen? ⟨g0, 4, none⟩ = false := blk_frozen K2.out 4; have z5 : w2.cell? ⟨g0, 5, none⟩ = some (.int .i64 0) := (blk_cell K2.out 5).trans rfl; have zf5 : w2.frozen? ⟨g0, 5, none⟩ = false := blk_frozen K2.out 5; have z6 : w2.cell? ⟨g0, 6, none⟩ = some (.string (⟨#[]⟩ : ByteArray)) := (blk_cell K2.out 6).trans rfl; have zf6 : w2.frozen? ⟨g0, 6, none⟩ = false := blk_frozen K2.out 6; have z7 : w2.cell? ⟨g0, 7, none⟩ = some (.bool false) := (blk_cell K2.out 7).trans rfl; have zf7 : w2.frozen? ⟨g0, 7, none⟩ = false := blk_frozen K2.out 7; obtain ⟨HB3, HO3⟩ := some_keep (dc_far w2 g0 (.int .i64 x.f0) (.int .i64 x.f1) (.int .i64 x.f2) (.int .i64 x.f3) (.int .i64 x.f4) (.int .i64 x.f5) (.string (x.f6)) (.bool x.f7)) HG.out HB2.out HO2.out HN.out; have K3 := Aside0.mk (dc_put K2.out rfl (.int .i64 x.f0) (.int .i64 x.f1) (.int .i64 x.f2) (.int .i64 x.f3) (.int .i64 x.f4) (.int .i64 x.f5) (.string (x.f6)) (.bool x.f7))) | ((with_reducible refine gate_dst (N := 25) rfl ?_); clear z0 zf0 z1 zf1 z2 zf2 z3 zf3 z4 zf4 z5 zf5 z6 zf6 z7 zf7; clear K2 HB2 HO2 x0 x1 x2 x3 x4 x5 x6 x7; generalize ((((((((w2.setCell ⟨g0, 0, none⟩ (.int .i64 x.f0)).setCell ⟨g0, 1, none⟩ (.int .i64 x.f1)).setCell ⟨g0, 2, none⟩ (.int .i64 x.f2)).setCell ⟨g0, 3, none⟩ (.int .i64 x.f3)).setCell ⟨g0, 4, none⟩ (.int .i64 x.f4)).setCell ⟨g0, 5, none⟩ (.int .i64 x.f5)).setCell ⟨g0, 6, none⟩ (.string (x.f6))).setCell ⟨g0, 7, none⟩ (.bool x.f7)) = w3 at *; obtain ⟨HB4, HO4⟩ := some_keep (one_far w3 g0 6 (.string (x.f6.extract 0 200))) HG.out HB3.out HO3.out HN.out; clear HB3 HO3 HB HO HL; have y0 : w3.cell? ⟨g0, 0, none⟩ = some (.int .i64 x.f0) := (blk_cell K3.out 0).trans rfl; have yf0 : w3.frozen? ⟨g0, 0, none⟩ = false := blk_frozen K3.out 0; have y1 : w3.cell? ⟨g0, 1, none⟩ = some (.int .i64 x.f1) := (blk_cell K3.out 1).trans rfl; have yf1 : w3.frozen? ⟨g0, 1, none⟩ = false := blk_frozen K3.out 1; have y2 : w3.cell? ⟨g0, 2, none⟩ = some (.int .i64 x.f2) := (blk_cell K3.out 2).trans rfl; have yf2 : w3.frozen? ⟨g0, 2, none⟩ = false := blk_frozen K3.out 2; have y3 : w3.cell? ⟨g0, 3, none⟩ = some (.int .i64 x.f3) := (blk_cell K3.out 3).trans rfl; have yf3 : w3.frozen? ⟨g0, 3, none⟩ = false := blk_frozen K3.out 3; have y4 : w3.cell? ⟨g0, 4, none⟩ = some (.int .i64 x.f4) := (blk_cell K3.out 4).trans rfl; have yf4 : w3.frozen? ⟨g0, 4, none⟩ = false := blk_frozen K3.out 4; have y5 : w3.cell? ⟨g0, 5, none⟩ = some (.int .i64 x.f5) := (blk_cell K3.out 5).trans rfl; have yf5 : w3.frozen? ⟨g0, 5, none⟩ = false := blk_frozen K3.out 5; have y6 : w3.cell? ⟨g0, 6, none⟩ = some (.string (x.f6)) := (blk_cell K3.out 6).trans rfl; have yf6 : w3.frozen? ⟨g0, 6, none⟩ = false := blk_frozen K3.out 6; have y7 : w3.cell? ⟨g0, 7, none⟩ = some (.bool x.f7) := (blk_cell K3.out 7).trans rfl; have yf7 : w3.frozen? ⟨g0, 7, none⟩ = false := blk_frozen K3.out 7; go_wp2_with (at_builtin; refine wpList_append_own _ rfl (.tmp 29) (.tmp 31) 55 rfl w.heap.size 79 i0 _ 8 72 Try.underlying55 hi hz0 hz1 hz2 rfl (by decide) _ q (dcs r) rfl (World.ownsRow.alloc HO4.out _) ⟨w3.heap.size, 0, none⟩ 1 1 (dc (⟨x.f0, x.f1, x.f2, x.f3, x.f4, x.f5, x.f6.extract 0 200, x.f7⟩ : S79)) rfl rfl ?ap1 ?ap2 ?ap3 ?ap4 ?ap5 ?_)))
        case ap1 =>
          intro j u hj
          rw [addr_add, Nat.zero_add]
          refine (cell_of_row _ w3.heap.size j #[.int .i64 x.f0, .int .i64 x.f1, .int .i64 x.f2, .int .i64 x.f3, .int .i64 x.f4, .int .i64 x.f5, .string (x.f6.extract 0 200), .bool x.f7] 79 (0, 0) (new_at_size (by simp [World.setCell]))).trans ?_
          simpa [dc] using hj
        case ap2 =>
          intro u hu
          simp only [dc, List.mem_cons, List.not_mem_nil, or_false] at hu
          rcases hu with rfl | rfl | rfl | rfl | rfl | rfl | rfl | rfl <;> rfl
        case ap3 => simp only [maxLen]; omega
        case ap4 => omega
        case ap5 => exact (below_alloc HB4.out _).size
        intro v' w5 hown hgrow _
        obtain ⟨R0, R1, R2⟩ := some_round (y := (⟨x.f0, x.f1, x.f2, x.f3, x.f4, x.f5, x.f6.extract 0 200, x.f7⟩ : S79)) HQ.out HO4.out HB4.out hown hgrow
        clear hown hgrow HO4 HB4
        go_wp2_with fail
        go_roundw
        case rel => exact ⟨r ++ [(⟨x.f0, x.f1, x.f2, x.f3, x.f4, x.f5, x.f6.extract 0 200, x.f7⟩ : S79)], by rw [R0]; omega, by rw [R0]; go_num, by rw [R0]; exact R1, R2⟩
        case measure => simp [intOf]; omega
      · have hs0 : decide (200 < (x.f6.size : Int)) = false := decide_eq_false (by omega)
        have hs1 : decide (200 < x.f6.size) = false := decide_eq_false hs
        go_wp2_with (first | ((with_reducible refine gate_dst (N := 5) rfl ?_); refine box_event ?hg (N := 5) ?hd (cs := #[.int .i64 0, .int .i64 0, .int .i64 0, .int .i64 0, .int .i64 0, .int .i64 0, .string (⟨#[]⟩ : ByteArray), .bool false]) (t := 79) ?hr ?_; (case hd => rfl); (case hg => rfl); (case hr => first | (go_simp; done) | (go_simp; rfl)); intro g0 hg w2 hbox hb; have K2 := Aside0.mk hbox; have HB2 := Aside0.mk (below_step HB.out hb); have HG := Aside0.mk (show w.heap.size ≤ g0 from hg ▸ HB.out.size); have HO2 := Aside0.mk (pw_own_below HO.out hb); have HN := Aside0.mk (show some g0 ≠ u3.ownBlock from fun h => by have := (HO.out.lt g0 h.symm).2; omega); replace x0 := pw_cell_below hb x0; replace x1 := pw_cell_below hb x1; replace x2 := pw_cell_below hb x2; replace x3 := pw_cell_below hb x3; replace x4 := pw_cell_below hb x4; replace x5 := pw_cell_below hb x5; replace x6 := pw_cell_below hb x6; replace x7 := pw_cell_below hb x7; clear hb hbox hg; have z0 : w2.cell? ⟨g0, 0, none⟩ = some (.int .i64 0) := (blk_cell K2.out 0).trans rfl; have zf0 : w2.frozen? ⟨g0, 0, none⟩ = false := blk_frozen K2.out 0; have z1 : w2.cell? ⟨g0, 1, none⟩ = some (.int .i64 0) := (blk_cell K2.out 1).trans rfl; have zf1 : w2.frozen? ⟨g0, 1, none⟩ = false := blk_frozen K2.out 1; have z2 : w2.cell? ⟨g0, 2, none⟩ = some (.int .i64 0) := (blk_cell K2.out 2).trans rfl; have zf2 : w2.frozen? ⟨g0, 2, none⟩ = false := blk_frozen K2.out 2; have z3 : w2.cell? ⟨g0, 3, none⟩ = some (.int .i64 0) := (blk_cell K2.out 3).trans rfl; have zf3 : w2.frozen? ⟨g0, 3, none⟩ = false := blk_frozen K2.out 3; have z4 : w2.cell? ⟨g0, 4, none⟩ = some (.int .i64 0) := (blk_cell K2.out 4).trans rfl; have zf4 : w2.frozen? ⟨g0, 4, none⟩ = false := blk_frozen K2.out 4; have z5 : w2.cell? ⟨g0, 5, none⟩ = some (.int .i64 0) := (blk_cell K2.out 5).trans rfl; have zf5 : w2.frozen? ⟨g0, 5, none⟩ = false := blk_frozen K2.out 5; have z6 : w2.cell? ⟨g0, 6, none⟩ = some (.string (⟨#[]⟩ : ByteArray)) := (blk_cell K2.out 6).trans rfl; have zf6 : w2.frozen? ⟨g0, 6, none⟩ = false := blk_frozen K2.out 6; have z7 : w2.cell? ⟨g0, 7, none⟩ = some (.bool false) := (blk_cell K2.out 7).trans rfl; have zf7 : w2.frozen? ⟨g0, 7, none⟩ = false := blk_frozen K2.out 7; obtain ⟨HB3, HO3⟩ := some_keep (dc_far w2 g0 (.int .i64 x.f0) (.int .i64 x.f1) (.int .i64 x.f2) (.int .i64 x.f3) (.int .i64 x.f4) (.int .i64 x.f5) (.string (x.f6)) (.bool x.f7)) HG.out HB2.out HO2.out HN.out) | (at_builtin; refine wpList_append_own _ rfl (.tmp 29) (.tmp 31) 55 rfl w.heap.size 79 i0 _ 8 72 Try.underlying55 hi hz0 hz1 hz2 rfl (by decide) _ q (dcs r) rfl (World.ownsRow.alloc HO3.out _) ⟨w2.heap.size, 0, none⟩ 1 1 (dc (⟨x.f0, x.f1, x.f2, x.f3, x.f4, x.f5, x.f6, x.f7⟩ : S79)) rfl rfl ?aq1 ?aq2 ?aq3 ?aq4 ?aq5 ?_))
        case aq1 =>
          intro j u hj
          rw [addr_add, Nat.zero_add]
          refine (cell_of_row _ w2.heap.size j #[.int .i64 x.f0, .int .i64 x.f1, .int .i64 x.f2, .int .i64 x.f3, .int .i64 x.f4, .int .i64 x.f5, .string (x.f6), .bool x.f7] 79 (0, 0) (new_at_size (by simp [World.setCell]))).trans ?_
          simpa [dc] using hj
        case aq2 =>
          intro u hu
          simp only [dc, List.mem_cons, List.not_mem_nil, or_false] at hu
          rcases hu with rfl | rfl | rfl | rfl | rfl | rfl | rfl | rfl <;> rfl
        case aq3 => simp only [maxLen]; omega
        case aq4 => omega
        case aq5 => exact (below_alloc HB3.out _).size
        intro v' w5 hown hgrow _
        obtain ⟨R0, R1, R2⟩ := some_round (y := (⟨x.f0, x.f1, x.f2, x.f3, x.f4, x.f5, x.f6, x.f7⟩ : S79)) HQ.out HO3.out HB3.out hown hgrow
        clear hown hgrow HO HB HO2 HB2 HO3 HB3
        go_wp2_with fail
        go_roundw
        case rel => exact ⟨r ++ [(⟨x.f0, x.f1, x.f2, x.f3, x.f4, x.f5, x.f6, x.f7⟩ : S79)], by rw [R0]; omega, by rw [R0]; go_num, by rw [R0]; exact R1, R2⟩
        case measure => simp [intOf]; omega
    · obtain ⟨A', c', hv, hc, hC⟩ := C_of_own79 HO.out
      have HV := Aside0.mk hv
      have HC := Aside0.mk hC
      have HF := Aside0.mk (show ∀ ad, A' = some ad → w.heap.size ≤ ad.block from fun ad h => own_base HO.out ad.block (by rw [hv, h]; rfl))
      clear hv hC
      go_wp2_with fail
      go_ret
      exact ⟨A', c', r, by rw [← HV.out]; rfl, by omega, HC.out, HF.out, HB.out⟩

theorem some_calls {A : Option Addr} {c : Nat} {l : List S79} {w : World} (hl : k79.C w A l.length l) (hc : l.length ≤ c) :
    Calls Try.prog 40 #[.slice A l.length c] w fun e w' => ∃ (A' : Option Addr) (c' : Nat) (r : List S79), e = .returned (.slice A' r.length c') ∧ r.length ≤ 60 ∧ k79.C w' A' r.length r ∧ (∀ ad, A' = some ad → w.heap.size ≤ ad.block) ∧ Below w.heap.size w w' := by
  by_cases h : l.length ≤ 60
  · exact some_short hl h
  · exact some_long hl hc (by omega)
end Go.Proofs.Ytmpmcffhlnlejaa.MemEq
