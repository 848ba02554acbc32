/- A part of the proof of the law that its last file names: texts of this seat's author and of the kit's printer, cut to what the theorem uses. Part 14: SubAwk, SubFind, SubAll, SubNamesW, SubPairs, SubFit. -/
import Derived.Test.YtmpmcffhlnlejaaCt13
section
namespace Go.Proofs.Ytmpmcffhlnlejaa.SubEq
open Go.RowKit Go.Proofs.YtmpmcffhlnlejaaW.PrintWords Go.Proofs.YtmpmcffhlnlejaaW.PrintLast Go.Proofs.YtmpmcffhlnlejaaW.PrintMore
open Go.Proofs.Ytmpmcffhlnlejaa.PSubFits
set_option linter.unusedVariables false
set_option linter.unusedSimpArgs false
theorem C_nil {α : Type} (d : Kd α) (w : World) : d.C w none 0 [] := ⟨rfl, by omega, fun h => absurd h (by omega)⟩
theorem TyAt.bare (w : World) (k r : Int) : TyAt w ⟨k, [], [], r⟩ none 0 none 0 := ⟨C_nil _ _, Nat.le_refl _, C_nil _ _, Nat.le_refl _⟩
theorem awake_one : sameT [2] ⟨20, [], [], 0⟩ ⟨20, [], [], 2⟩ = true := by
  simp [sameT_eq, eqL, refOk, rd]
theorem awake_two : sameT [] ⟨20, [], [], 0⟩ ⟨20, [], [], 2⟩ = false := by
  simp [sameT_eq, eqL, refOk, rd]
theorem C_two (w : World) (o o' : Obj) : (Kd.int .i64).C (((w.alloc o).alloc o').alloc (.cells #[.int .i64 2] 3)) (some ⟨w.heap.size + 1 + 1, 0, none⟩) 1 [2] := by
  refine ⟨rfl, by omega, fun _ => ⟨_, rfl, fun j p hj => ?_⟩⟩
  match j, hj with
  | 0, hj =>
    obtain rfl : (2 : Int) = p := by simpa using hj
    refine ⟨[.int .i64 2], rfl, rfl, fun i u hi => ?_⟩
    match i, hi with
    | 0, hi =>
      obtain rfl : Value.int .i64 2 = u := by simpa using hi
      exact cell_third w o o' (.int .i64 2) 3 0
set_option maxHeartbeats 1000000 in
theorem awake_calls (w : World) : Calls Try.prog 19 #[] w fun e w' => e = .returned (.bool true) ∧ Below w.heap.size w w' := by
  have u25 := Try.underlying25
  go_enter Try.func19, Try.ntmps19
  go_wp2_with fail
  have hb1 := Aside0.mk (b3 w (.cells #[.int .i64 20, .slice none 0 0, .slice none 0 0, .int .i64 0] 25) (.cells #[.int .i64 20, .slice none 0 0, .slice none 0 0, .int .i64 2] 25) (.cells #[.int .i64 2] 3))
  refine (Same_calls (x := ⟨20, [], [], 0⟩) (y := ⟨20, [], [], 2⟩) (m := [2]) (M := some ⟨w.heap.size + 1 + 1, 0, none⟩) (cm := 1) (TyAt.bare _ _ _) (TyAt.bare _ _ _) (C_two w _ _) (Nat.le_refl _)).mono ?_
  rintro e w1 ⟨rfl, hb⟩
  rw [awake_one]
  have z0 : w1.cell? ⟨w.heap.size, 0, none⟩ = some (.int .i64 20) := (hb.cell (p := ⟨w.heap.size, 0, none⟩) (lt_b3 w _ _ _ 0 0 (by omega))).trans ((cell_b1 w _ _ _ _ 0 0).trans rfl)
  have z1 : w1.cell? ⟨w.heap.size, 1, none⟩ = some (.slice none 0 0) := (hb.cell (p := ⟨w.heap.size, 1, none⟩) (lt_b3 w _ _ _ 0 0 (by omega))).trans ((cell_b1 w _ _ _ _ 0 1).trans rfl)
  have z2 : w1.cell? ⟨w.heap.size, 2, none⟩ = some (.slice none 0 0) := (hb.cell (p := ⟨w.heap.size, 2, none⟩) (lt_b3 w _ _ _ 0 0 (by omega))).trans ((cell_b1 w _ _ _ _ 0 2).trans rfl)
  have z3 : w1.cell? ⟨w.heap.size, 3, none⟩ = some (.int .i64 0) := (hb.cell (p := ⟨w.heap.size, 3, none⟩) (lt_b3 w _ _ _ 0 0 (by omega))).trans ((cell_b1 w _ _ _ _ 0 3).trans rfl)
  have y0 : w1.cell? ⟨w.heap.size + 1, 0, none⟩ = some (.int .i64 20) := (hb.cell (p := ⟨w.heap.size + 1, 0, none⟩) (lt_b3 w _ _ _ 0 1 (by omega))).trans ((cell_b2 w _ _ _ _ 0 0).trans rfl)
  have y1 : w1.cell? ⟨w.heap.size + 1, 1, none⟩ = some (.slice none 0 0) := (hb.cell (p := ⟨w.heap.size + 1, 1, none⟩) (lt_b3 w _ _ _ 0 1 (by omega))).trans ((cell_b2 w _ _ _ _ 0 1).trans rfl)
  have y2 : w1.cell? ⟨w.heap.size + 1, 2, none⟩ = some (.slice none 0 0) := (hb.cell (p := ⟨w.heap.size + 1, 2, none⟩) (lt_b3 w _ _ _ 0 1 (by omega))).trans ((cell_b2 w _ _ _ _ 0 2).trans rfl)
  have y3 : w1.cell? ⟨w.heap.size + 1, 3, none⟩ = some (.int .i64 2) := (hb.cell (p := ⟨w.heap.size + 1, 3, none⟩) (lt_b3 w _ _ _ 0 1 (by omega))).trans ((cell_b2 w _ _ _ _ 0 3).trans rfl)
  have HB := Aside0.mk (below_step hb1.out hb)
  clear hb hb1
  go_wp2_with fail
  refine (Same_calls (x := ⟨20, [], [], 0⟩) (y := ⟨20, [], [], 2⟩) (m := []) (M := none) (cm := 0) (TyAt.bare _ _ _) (TyAt.bare _ _ _) (C_nil _ _) (Nat.le_refl _)).mono ?_
  rintro e w2 ⟨rfl, hb⟩
  rw [awake_two]
  have HB2 := Aside0.mk (below_step HB.out hb)
  clear hb HB z0 z1 z2 z3 y0 y1 y2 y3
  go_wp2_with fail
  go_ret
  exact ⟨rfl, HB2.out⟩
end Go.Proofs.Ytmpmcffhlnlejaa.SubEq
end
section
namespace Go.Proofs.Ytmpmcffhlnlejaa.SubEq
open Go.RowKit Go.Proofs.YtmpmcffhlnlejaaW.PrintWords Go.Proofs.YtmpmcffhlnlejaaW.PrintLast Go.Proofs.YtmpmcffhlnlejaaW.PrintMore
open Go.Proofs.Ytmpmcffhlnlejaa.PSubFits
set_option linter.unusedVariables false
set_option linter.unusedSimpArgs false
/-- The place of the first function of a name; -1: there is none. -/
def ixF (nm : ByteArray) : List S27 → Int
  | [] => -1
  | x :: xs => if x.f0 = nm then 0 else if ixF nm xs < 0 then -1 else ixF nm xs + 1
theorem ixF_ge (nm : ByteArray) : ∀ l : List S27, -1 ≤ ixF nm l
  | [] => by simp [ixF]
  | x :: xs => by
    have := ixF_ge nm xs
    unfold ixF
    split
    · omega
    · split <;> omega
theorem ixF_find (nm : ByteArray) : ∀ l : List S27, (ixF nm l < 0 ∧ l.find? (fun y => decide (y.f0 = nm)) = none) ∨ (∃ i : Nat, ∃ h : i < l.length, ixF nm l = (i : Int) ∧ l.find? (fun y => decide (y.f0 = nm)) = some l[i])
  | [] => .inl ⟨by simp [ixF], rfl⟩
  | x :: xs => by
    by_cases hx : x.f0 = nm
    · exact .inr ⟨0, by simp, by simp [ixF, hx], by simp [List.find?, hx]⟩
    · rcases ixF_find nm xs with ⟨h1, h2⟩ | ⟨i, hi, h1, h2⟩
      · refine .inl ⟨?_, by simp [List.find?, hx, h2]⟩
        unfold ixF
        rw [if_neg hx, if_pos h1]
        omega
      · refine .inr ⟨i + 1, by simp; omega, ?_, by simp [List.find?, hx, h2]⟩
        unfold ixF
        rw [if_neg hx, if_neg (by omega), h1]
        omega
/-- The place, counted from k on. -/
def ixFrom (nm : ByteArray) (l : List S27) (k : Nat) : Int := if ixF nm (l.drop k) < 0 then -1 else ixF nm (l.drop k) + k
theorem ixFrom_zero (nm : ByteArray) (l : List S27) : ixFrom nm l 0 = ixF nm l := by
  have := ixF_ge nm l
  unfold ixFrom
  rw [List.drop_zero]
  split <;> omega
theorem rdT27_eq {xs : List S27} {k : Nat} (hk : k < xs.length) : rd_T27 xs (k : Int) = xs[k] := by
  simp [rd_T27, List.getD, hk]
theorem ixFrom_hit {nm : ByteArray} {l : List S27} {k : Nat} (h : k < l.length) (he : (rd_T27 l (k : Int)).f0 = nm) : ixFrom nm l k = (k : Int) := by
  rw [rdT27_eq h] at he
  unfold ixFrom
  rw [List.drop_eq_getElem_cons h]
  simp [ixF, he]
theorem ixFrom_miss {nm : ByteArray} {l : List S27} {k : Nat} (h : k < l.length) (he : (rd_T27 l (k : Int)).f0 ≠ nm) : ixFrom nm l k = ixFrom nm l (k + 1) := by
  rw [rdT27_eq h] at he
  unfold ixFrom
  rw [List.drop_eq_getElem_cons h]
  have e : ixF nm (l[k] :: l.drop (k + 1)) = if ixF nm (l.drop (k + 1)) < 0 then -1 else ixF nm (l.drop (k + 1)) + 1 := by
    rw [ixF, if_neg he]
  rw [e]
  by_cases hs : ixF nm (l.drop (k + 1)) < 0
  · rw [if_pos hs, if_pos (by omega), if_pos hs]
  · rw [if_neg hs, if_neg (by omega), if_neg hs]
    omega
theorem ixFrom_end {nm : ByteArray} {l : List S27} {k : Nat} (h : l.length ≤ k) : ixFrom nm l k = -1 := by
  unfold ixFrom
  rw [List.drop_eq_nil_of_le h]
  simp [ixF]
theorem names_beq (a b : ByteArray) : (a.toList == b.toList) = decide (a = b) := by
  by_cases h : a = b
  · rw [h, decide_eq_true rfl]; simp
  · rw [decide_eq_false h]
    exact beq_eq_false_iff_ne.mpr (fun e => h (bytes_ext e))
theorem find1_calls (x : S27) (nm : ByteArray) (B : Nat) (W : World) (A1 : Option Addr) (c1 : Nat) (A2 : Option Addr) (c2 : Nat) (A4 : Option Addr) (c4 : Nat) (A5 : Option Addr) (c5 : Nat) (hB : W.cell? ⟨B, 0, none⟩ = some (.string nm)) :
    Calls Try.prog 95 #[.agg #[.string x.f0, .slice A1 x.f1.length c1, .slice A2 x.f2.length c2, .int .i64 x.f3.f0, .slice A4 x.f3.f1.length c4, .slice A5 x.f3.f2.length c5, .int .i64 x.f3.f3], .pointer (some ⟨B, 0, none⟩)] W
      fun e w' => e = .returned (.bool (decide (x.f0 = nm))) ∧ Below W.heap.size W w' := by
  have hB' := fun o => (World.cell?_alloc_lt W o ⟨B, 0, none⟩ (World.block_lt_of_cell? W _ hB)).trans hB
  have he := names_beq x.f0 nm
  clear hB
  go_enter Try.func95, Try.ntmps95
  go_wp2_with fail
  go_ret
  exact ⟨rfl, below_alloc (Below.refl _ _) _⟩
set_option maxHeartbeats 1000000 in
theorem ixfunc_calls (B : Nat) {A : Option Addr} {c : Nat} {l : List S27} {nm : ByteArray} {w : World} (hl : k27.C w A l.length l) (hB : w.cell? ⟨B, 0, none⟩ = some (.string nm)) :
    Calls Try.prog 94 #[.slice A l.length c, .func (.func 95) #[] #[.pointer (some ⟨B, 0, none⟩)]] w fun e w' => e = .returned (.int .i64 (ixF nm l)) ∧ Below w.heap.size w w' := by
  have hm1 : l.length ≤ 9223372036854775807 := hl.2.1
  have HL := Aside0.mk hl
  have HB0 := Aside0.mk hB
  clear hl hB
  go_enter Try.func94, Try.ntmps94
  go_wp2_with fail
  go_loopw [8] (fun v8 wr => ∃ k : Nat, k ≤ l.length ∧ v8 = .int .i64 k ∧ Aside0 (Below w.heap.size w wr) ∧ Aside0 (ixF nm l = ixFrom nm l k)) (fun v8 _ => l.length - (intOf v8).toNat)
  case atStart => exact ⟨0, Nat.zero_le _, rfl, ⟨Below.refl _ _⟩, ⟨(ixFrom_zero nm l).symm⟩⟩
  case round =>
    obtain ⟨k, hk, rfl, HB, HE⟩ := hrel
    by_cases hlt : k < l.length
    · obtain ⟨ad, A1, c1, A2, c2, A4, c4, A5, c5, rfl, x0, x1, x2, x3, x4, x5, x6, _⟩ := at_T27 (Kd.C_below HL.out HB.out) (k : Int) (by omega) (by omega)
      rw [Int.toNat_natCast] at x0 x1 x2 x3 x4 x5 x6
      have M1 := Aside0.mk (fun h => ixFrom_hit (nm := nm) (l := l) (k := k) hlt h)
      have M2 := Aside0.mk (fun h => ixFrom_miss (nm := nm) (l := l) (k := k) hlt h)
      generalize rd_T27 l (k : Int) = x at *
      go_wp2_with fail
      refine (find1_calls x nm B _ A1 c1 A2 c2 A4 c4 A5 c5 ((HB.out.cell (p := ⟨B, 0, none⟩) (World.block_lt_of_cell? w _ HB0.out)).trans HB0.out)).mono ?_
      rintro e w1 ⟨rfl, hb⟩
      have HB1 := Aside0.mk (below_step HB.out hb)
      clear hb HB x0 x1 x2 x3 x4 x5 x6
      by_cases he : x.f0 = nm
      · rw [decide_eq_true he]
        have HR := Aside0.mk (HE.out.trans (M1.out he))
        clear he
        go_wp2_with fail
        go_ret
        exact ⟨by rw [HR.out]; rfl, HB1.out⟩
      · rw [decide_eq_false he]
        have HR := Aside0.mk (HE.out.trans (M2.out he))
        clear he
        go_wp2_with fail
        go_roundw
        case rel => exact ⟨k + 1, by omega, by go_num, HB1, HR⟩
        case measure => simp [intOf]; omega
    · have HR := Aside0.mk (HE.out.trans (ixFrom_end (by omega)))
      go_wp2_with fail
      go_ret
      exact ⟨by rw [HR.out]; rfl, HB.out⟩
set_option maxHeartbeats 1000000 in
theorem find_no {A : Option Addr} {c : Nat} {l : List S27} {nm : ByteArray} {w : World} (hl : k27.C w A l.length l) (hn : ixF nm l < 0) :
    Calls Try.prog 78 #[.slice A l.length c, .string nm] w fun e w' => e = .returned (.tuple #[.agg #[.string ⟨#[]⟩, .slice none 0 0, .slice none 0 0, .int .i64 0, .slice none 0 0, .slice none 0 0, .int .i64 0], .bool false]) ∧ Below w.heap.size w w' := by
  have HL := Aside0.mk hl
  clear hl
  go_enter Try.func78, Try.ntmps78
  go_wp2_with fail
  have K0 := blk_new (w.alloc (.cells #[.string nm] 9)) (.cells #[.string ⟨#[]⟩, .slice none 0 0, .slice none 0 0, .int .i64 0, .slice none 0 0, .slice none 0 0, .int .i64 0] 27)
  simp only [World.size_alloc] at K0
  have hb0 := below_alloc (below_alloc (Below.refl w.heap.size w) (.cells #[.string nm] 9)) (.cells #[.string ⟨#[]⟩, .slice none 0 0, .slice none 0 0, .int .i64 0, .slice none 0 0, .slice none 0 0, .int .i64 0] 27)
  refine (ixfunc_calls w.heap.size (nm := nm) (Kd.C_below HL.out hb0) ((blk_cell (blk_alloc (blk_new w (.cells #[.string nm] 9)) _) 0).trans rfl)).mono ?_
  rintro e w1 ⟨rfl, hb⟩
  have K1 := blk_below K0 hb
  have HB := Aside0.mk (below_step hb0 hb)
  have z0 : w1.cell? ⟨w.heap.size + 1, 0, none⟩ = some (.string ⟨#[]⟩) := (blk_cell K1 0).trans rfl
  have f0 : w1.frozen? ⟨w.heap.size + 1, 0, none⟩ = false := blk_frozen K1 0
  have z1 : w1.cell? ⟨w.heap.size + 1, 1, none⟩ = some (.slice none 0 0) := (blk_cell K1 1).trans rfl
  have f1 : w1.frozen? ⟨w.heap.size + 1, 1, none⟩ = false := blk_frozen K1 1
  have z2 : w1.cell? ⟨w.heap.size + 1, 2, none⟩ = some (.slice none 0 0) := (blk_cell K1 2).trans rfl
  have f2 : w1.frozen? ⟨w.heap.size + 1, 2, none⟩ = false := blk_frozen K1 2
  have z3 : w1.cell? ⟨w.heap.size + 1, 3, none⟩ = some (.int .i64 0) := (blk_cell K1 3).trans rfl
  have f3 : w1.frozen? ⟨w.heap.size + 1, 3, none⟩ = false := blk_frozen K1 3
  have z4 : w1.cell? ⟨w.heap.size + 1, 4, none⟩ = some (.slice none 0 0) := (blk_cell K1 4).trans rfl
  have f4 : w1.frozen? ⟨w.heap.size + 1, 4, none⟩ = false := blk_frozen K1 4
  have z5 : w1.cell? ⟨w.heap.size + 1, 5, none⟩ = some (.slice none 0 0) := (blk_cell K1 5).trans rfl
  have f5 : w1.frozen? ⟨w.heap.size + 1, 5, none⟩ = false := blk_frozen K1 5
  have z6 : w1.cell? ⟨w.heap.size + 1, 6, none⟩ = some (.int .i64 0) := (blk_cell K1 6).trans rfl
  have f6 : w1.frozen? ⟨w.heap.size + 1, 6, none⟩ = false := blk_frozen K1 6
  have s1 := blk_lt K1
  clear K0 hb0 hb K1
  have hd : decide (ixF nm l < 0) = true := decide_eq_true hn
  go_wp2_with fail
  exact bodyPost_ret (v := .tuple #[.agg #[.string ⟨#[]⟩, .slice none 0 0, .slice none 0 0, .int .i64 0, .slice none 0 0, .slice none 0 0, .int .i64 0], .bool false]) (by simp [results, Try.results78, go_sem, *]) rfl ⟨rfl, (((((((HB.out.setCell (p := ⟨w.heap.size + 1, 0, none⟩) (by simp) _).setCell (p := ⟨w.heap.size + 1, 1, none⟩) (by simp) _).setCell (p := ⟨w.heap.size + 1, 2, none⟩) (by simp) _).setCell (p := ⟨w.heap.size + 1, 3, none⟩) (by simp) _).setCell (p := ⟨w.heap.size + 1, 4, none⟩) (by simp) _).setCell (p := ⟨w.heap.size + 1, 5, none⟩) (by simp) _).setCell (p := ⟨w.heap.size + 1, 6, none⟩) (by simp) _)⟩
set_option maxHeartbeats 2000000 in
theorem find_yes {A : Option Addr} {c : Nat} {l : List S27} {nm : ByteArray} {w : World} (hl : k27.C w A l.length l) {i : Nat} (hi : i < l.length) (hn : ixF nm l = (i : Int)) :
    Calls Try.prog 78 #[.slice A l.length c, .string nm] w fun e w' => ∃ (A1 : Option Addr) (c1 : Nat) (A2 : Option Addr) (c2 : Nat) (A4 : Option Addr) (c4 : Nat) (A5 : Option Addr) (c5 : Nat),
      e = .returned (.tuple #[.agg #[.string l[i].f0, .slice A1 l[i].f1.length c1, .slice A2 l[i].f2.length c2, .int .i64 l[i].f3.f0, .slice A4 l[i].f3.f1.length c4, .slice A5 l[i].f3.f2.length c5, .int .i64 l[i].f3.f3], .bool true]) ∧
      SigAt w l[i] A1 c1 A2 c2 A4 c4 A5 c5 ∧ Below w.heap.size w w' := by
  obtain ⟨ad, A1, c1, A2, c2, A4, c4, A5, c5, rfl, x0, x1, x2, x3, x4, x5, x6, l1, g1, l2, g2, l4, g4, l5, g5⟩ := at_T27 hl (i : Int) (by omega) (by omega)
  rw [Int.toNat_natCast] at x0 x1 x2 x3 x4 x5 x6
  have HS : Aside0 (SigAt w (rd_T27 l (i : Int)) A1 c1 A2 c2 A4 c4 A5 c5) := ⟨⟨g1, l1, g2, l2, ⟨g4, l4, g5, l5⟩⟩⟩
  have hm1 : l.length ≤ 9223372036854775807 := hl.2.1
  have HL := Aside0.mk hl
  rw [← rdT27_eq hi]
  clear hl l1 g1 l2 g2 l4 g4 l5 g5
  generalize rd_T27 l (i : Int) = x at *
  have hn' := Aside0.mk hn
  clear hn
  go_enter Try.func78, Try.ntmps78
  go_wp2_with fail
  have K0 := blk_new (w.alloc (.cells #[.string nm] 9)) (.cells #[.string ⟨#[]⟩, .slice none 0 0, .slice none 0 0, .int .i64 0, .slice none 0 0, .slice none 0 0, .int .i64 0] 27)
  simp only [World.size_alloc] at K0
  have hb0 := below_alloc (below_alloc (Below.refl w.heap.size w) (.cells #[.string nm] 9)) (.cells #[.string ⟨#[]⟩, .slice none 0 0, .slice none 0 0, .int .i64 0, .slice none 0 0, .slice none 0 0, .int .i64 0] 27)
  refine (ixfunc_calls w.heap.size (nm := nm) (Kd.C_below HL.out hb0) ((blk_cell (blk_alloc (blk_new w (.cells #[.string nm] 9)) _) 0).trans rfl)).mono ?_
  rintro e w1 ⟨rfl, hb⟩
  have K1 := blk_below K0 hb
  have HB := Aside0.mk (below_step hb0 hb)
  have z0 : w1.cell? ⟨w.heap.size + 1, 0, none⟩ = some (.string ⟨#[]⟩) := (blk_cell K1 0).trans rfl
  have f0 : w1.frozen? ⟨w.heap.size + 1, 0, none⟩ = false := blk_frozen K1 0
  have z1 : w1.cell? ⟨w.heap.size + 1, 1, none⟩ = some (.slice none 0 0) := (blk_cell K1 1).trans rfl
  have f1 : w1.frozen? ⟨w.heap.size + 1, 1, none⟩ = false := blk_frozen K1 1
  have z2 : w1.cell? ⟨w.heap.size + 1, 2, none⟩ = some (.slice none 0 0) := (blk_cell K1 2).trans rfl
  have f2 : w1.frozen? ⟨w.heap.size + 1, 2, none⟩ = false := blk_frozen K1 2
  have z3 : w1.cell? ⟨w.heap.size + 1, 3, none⟩ = some (.int .i64 0) := (blk_cell K1 3).trans rfl
  have f3 : w1.frozen? ⟨w.heap.size + 1, 3, none⟩ = false := blk_frozen K1 3
  have z4 : w1.cell? ⟨w.heap.size + 1, 4, none⟩ = some (.slice none 0 0) := (blk_cell K1 4).trans rfl
  have f4 : w1.frozen? ⟨w.heap.size + 1, 4, none⟩ = false := blk_frozen K1 4
  have z5 : w1.cell? ⟨w.heap.size + 1, 5, none⟩ = some (.slice none 0 0) := (blk_cell K1 5).trans rfl
  have f5 : w1.frozen? ⟨w.heap.size + 1, 5, none⟩ = false := blk_frozen K1 5
  have z6 : w1.cell? ⟨w.heap.size + 1, 6, none⟩ = some (.int .i64 0) := (blk_cell K1 6).trans rfl
  have f6 : w1.frozen? ⟨w.heap.size + 1, 6, none⟩ = false := blk_frozen K1 6
  have s1 := blk_lt K1
  clear K0 hb0 hb K1
  replace x0 := (HB.out.cell (World.block_lt_of_cell? w _ x0)).trans x0
  replace x1 := (HB.out.cell (World.block_lt_of_cell? w _ x1)).trans x1
  replace x2 := (HB.out.cell (World.block_lt_of_cell? w _ x2)).trans x2
  replace x3 := (HB.out.cell (World.block_lt_of_cell? w _ x3)).trans x3
  replace x4 := (HB.out.cell (World.block_lt_of_cell? w _ x4)).trans x4
  replace x5 := (HB.out.cell (World.block_lt_of_cell? w _ x5)).trans x5
  replace x6 := (HB.out.cell (World.block_lt_of_cell? w _ x6)).trans x6
  rw [hn'.out]
  go_wp2_with fail
  exact bodyPost_ret (v := .tuple #[.agg #[.string x.f0, .slice A1 x.f1.length c1, .slice A2 x.f2.length c2, .int .i64 x.f3.f0, .slice A4 x.f3.f1.length c4, .slice A5 x.f3.f2.length c5, .int .i64 x.f3.f3], .bool true]) (by simp [results, Try.results78, go_sem, *]) rfl ⟨A1, c1, A2, c2, A4, c4, A5, c5, rfl, HS.out, (((((((HB.out.setCell (p := ⟨w.heap.size + 1, 0, none⟩) (by simp) _).setCell (p := ⟨w.heap.size + 1, 1, none⟩) (by simp) _).setCell (p := ⟨w.heap.size + 1, 2, none⟩) (by simp) _).setCell (p := ⟨w.heap.size + 1, 3, none⟩) (by simp) _).setCell (p := ⟨w.heap.size + 1, 4, none⟩) (by simp) _).setCell (p := ⟨w.heap.size + 1, 5, none⟩) (by simp) _).setCell (p := ⟨w.heap.size + 1, 6, none⟩) (by simp) _)⟩
end Go.Proofs.Ytmpmcffhlnlejaa.SubEq
end
section
namespace Go.Proofs.Ytmpmcffhlnlejaa.SubEq
open Go.RowKit Go.Proofs.YtmpmcffhlnlejaaW.PrintWords Go.Proofs.YtmpmcffhlnlejaaW.PrintLast Go.Proofs.YtmpmcffhlnlejaaW.PrintMore
open Go.Proofs.Ytmpmcffhlnlejaa.PSubFits
set_option linter.unusedVariables false
set_option linter.unusedSimpArgs false
/-- Is each among others, with the same types? -/
def allF (among : List S27) (m : List Int) : List S27 → Int
  | [] => 0
  | x :: xs => match among.find? (fun y => decide (y.f0 = x.f0)) with
    | none => 11
    | some y => if sigsT m x y = true then allF among m xs else 6
theorem allF_drop {among l : List S27} {m : List Int} {k : Nat} (h : k < l.length) :
    allF among m (l.drop k) = match among.find? (fun y => decide (y.f0 = (rd_T27 l (k : Int)).f0)) with
      | none => 11
      | some y => if sigsT m (rd_T27 l (k : Int)) y = true then allF among m (l.drop (k + 1)) else 6 := by
  rw [List.drop_eq_getElem_cons h, rdT27_eq h]
  rfl
set_option maxHeartbeats 4000000 in
theorem all_calls {A B M : Option Addr} {c d cm : Nat} {l among : List S27} {m : List Int} {w : World} (hl : k27.C w A l.length l) (ha : k27.C w B among.length among) (hm : (Kd.int .i64).C w M m.length m) (hcm : m.length ≤ cm) :
    Calls Try.prog 55 #[.slice A l.length c, .slice B among.length d, .slice M m.length cm] w fun e w' => e = .returned (.int .i64 (allF among m l)) ∧ Below w.heap.size w w' := by
  have hm1 : l.length ≤ 9223372036854775807 := hl.2.1
  have HL := Aside0.mk hl
  have HA := Aside0.mk ha
  have HM := Aside0.mk hm
  clear hl ha hm
  go_enter Try.func55, Try.ntmps55
  go_wp2_with fail
  go_loopw [13] (fun v13 wr => ∃ k : Nat, k ≤ l.length ∧ v13 = .int .i64 k ∧ Aside0 (Below w.heap.size w wr) ∧ Aside0 (allF among m l = allF among m (l.drop k))) (fun v13 _ => l.length - (intOf v13).toNat)
  case atStart => exact ⟨0, Nat.zero_le _, rfl, ⟨Below.refl _ _⟩, ⟨rfl⟩⟩
  case round =>
    obtain ⟨k, hk, rfl, HB, HE⟩ := hrel
    by_cases hlt : k < l.length
    · obtain ⟨ad, A1, c1, A2, c2, A4, c4, A5, c5, rfl, x0, x1, x2, x3, x4, x5, x6, l1, g1, l2, g2, l4, g4, l5, g5⟩ := at_T27 (Kd.C_below HL.out HB.out) (k : Int) (by omega) (by omega)
      rw [Int.toNat_natCast] at x0 x1 x2 x3 x4 x5 x6
      have HS : Aside0 (SigAt wr (rd_T27 l (k : Int)) A1 c1 A2 c2 A4 c4 A5 c5) := ⟨⟨g1, l1, g2, l2, ⟨g4, l4, g5, l5⟩⟩⟩
      have HD := Aside0.mk (allF_drop (among := among) (m := m) hlt)
      clear l1 g1 l2 g2 l4 g4 l5 g5
      generalize rd_T27 l (k : Int) = x at *
      have K0 := blk_new wr (.cells #[.string x.f0, .slice A1 x.f1.length c1, .slice A2 x.f2.length c2, .int .i64 x.f3.f0, .slice A4 x.f3.f1.length c4, .slice A5 x.f3.f2.length c5, .int .i64 x.f3.f3] 27)
      have hb0 := below_alloc (Below.refl wr.heap.size wr) (.cells #[.string x.f0, .slice A1 x.f1.length c1, .slice A2 x.f2.length c2, .int .i64 x.f3.f0, .slice A4 x.f3.f1.length c4, .slice A5 x.f3.f2.length c5, .int .i64 x.f3.f3] 27)
      have PK := Aside0.mk K0
      have PB := Aside0.mk hb0
      clear K0 hb0
      rcases ixF_find x.f0 among with ⟨h1, h2⟩ | ⟨i, hi, h1, h2⟩
      · have HR := Aside0.mk (show allF among m l = 11 by rw [HE.out, HD.out, h2])
        have H1 := Aside0.mk h1
        clear h1 h2
        go_wp2_with fail
        refine (find_no (Kd.C_below HA.out (below_step HB.out PB.out)) H1.out).mono ?_
        rintro e w1 ⟨rfl, hb⟩
        have HB1 := Aside0.mk (below_step (below_step HB.out PB.out) hb)
        clear hb x0 x1 x2 x3 x4 x5 x6
        go_wp2_with fail
        go_ret
        exact ⟨by rw [HR.out]; rfl, below_alloc HB1.out _⟩
      · have H1 := Aside0.mk h1
        have HI := Aside0.mk hi
        have HD2 := Aside0.mk (show allF among m l = if sigsT m x among[i] = true then allF among m (l.drop (k + 1)) else 6 by rw [HE.out, HD.out, h2])
        clear h1 h2
        go_wp2_with fail
        refine (find_yes (Kd.C_below HA.out (below_step HB.out PB.out)) HI.out H1.out).mono ?_
        rintro e w1 ⟨B1, d1, B2, d2, B4, d4, B5, d5, rfl, hs, hb⟩
        have HT := Aside0.mk (hs.below hb)
        have K1 := blk_below PK.out hb
        have HB1 := Aside0.mk (below_step (below_step HB.out PB.out) hb)
        have HS1 := Aside0.mk (HS.out.below (below_step PB.out hb))
        clear hb hs x0 x1 x2 x3 x4 x5 x6
        generalize among[i] = y at *
        have z0 : ∀ o, (w1.alloc o).cell? ⟨wr.heap.size, 0, none⟩ = some (.string x.f0) := fun o => (blk_cell (blk_alloc K1 o) 0).trans rfl
        have z1 : ∀ o, (w1.alloc o).cell? ⟨wr.heap.size, 1, none⟩ = some (.slice A1 x.f1.length c1) := fun o => (blk_cell (blk_alloc K1 o) 1).trans rfl
        have z2 : ∀ o, (w1.alloc o).cell? ⟨wr.heap.size, 2, none⟩ = some (.slice A2 x.f2.length c2) := fun o => (blk_cell (blk_alloc K1 o) 2).trans rfl
        have z3 : ∀ o, (w1.alloc o).cell? ⟨wr.heap.size, 3, none⟩ = some (.int .i64 x.f3.f0) := fun o => (blk_cell (blk_alloc K1 o) 3).trans rfl
        have z4 : ∀ o, (w1.alloc o).cell? ⟨wr.heap.size, 4, none⟩ = some (.slice A4 x.f3.f1.length c4) := fun o => (blk_cell (blk_alloc K1 o) 4).trans rfl
        have z5 : ∀ o, (w1.alloc o).cell? ⟨wr.heap.size, 5, none⟩ = some (.slice A5 x.f3.f2.length c5) := fun o => (blk_cell (blk_alloc K1 o) 5).trans rfl
        have z6 : ∀ o, (w1.alloc o).cell? ⟨wr.heap.size, 6, none⟩ = some (.int .i64 x.f3.f3) := fun o => (blk_cell (blk_alloc K1 o) 6).trans rfl
        have y0 : w1.cell? ⟨wr.heap.size, 0, none⟩ = some (.string x.f0) := (blk_cell K1 0).trans rfl
        clear K1
        go_wp2_with fail
        have hb2 := Aside0.mk (below_alloc (Below.refl w1.heap.size w1) (.cells #[.string y.f0, .slice B1 y.f1.length d1, .slice B2 y.f2.length d2, .int .i64 y.f3.f0, .slice B4 y.f3.f1.length d4, .slice B5 y.f3.f2.length d5, .int .i64 y.f3.f3] 27))
        refine (sigs_calls m x y _ A1 c1 A2 c2 A4 c4 A5 c5 B1 d1 B2 d2 B4 d4 B5 d5 M cm (HS1.out.below hb2.out) (HT.out.below hb2.out) (Kd.C_below HM.out (below_step HB1.out hb2.out)) hcm).mono ?_
        rintro e w2 ⟨rfl, hb⟩
        have HB2 := Aside0.mk (below_step (below_step HB1.out hb2.out) hb)
        clear hb z0 z1 z2 z3 z4 z5 z6 y0
        cases hv : sigsT m x y with
        | true =>
          have HR := Aside0.mk (HD2.out.trans (if_pos hv))
          clear HD2 HD HE
          go_wp2_with fail
          go_roundw
          case rel => exact ⟨k + 1, by omega, by go_num, HB2, HR⟩
          case measure => simp [intOf]; omega
        | false =>
          have HR := Aside0.mk (HD2.out.trans (if_neg (by rw [hv]; simp)))
          clear HD2 HD HE
          go_wp2_with fail
          go_ret
          exact ⟨by rw [HR.out]; rfl, HB2.out⟩
    · have HR := Aside0.mk (show allF among m l = 0 by rw [HE.out, List.drop_eq_nil_of_le (by omega)]; rfl)
      go_wp2_with fail
      go_ret
      exact ⟨by rw [HR.out]; rfl, HB.out⟩
end Go.Proofs.Ytmpmcffhlnlejaa.SubEq
end
section
namespace Go.Proofs.Ytmpmcffhlnlejaa.SubEq
open Go.RowKit Go.Proofs.YtmpmcffhlnlejaaW.PrintWords Go.Proofs.YtmpmcffhlnlejaaW.PrintLast Go.Proofs.YtmpmcffhlnlejaaW.PrintMore
open Go.Proofs.Ytmpmcffhlnlejaa.PSubFits
set_option linter.unusedVariables false
set_option linter.unusedSimpArgs false
theorem strs_cells {w : World} {ad : Addr} {xs : List ByteArray} (h : Kd.string.C w (some ad) xs.length xs) : ∀ j u, (pw_strs xs)[j]? = some u → w.cell? (ad.add j) = some u := by
  intro j u hu
  have hj : j < xs.length := by
    have := (List.getElem?_eq_some_iff.1 hu).1
    simpa [pw_strs] using this
  obtain ⟨ad', e, hc⟩ := h.2.2 (by omega)
  injection e with e
  subst e
  obtain ⟨c, hl, hK, hcell⟩ := hc j _ (List.getElem?_eq_getElem hj)
  have hK' : c = [.string xs[j]] := hK
  subst hK'
  have := hcell 0 _ rfl
  have e2 : u = .string xs[j] := by
    simp only [pw_strs, List.getElem?_map, List.getElem?_eq_getElem hj, Option.map_some, Option.some.injEq] at hu
    exact hu.symm
  rw [e2]
  simpa [Kd.string, Kd.scalar] using this
end Go.Proofs.Ytmpmcffhlnlejaa.SubEq
end
section
namespace Go.Proofs.Ytmpmcffhlnlejaa.SubEq
open Go.RowKit Go.Proofs.YtmpmcffhlnlejaaW.PrintWords Go.Proofs.YtmpmcffhlnlejaaW.PrintLast Go.Proofs.YtmpmcffhlnlejaaW.PrintMore
open Go.Proofs.Ytmpmcffhlnlejaa.PSubFits
set_option linter.unusedVariables false
set_option linter.unusedSimpArgs false
/-- The place of a text; -1: it is not there. -/
def ixB (t : ByteArray) : List ByteArray → Int
  | [] => -1
  | x :: xs => if x = t then 0 else if ixB t xs < 0 then -1 else ixB t xs + 1
theorem ixB_ge (t : ByteArray) : ∀ l : List ByteArray, -1 ≤ ixB t l
  | [] => by simp [ixB]
  | x :: xs => by
    have := ixB_ge t xs
    unfold ixB
    split
    · omega
    · split <;> omega
def ixBFrom (t : ByteArray) (l : List ByteArray) (k : Nat) : Int := if ixB t (l.drop k) < 0 then -1 else ixB t (l.drop k) + k
theorem ixBFrom_zero (t : ByteArray) (l : List ByteArray) : ixBFrom t l 0 = ixB t l := by
  have := ixB_ge t l
  unfold ixBFrom
  rw [List.drop_zero]
  split <;> omega
theorem ixBFrom_hit {t : ByteArray} {l : List ByteArray} {k : Nat} (h : k < l.length) (he : l[k] = t) : ixBFrom t l k = (k : Int) := by
  unfold ixBFrom
  rw [List.drop_eq_getElem_cons h]
  simp [ixB, he]
theorem ixBFrom_miss {t : ByteArray} {l : List ByteArray} {k : Nat} (h : k < l.length) (he : l[k] ≠ t) : ixBFrom t l k = ixBFrom t l (k + 1) := by
  unfold ixBFrom
  rw [List.drop_eq_getElem_cons h]
  have e : ixB t (l[k] :: l.drop (k + 1)) = if ixB t (l.drop (k + 1)) < 0 then -1 else ixB t (l.drop (k + 1)) + 1 := by
    rw [ixB, if_neg he]
  rw [e]
  by_cases hs : ixB t (l.drop (k + 1)) < 0
  · rw [if_pos hs, if_pos (by omega), if_pos hs]
  · rw [if_neg hs, if_neg (by omega), if_neg hs]
    omega
theorem ixBFrom_end {t : ByteArray} {l : List ByteArray} {k : Nat} (h : l.length ≤ k) : ixBFrom t l k = -1 := by
  unfold ixBFrom
  rw [List.drop_eq_nil_of_le h]
  simp [ixB]
theorem index_l0 (xs : List ByteArray) (t : ByteArray) (hn : xs.length ≤ 9223372036854775807) : ∀ (d k : Nat), k + d = xs.length →
    slices_Index_string_string.l0 (d + 1) xs t (xs.length : Int) (k : Int) = some (ixBFrom t xs k) := by
  intro d
  induction d with
  | zero =>
    intro k hk
    simp only [slices_Index_string_string.l0]
    rw [if_neg (by omega), ixBFrom_end (by omega)]
  | succ d ih =>
    intro k hk
    have h1 : k < xs.length := by omega
    rw [slices_Index_string_string.l0]
    rw [if_pos (by omega), if_pos (by omega), if_pos (by omega), rdB_eq h1, wrap_succ h1 hn, ih (k + 1) (by omega)]
    by_cases e : xs[k] = t
    · rw [if_pos (by rw [e]), ixBFrom_hit h1 e]
    · rw [if_neg (fun h => e (bytes_ext h).symm), ixBFrom_miss h1 e]
theorem index_calls {A : Option Addr} {c : Nat} {xs : List ByteArray} {t : ByteArray} {w : World} (hx : Kd.string.C w A xs.length xs) (hc : xs.length ≤ c) :
    Calls Try.prog 79 #[.slice A xs.length c, .string t] w fun e w' => e = .returned (.int .i64 (ixB t xs)) ∧ Drawn0 w w' := by
  have h := index_l0 xs t hx.2.1 xs.length 0 (by omega)
  rw [ixBFrom_zero] at h
  exact slices_Index_string_string.calls _ A c xs t _ w hx hc h
/-- Import as export. -/
def impT (s : ByteArray) : Option ByteArray :=
  if 7 ≤ s.size ∧ (s.extract 0 7).toList = ([105, 109, 112, 111, 114, 116, 32] : List UInt8) then some ((⟨#[101, 120, 112, 111, 114, 116, 32]⟩ : ByteArray) ++ s.extract 7 s.size) else none
/-- What pairs asks of the function that it is handed. -/
def Turns (g : Nat) (T : ByteArray → Option ByteArray) (a : List ByteArray) : Prop :=
  ∀ s ∈ a, ∃ t, ((T s = some t ∧ ∀ W : World, Calls Try.prog g #[.string s] W fun e w' => e = .returned (.tuple #[.string t, .bool true]) ∧ Drawn0 W w') ∨ (T s = none ∧ ∀ W : World, Calls Try.prog g #[.string s] W fun e w' => e = .returned (.tuple #[.string t, .bool false]) ∧ Drawn0 W w'))
theorem exported_turns (a : List ByteArray) (ha : ∀ s ∈ a, s.size ≤ 140737488351232) : Turns 59 impT a := by
  intro s hs
  have hz := ha s hs
  have pre : (⟨#[105, 109, 112, 111, 114, 116, 32]⟩ : ByteArray).size = 7 := rfl
  have prel : (⟨#[105, 109, 112, 111, 114, 116, 32]⟩ : ByteArray).toList = ([105, 109, 112, 111, 114, 116, 32] : List UInt8) := by rw [ByteArray.toList_eq]
  by_cases h : 7 ≤ s.size ∧ (s.extract 0 7).toList = ([105, 109, 112, 111, 114, 116, 32] : List UInt8)
  · refine ⟨(⟨#[101, 120, 112, 111, 114, 116, 32]⟩ : ByteArray) ++ s.extract 7 s.size, .inl ⟨by rw [impT, if_pos h], fun W => subtype_exported.calls s _ true W ?_⟩⟩
    unfold subtype_exported.f strings_CutPrefix.f stringslite_CutPrefix.f stringslite_HasPrefix.f
    rw [pre, prel]
    have e : ((s.extract 0 ((7 : Nat) : Int).toNat).toList == ([105, 109, 112, 111, 114, 116, 32] : List UInt8)) = true := beq_iff_eq.mpr h.2
    rw [if_pos (by omega), if_pos (by omega), if_pos (by omega), e]
    simp only [Option.bind_some, if_true]
    rw [if_pos (by omega), if_pos (by omega)]
    simp only [Option.bind_some]
    have hx : (s.extract ((7 : Nat) : Int).toNat s.size).size = s.size - 7 := by
      show (s.extract 7 s.size).size = _
      rw [ByteArray.size_extract]
      omega
    rw [if_pos (by rw [hx]; omega)]
    rfl
  · refine ⟨(⟨#[101, 120, 112, 111, 114, 116, 32]⟩ : ByteArray) ++ s, .inr ⟨by rw [impT, if_neg h], fun W => subtype_exported.calls s _ false W ?_⟩⟩
    unfold subtype_exported.f strings_CutPrefix.f stringslite_CutPrefix.f stringslite_HasPrefix.f
    rw [pre, prel]
    by_cases h7 : 7 ≤ s.size
    · have e : ((s.extract 0 ((7 : Nat) : Int).toNat).toList == ([105, 109, 112, 111, 114, 116, 32] : List UInt8)) = false := beq_eq_false_iff_ne.mpr (fun e => h ⟨h7, e⟩)
      rw [if_pos (by omega), if_pos (by omega), if_pos (by omega), e]
      simp only [Option.bind_some, Bool.false_eq_true, if_false]
      rw [if_pos (by omega)]
    · rw [if_neg (by omega)]
      simp only [Option.bind_some, Bool.false_eq_true, if_false]
      rw [if_pos (by omega)]
/-- Which resource is which. -/
def pairsF (T : ByteArray → Option ByteArray) (a b : List ByteArray) : List Int := a.map fun s => match T s with
  | some t => ixB t b
  | none => -1
theorem info3' : (Try.prog.info? 3).map (fun i => (i.zero, i.size, i.bytes)) = some (some (.int .i64 0), 1, 8) := by kernel_rfl
theorem pairs_take {T : ByteArray → Option ByteArray} {a b : List ByteArray} {k : Nat} (h : k < a.length) :
    (pairsF T a b).take (k + 1) = (pairsF T a b).take k ++ [match T a[k] with | some t => ixB t b | none => -1] := by
  rw [List.take_succ_eq_append_getElem (by simpa [pairsF] using h)]
  simp [pairsF]
theorem C_of_ownI {w : World} {base : Nat} {v : Value} {xs : List Int} (h : w.ownsRow base 3 1 v xs.length (nums .i64 xs)) : ∃ (A : Option Addr) (cap : Nat), v = .slice A xs.length cap ∧ xs.length ≤ cap ∧ (Kd.int .i64).C w A xs.length xs := by
  rcases Nat.eq_zero_or_pos xs.length with h0 | h0
  · have hx : xs = [] := List.eq_nil_of_length_eq_zero h0
    subst hx
    rcases h.2 with ⟨rfl, _⟩ | ⟨g, cap, cur, rfl, _⟩
    · exact ⟨none, 0, rfl, Nat.le_refl _, rfl, by simp, fun h => absurd h (by simp)⟩
    · exact ⟨_, cap, rfl, by simp, rfl, by simp, fun h => absurd h (by simp)⟩
  · obtain ⟨g, cap, rfl, _, _⟩ := h.form h0
    have hc : xs.length ≤ cap ∧ cap ≤ maxLen := by
      rcases h.2 with ⟨h1, _⟩ | ⟨g', cap', cur, h1, _, _, hc, hm, _⟩
      · cases h1
      · injection h1 with _ _ h3
        omega
    refine ⟨_, cap, rfl, hc.1, rfl, by have := hc.2; simp only [maxLen] at this; omega, fun _ => ⟨_, rfl, fun j p hj => ⟨[.int .i64 p], rfl, rfl, fun i u hu => ?_⟩⟩⟩
    match i, hu with
    | 0, hu =>
      obtain rfl : Value.int .i64 p = u := by simpa using hu
      have := h.cells (g := g) rfl j (.int .i64 p) (by simp [nums, hj])
      simpa [Kd.int, Kd.scalar] using this
theorem own_ne {w : World} {base : Nat} {e : TypeId} {size n : Nat} {v : Value} {xs : List Value} (h : w.ownsRow base e size v n xs) {g : Nat} {t : TypeId} {cs : Array Value} (hb : w.heap[g]? = some (.cells cs t (0, 0))) (ht : e ≠ t) : some g ≠ v.ownBlock := by
  intro he
  obtain ⟨cells, hc⟩ := own_typed h g he.symm
  rw [hb] at hc
  injection hc with hc
  injection hc with _ hc
  exact ht hc.symm
/-- What one round leaves. -/
theorem pairs_round {w wr w2 : World} {v v' : Value} {k n : Nat} {xs ys : List Int} {z : Int} {cs : Array Value} (hys : ys = xs ++ [z]) (HO : wr.ownsRow w.heap.size 3 1 v k (nums .i64 xs)) (HB : Below w.heap.size w wr) (HK : wr.heap[w.heap.size + 1]? = some (.cells cs 40 (0, 0)))
    (hown : w2.ownsRow w.heap.size 3 1 v' (k + 1) (nums .i64 xs ++ [.int .i64 z])) (hg : ((wr.drewN n).alloc (.cells #[.int .i64 z] 3)).grownBy w2 v.ownBlock) :
    Aside0 (w2.ownsRow w.heap.size 3 1 v' (k + 1) (nums .i64 ys)) ∧ Aside0 (Below w.heap.size w w2) ∧ Aside0 (w2.heap[w.heap.size + 1]? = some (.cells cs 40 (0, 0))) := by
  refine ⟨⟨?_⟩, ⟨?_⟩, ⟨?_⟩⟩
  · rw [hys]
    simpa [nums] using hown
  · exact Below.grown (below_alloc (pw_below_drewN HB n) _) hg (below_alloc (pw_below_drewN HB n) _).size (fun q hq => own_base HO q hq)
  · exact blk_grown (blk_alloc (blk_drewN HK n) _) hg (own_ne HO HK (by decide))
set_option maxHeartbeats 8000000 in
theorem pairs_calls (g : Nat) (hg : g = 57 ∨ g = 59) {T : ByteArray → Option ByteArray} {a b : List ByteArray} {A1 B1 : Option Addr} {c1 d1 : Nat} {vA2 vA3 vB2 vB3 : Value} {w : World}
    (ha : Kd.string.C w A1 a.length a) (hb : Kd.string.C w B1 b.length b) (hd : b.length ≤ d1) (hT : Turns g T a) (hsz : a.length * 16 ≤ 140737488351232)
    (h2 : vA2.oneCell' = true) (h3 : vA3.oneCell' = true) (h4 : vB2.oneCell' = true) (h5 : vB3.oneCell' = true) :
    Calls Try.prog 56 #[.agg #[.slice A1 a.length c1, vA2, vA3], .agg #[.slice B1 b.length d1, vB2, vB3], .func (.func g) #[] #[]] w
      fun e w' => ∃ (A : Option Addr) (cap : Nat), e = .returned (.slice A (pairsF T a b).length cap) ∧ (pairsF T a b).length ≤ cap ∧ (Kd.int .i64).C w' A (pairsF T a b).length (pairsF T a b) ∧ Below w.heap.size w w' := by
  have HA := Aside0.mk ha
  have HB0 := Aside0.mk hb
  have HT := Aside0.mk hT
  have hm1 : a.length ≤ 9223372036854775807 := ha.2.1
  obtain ⟨i0, hi, hz0, hz1, hz2⟩ := info_parts info3'
  clear ha hb hT
  have KB : Aside0 (((w.alloc (.cells #[.slice A1 a.length c1, vA2, vA3] 40)).alloc (.cells #[.slice B1 b.length d1, vB2, vB3] 40)).heap[w.heap.size + 1]? = some (.cells #[.slice B1 b.length d1, vB2, vB3] 40 (0, 0))) := by
    have h := blk_new (w.alloc (.cells #[.slice A1 a.length c1, vA2, vA3] 40)) (.cells #[.slice B1 b.length d1, vB2, vB3] 40)
    simp only [World.size_alloc] at h
    exact ⟨h⟩
  have HW0 := Aside0.mk (below_alloc (below_alloc (Below.refl w.heap.size w) (.cells #[.slice A1 a.length c1, vA2, vA3] 40)) (.cells #[.slice B1 b.length d1, vB2, vB3] 40))
  rcases hg with rfl | rfl
  · go_enter Try.func56, Try.ntmps56
    go_wp2_with fail
    go_loopw [7, 16] (fun v7 v16 wr => ∃ k : Nat, k ≤ a.length ∧ v16 = .int .i64 k ∧ Aside0 (wr.ownsRow w.heap.size 3 1 v7 k (nums .i64 ((pairsF T a b).take k))) ∧ Aside0 (Below w.heap.size w wr) ∧ Aside0 (wr.heap[w.heap.size + 1]? = some (.cells #[.slice B1 b.length d1, vB2, vB3] 40 (0, 0)))) (fun _ v16 _ => a.length - (intOf v16).toNat)
    case atStart => exact ⟨0, Nat.zero_le _, rfl, ⟨World.ownsRow_nil _ _ _ _⟩, HW0, KB⟩
    case round =>
      clear KB HW0
      obtain ⟨k, hk, rfl, HO, HB, HK⟩ := hrel
      by_cases hlt : k < a.length
      · obtain ⟨ad, rfl, _⟩ := HA.out.2.2 (by omega)
        have x0 : wr.cell? (ad.add k) = some (.string a[k]) := strs_cells (Kd.C_below HA.out HB.out) k (.string a[k]) (by simp [pw_strs, hlt])
        obtain ⟨t, ht⟩ := HT.out a[k] (List.getElem_mem hlt)
        have HP := Aside0.mk (pairs_take (T := T) (b := b) hlt)
        rcases ht with ⟨ht, hc⟩ | ⟨ht, hc⟩
        · rw [ht] at HP
          have HC := Aside0.mk hc
          clear ht hc
          generalize a[k] = s at *
          go_wp2_with fail
          refine (HC.out _).mono ?_
          rintro e w1 ⟨rfl, ⟨n1, rfl⟩⟩
          have z0 : wr.cell? ⟨w.heap.size + 1, 0, none⟩ = some (.slice B1 b.length d1) := (blk_cell HK.out 0).trans rfl
          go_wp2_with fail
          refine (index_calls (Kd.C_below HB0.out (pw_below_drewN HB.out _)) hd).mono ?_
          rintro e w1 ⟨rfl, ⟨n2, rfl⟩⟩
          clear z0
          have hw2 := hlt
          go_wp2_with (at_builtin; refine wpList_append_own _ rfl (.tmp 31) (.tmp 33) 28 rfl w.heap.size 3 i0 (.int .i64 0) 1 8 Try.underlying28 hi hz0 hz1 hz2 rfl (by decide) _ k (nums .i64 ((pairsF T a b).take k)) rfl (World.ownsRow.alloc (show (wr.drewN (n1 + n2)).ownsRow w.heap.size 3 1 _ k (nums .i64 ((pairsF T a b).take k)) from HO.out) _) ⟨wr.heap.size, 0, none⟩ 1 1 [.int .i64 (ixB t b)] rfl rfl ?ap1 ?ap2 ?ap3 ?ap4 ?ap5 ?_)
          case ap1 =>
            intro j u hj
            match j, hj with
            | 0, hj =>
              obtain rfl : Value.int .i64 (ixB t b) = u := by simpa using hj
              exact (blk_cell (blk_new (wr.drewN (n1 + n2)) (.cells #[.int .i64 (ixB t b)] 3)) 0).trans rfl
          case ap2 =>
            intro u hu
            obtain rfl : u = Value.int .i64 (ixB t b) := by simpa using hu
            rfl
          case ap3 => simp only [maxLen]; omega
          case ap4 => omega
          case ap5 => exact (below_alloc (pw_below_drewN HB.out _) _).size
          intro v' w2 hown hgrow _
          obtain ⟨R1, R2, R3⟩ := pairs_round HP.out HO.out HB.out HK.out hown hgrow
          clear hown hgrow HO HB HK HP
          go_wp2_with fail
          go_roundw
          case rel => exact ⟨k + 1, by omega, by go_num, R1, R2, R3⟩
          case measure => simp [intOf]; omega
        · rw [ht] at HP
          have HC := Aside0.mk hc
          clear ht hc
          generalize a[k] = s at *
          go_wp2_with fail
          refine (HC.out _).mono ?_
          rintro e w1 ⟨rfl, ⟨n1, rfl⟩⟩
          have hw2 := hlt
          go_wp2_with (at_builtin; refine wpList_append_own _ rfl (.tmp 31) (.tmp 33) 28 rfl w.heap.size 3 i0 (.int .i64 0) 1 8 Try.underlying28 hi hz0 hz1 hz2 rfl (by decide) _ k (nums .i64 ((pairsF T a b).take k)) rfl (World.ownsRow.alloc (show (wr.drewN (n1)).ownsRow w.heap.size 3 1 _ k (nums .i64 ((pairsF T a b).take k)) from HO.out) _) ⟨wr.heap.size, 0, none⟩ 1 1 [.int .i64 (-1)] rfl rfl ?aq1 ?aq2 ?aq3 ?aq4 ?aq5 ?_)
          case aq1 =>
            intro j u hj
            match j, hj with
            | 0, hj =>
              obtain rfl : Value.int .i64 (-1) = u := by simpa using hj
              exact (blk_cell (blk_new (wr.drewN (n1)) (.cells #[.int .i64 (-1)] 3)) 0).trans rfl
          case aq2 =>
            intro u hu
            obtain rfl : u = Value.int .i64 (-1) := by simpa using hu
            rfl
          case aq3 => simp only [maxLen]; omega
          case aq4 => omega
          case aq5 => exact (below_alloc (pw_below_drewN HB.out _) _).size
          intro v' w2 hown hgrow _
          obtain ⟨R1, R2, R3⟩ := pairs_round HP.out HO.out HB.out HK.out hown hgrow
          clear hown hgrow HO HB HK HP
          go_wp2_with fail
          go_roundw
          case rel => exact ⟨k + 1, by omega, by go_num, R1, R2, R3⟩
          case measure => simp [intOf]; omega
      · have HE := Aside0.mk (show (pairsF T a b).take k = pairsF T a b from List.take_of_length_le (by simp [pairsF]; omega))
        have HL2 := Aside0.mk (show k = (pairsF T a b).length by simp [pairsF]; omega)
        have HO2 := HO.out
        rw [HE.out] at HO2
        rw [HL2.out] at HO2
        obtain ⟨A, cap, hv, hc1, hc2⟩ := C_of_ownI HO2
        have HV := Aside0.mk hv
        have HC := Aside0.mk hc2
        clear HO2 hv hc2
        go_wp2_with fail
        go_ret
        exact ⟨A, cap, by rw [← HV.out]; rfl, hc1, HC.out, HB.out⟩
  · go_enter Try.func56, Try.ntmps56
    go_wp2_with fail
    go_loopw [7, 16] (fun v7 v16 wr => ∃ k : Nat, k ≤ a.length ∧ v16 = .int .i64 k ∧ Aside0 (wr.ownsRow w.heap.size 3 1 v7 k (nums .i64 ((pairsF T a b).take k))) ∧ Aside0 (Below w.heap.size w wr) ∧ Aside0 (wr.heap[w.heap.size + 1]? = some (.cells #[.slice B1 b.length d1, vB2, vB3] 40 (0, 0)))) (fun _ v16 _ => a.length - (intOf v16).toNat)
    case atStart => exact ⟨0, Nat.zero_le _, rfl, ⟨World.ownsRow_nil _ _ _ _⟩, HW0, KB⟩
    case round =>
      clear KB HW0
      obtain ⟨k, hk, rfl, HO, HB, HK⟩ := hrel
      by_cases hlt : k < a.length
      · obtain ⟨ad, rfl, _⟩ := HA.out.2.2 (by omega)
        have x0 : wr.cell? (ad.add k) = some (.string a[k]) := strs_cells (Kd.C_below HA.out HB.out) k (.string a[k]) (by simp [pw_strs, hlt])
        obtain ⟨t, ht⟩ := HT.out a[k] (List.getElem_mem hlt)
        have HP := Aside0.mk (pairs_take (T := T) (b := b) hlt)
        rcases ht with ⟨ht, hc⟩ | ⟨ht, hc⟩
        · rw [ht] at HP
          have HC := Aside0.mk hc
          clear ht hc
          generalize a[k] = s at *
          go_wp2_with fail
          refine (HC.out _).mono ?_
          rintro e w1 ⟨rfl, ⟨n1, rfl⟩⟩
          have z0 : wr.cell? ⟨w.heap.size + 1, 0, none⟩ = some (.slice B1 b.length d1) := (blk_cell HK.out 0).trans rfl
          go_wp2_with fail
          refine (index_calls (Kd.C_below HB0.out (pw_below_drewN HB.out _)) hd).mono ?_
          rintro e w1 ⟨rfl, ⟨n2, rfl⟩⟩
          clear z0
          have hw2 := hlt
          go_wp2_with (at_builtin; refine wpList_append_own _ rfl (.tmp 31) (.tmp 33) 28 rfl w.heap.size 3 i0 (.int .i64 0) 1 8 Try.underlying28 hi hz0 hz1 hz2 rfl (by decide) _ k (nums .i64 ((pairsF T a b).take k)) rfl (World.ownsRow.alloc (show (wr.drewN (n1 + n2)).ownsRow w.heap.size 3 1 _ k (nums .i64 ((pairsF T a b).take k)) from HO.out) _) ⟨wr.heap.size, 0, none⟩ 1 1 [.int .i64 (ixB t b)] rfl rfl ?bp1 ?bp2 ?bp3 ?bp4 ?bp5 ?_)
          case bp1 =>
            intro j u hj
            match j, hj with
            | 0, hj =>
              obtain rfl : Value.int .i64 (ixB t b) = u := by simpa using hj
              exact (blk_cell (blk_new (wr.drewN (n1 + n2)) (.cells #[.int .i64 (ixB t b)] 3)) 0).trans rfl
          case bp2 =>
            intro u hu
            obtain rfl : u = Value.int .i64 (ixB t b) := by simpa using hu
            rfl
          case bp3 => simp only [maxLen]; omega
          case bp4 => omega
          case bp5 => exact (below_alloc (pw_below_drewN HB.out _) _).size
          intro v' w2 hown hgrow _
          obtain ⟨R1, R2, R3⟩ := pairs_round HP.out HO.out HB.out HK.out hown hgrow
          clear hown hgrow HO HB HK HP
          go_wp2_with fail
          go_roundw
          case rel => exact ⟨k + 1, by omega, by go_num, R1, R2, R3⟩
          case measure => simp [intOf]; omega
        · rw [ht] at HP
          have HC := Aside0.mk hc
          clear ht hc
          generalize a[k] = s at *
          go_wp2_with fail
          refine (HC.out _).mono ?_
          rintro e w1 ⟨rfl, ⟨n1, rfl⟩⟩
          have hw2 := hlt
          go_wp2_with (at_builtin; refine wpList_append_own _ rfl (.tmp 31) (.tmp 33) 28 rfl w.heap.size 3 i0 (.int .i64 0) 1 8 Try.underlying28 hi hz0 hz1 hz2 rfl (by decide) _ k (nums .i64 ((pairsF T a b).take k)) rfl (World.ownsRow.alloc (show (wr.drewN (n1)).ownsRow w.heap.size 3 1 _ k (nums .i64 ((pairsF T a b).take k)) from HO.out) _) ⟨wr.heap.size, 0, none⟩ 1 1 [.int .i64 (-1)] rfl rfl ?bq1 ?bq2 ?bq3 ?bq4 ?bq5 ?_)
          case bq1 =>
            intro j u hj
            match j, hj with
            | 0, hj =>
              obtain rfl : Value.int .i64 (-1) = u := by simpa using hj
              exact (blk_cell (blk_new (wr.drewN (n1)) (.cells #[.int .i64 (-1)] 3)) 0).trans rfl
          case bq2 =>
            intro u hu
            obtain rfl : u = Value.int .i64 (-1) := by simpa using hu
            rfl
          case bq3 => simp only [maxLen]; omega
          case bq4 => omega
          case bq5 => exact (below_alloc (pw_below_drewN HB.out _) _).size
          intro v' w2 hown hgrow _
          obtain ⟨R1, R2, R3⟩ := pairs_round HP.out HO.out HB.out HK.out hown hgrow
          clear hown hgrow HO HB HK HP
          go_wp2_with fail
          go_roundw
          case rel => exact ⟨k + 1, by omega, by go_num, R1, R2, R3⟩
          case measure => simp [intOf]; omega
      · have HE := Aside0.mk (show (pairsF T a b).take k = pairsF T a b from List.take_of_length_le (by simp [pairsF]; omega))
        have HL2 := Aside0.mk (show k = (pairsF T a b).length by simp [pairsF]; omega)
        have HO2 := HO.out
        rw [HE.out] at HO2
        rw [HL2.out] at HO2
        obtain ⟨A, cap, hv, hc1, hc2⟩ := C_of_ownI HO2
        have HV := Aside0.mk hv
        have HC := Aside0.mk hc2
        clear HO2 hv hc2
        go_wp2_with fail
        go_ret
        exact ⟨A, cap, by rw [← HV.out]; rfl, hc1, HC.out, HB.out⟩
end Go.Proofs.Ytmpmcffhlnlejaa.SubEq
end
section
namespace Go.Proofs.Ytmpmcffhlnlejaa.SubEq
open Go.RowKit Go.Proofs.YtmpmcffhlnlejaaW.PrintWords Go.Proofs.YtmpmcffhlnlejaaW.PrintLast Go.Proofs.YtmpmcffhlnlejaaW.PrintMore
open Go.Proofs.Ytmpmcffhlnlejaa.PSubFits
set_option linter.unusedVariables false
set_option linter.unusedSimpArgs false
/-- A contract. -/
structure Con where
  res : List ByteArray
  ins : List S27
  outs : List S27
/-- Where a contract's value leads. -/
structure ConAt (w : World) (a : Con) (A1 : Option Addr) (c1 : Nat) (A2 : Option Addr) (c2 : Nat) (A3 : Option Addr) (c3 : Nat) : Prop where
  h1 : Kd.string.C w A1 a.res.length a.res
  l1 : a.res.length ≤ c1
  h2 : k27.C w A2 a.ins.length a.ins
  l2 : a.ins.length ≤ c2
  h3 : k27.C w A3 a.outs.length a.outs
  l3 : a.outs.length ≤ c3
theorem ConAt.below {w w' : World} {a : Con} {A1 : Option Addr} {c1 : Nat} {A2 : Option Addr} {c2 : Nat} {A3 : Option Addr} {c3 : Nat} (h : ConAt w a A1 c1 A2 c2 A3 c3) (hb : Below w.heap.size w w') : ConAt w' a A1 c1 A2 c2 A3 c3 :=
  ⟨Kd.C_below h.h1 hb, h.l1, Kd.C_below h.h2 hb, h.l2, Kd.C_below h.h3 hb, h.l3⟩
def linksF (a b : Con) : Int := allF b.outs (pairsF impT a.res b.res) a.ins
set_option maxHeartbeats 8000000 in
theorem links_calls (a b : Con) (W : World) (A1 : Option Addr) (ac1 : Nat) (A2 : Option Addr) (ac2 : Nat) (A3 : Option Addr) (ac3 : Nat) (B1 : Option Addr) (bc1 : Nat) (B2 : Option Addr) (bc2 : Nat) (B3 : Option Addr) (bc3 : Nat)
    (ha : ConAt W a A1 ac1 A2 ac2 A3 ac3) (hb : ConAt W b B1 bc1 B2 bc2 B3 bc3) (hza : a.res.length * 16 ≤ 140737488351232) (hss : ∀ s ∈ a.res, s.size ≤ 140737488351232) :
    Calls Try.prog 26 #[.agg #[.slice A1 a.res.length ac1, .slice A2 a.ins.length ac2, .slice A3 a.outs.length ac3], .agg #[.slice B1 b.res.length bc1, .slice B2 b.ins.length bc2, .slice B3 b.outs.length bc3]] W fun e w' => e = .returned (.int .i64 (linksF a b)) ∧ Below W.heap.size W w' := by
  have HSS := Aside0.mk hss
  clear hss
  have HA := Aside0.mk ha
  have HB := Aside0.mk hb
  clear ha hb
  go_enter Try.func26, Try.ntmps26
  go_wp2_with fail
  have K1 := blk_alloc (blk_new W (.cells #[.slice A1 a.res.length ac1, .slice A2 a.ins.length ac2, .slice A3 a.outs.length ac3] 40)) (.cells #[.slice B1 b.res.length bc1, .slice B2 b.ins.length bc2, .slice B3 b.outs.length bc3] 40)
  have K2 := blk_new (W.alloc (.cells #[.slice A1 a.res.length ac1, .slice A2 a.ins.length ac2, .slice A3 a.outs.length ac3] 40)) (.cells #[.slice B1 b.res.length bc1, .slice B2 b.ins.length bc2, .slice B3 b.outs.length bc3] 40)
  simp only [World.size_alloc] at K2
  have HW := Aside0.mk (below_alloc (below_alloc (Below.refl W.heap.size W) (.cells #[.slice A1 a.res.length ac1, .slice A2 a.ins.length ac2, .slice A3 a.outs.length ac3] 40)) (.cells #[.slice B1 b.res.length bc1, .slice B2 b.ins.length bc2, .slice B3 b.outs.length bc3] 40))
  generalize (W.alloc (.cells #[.slice A1 a.res.length ac1, .slice A2 a.ins.length ac2, .slice A3 a.outs.length ac3] 40)).alloc (.cells #[.slice B1 b.res.length bc1, .slice B2 b.ins.length bc2, .slice B3 b.outs.length bc3] 40) = wb at *
  have hS : ∀ w', Below wb.heap.size wb w' → Aside0 (Below wb.heap.size wb w') ∧ w'.cell? ⟨W.heap.size, 0, none⟩ = some (.slice A1 a.res.length ac1) ∧ w'.cell? ⟨W.heap.size, 1, none⟩ = some (.slice A2 a.ins.length ac2) ∧ w'.cell? ⟨W.heap.size, 2, none⟩ = some (.slice A3 a.outs.length ac3) ∧ w'.cell? ⟨W.heap.size + 1, 0, none⟩ = some (.slice B1 b.res.length bc1) ∧ w'.cell? ⟨W.heap.size + 1, 1, none⟩ = some (.slice B2 b.ins.length bc2) ∧ w'.cell? ⟨W.heap.size + 1, 2, none⟩ = some (.slice B3 b.outs.length bc3) := fun w' hq => ⟨⟨hq⟩, (blk_cell (blk_below K1 hq) 0).trans rfl, (blk_cell (blk_below K1 hq) 1).trans rfl, (blk_cell (blk_below K1 hq) 2).trans rfl, (blk_cell (blk_below K2 hq) 0).trans rfl, (blk_cell (blk_below K2 hq) 1).trans rfl, (blk_cell (blk_below K2 hq) 2).trans rfl⟩
  have HS := Aside0.mk hS
  clear hS K1 K2
  go_region_held3 (fun w' => Aside0 (Below wb.heap.size wb w') ∧ w'.cell? ⟨W.heap.size, 0, none⟩ = some (.slice A1 a.res.length ac1) ∧ w'.cell? ⟨W.heap.size, 1, none⟩ = some (.slice A2 a.ins.length ac2) ∧ w'.cell? ⟨W.heap.size, 2, none⟩ = some (.slice A3 a.outs.length ac3) ∧ w'.cell? ⟨W.heap.size + 1, 0, none⟩ = some (.slice B1 b.res.length bc1) ∧ w'.cell? ⟨W.heap.size + 1, 1, none⟩ = some (.slice B2 b.ins.length bc2) ∧ w'.cell? ⟨W.heap.size + 1, 2, none⟩ = some (.slice B3 b.outs.length bc3))
    (first
      | exact HS.out _ (Below.refl _ _)
      | exact HS.out _ (below_drew1 (Below.refl _ _))
      | exact HS.out _ (below_step hq0.out hq)
      | assumption)
    (first
      | (go_at_call 56; obtain ⟨hq0, _⟩ := ‹Aside0 (Below wb.heap.size wb _) ∧ _›; have hq1 := below_step HW.out hq0.out; refine (pairs_calls 59 (.inr rfl) (HA.out.below hq1).h1 (HB.out.below hq1).h1 HB.out.l1 (exported_turns _ HSS.out) hza rfl rfl rfl rfl).mono ?_; rintro e w' ⟨MA, mc, rfl, hmc, hmm, hq⟩; have HMC := Aside0.mk hmm; clear hmm)
      | (go_at_call 55; obtain ⟨hq0, _⟩ := ‹Aside0 (Below wb.heap.size wb _) ∧ _›; have hq1 := below_step HW.out hq0.out; refine (all_calls (HA.out.below hq1).h2 (HB.out.below hq1).h3 HMC.out hmc).mono ?_; rintro e w' ⟨rfl, hq⟩))
  obtain ⟨hq9, _⟩ := ‹Aside0 (Below wb.heap.size wb _) ∧ _›
  have HE := Aside0.mk (below_step HW.out hq9.out)
  go_wp2_with fail
  go_ret
  exact ⟨rfl, HE.out⟩
end Go.Proofs.Ytmpmcffhlnlejaa.SubEq
end
