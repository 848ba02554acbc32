/- Contracts of slices.IndexFunc over functions' names, subtype.find and subtype.all. -/
import Derived.Test.YtmpmcffhlnlejaaSubAwk
namespace Go.Proofs.Ytmpmcffhlnlejaa.SubEq
open Go.RowKit Go.Proofs.YtmpmcffhlnlejaaW.PrintWords Go.Proofs.YtmpmcffhlnlejaaW.PrintLast Go.Proofs.YtmpmcffhlnlejaaW.PrintMore
open Go.Proofs.Ytmpmcffhlnlejaa.PSubFits
set_option linter.unusedVariables false
set_option linter.unusedSimpArgs false

/-- The place of the first function of a name; -1: there is none. -/
def ixF (nm : ByteArray) : List S27 → Int
  | [] => -1
  | x :: xs => if x.f0 = nm then 0 else if ixF nm xs < 0 then -1 else ixF nm xs + 1

theorem ixF_ge (nm : ByteArray) : ∀ l : List S27, -1 ≤ ixF nm l
  | [] => by simp [ixF]
  | x :: xs => by
    have := ixF_ge nm xs
    unfold ixF
    split
    · omega
    · split <;> omega
theorem ixF_lt (nm : ByteArray) : ∀ l : List S27, ixF nm l < (l.length : Int)
  | [] => by simp [ixF]
  | x :: xs => by
    have := ixF_lt nm xs
    unfold ixF
    simp only [List.length_cons]
    split
    · omega
    · split <;> omega
theorem ixF_find (nm : ByteArray) : ∀ l : List S27, (ixF nm l < 0 ∧ l.find? (fun y => decide (y.f0 = nm)) = none) ∨ (∃ i : Nat, ∃ h : i < l.length, ixF nm l = (i : Int) ∧ l.find? (fun y => decide (y.f0 = nm)) = some l[i])
  | [] => .inl ⟨by simp [ixF], rfl⟩
  | x :: xs => by
    by_cases hx : x.f0 = nm
    · exact .inr ⟨0, by simp, by simp [ixF, hx], by simp [List.find?, hx]⟩
    · rcases ixF_find nm xs with ⟨h1, h2⟩ | ⟨i, hi, h1, h2⟩
      · refine .inl ⟨?_, by simp [List.find?, hx, h2]⟩
        unfold ixF
        rw [if_neg hx, if_pos h1]
        omega
      · refine .inr ⟨i + 1, by simp; omega, ?_, by simp [List.find?, hx, h2]⟩
        unfold ixF
        rw [if_neg hx, if_neg (by omega), h1]
        omega

/-- The place, counted from k on. -/
def ixFrom (nm : ByteArray) (l : List S27) (k : Nat) : Int := if ixF nm (l.drop k) < 0 then -1 else ixF nm (l.drop k) + k
theorem ixFrom_zero (nm : ByteArray) (l : List S27) : ixFrom nm l 0 = ixF nm l := by
  have := ixF_ge nm l
  unfold ixFrom
  rw [List.drop_zero]
  split <;> omega
theorem rdT27_eq {xs : List S27} {k : Nat} (hk : k < xs.length) : rd_T27 xs (k : Int) = xs[k] := by
  simp [rd_T27, List.getD, hk]
theorem ixFrom_hit {nm : ByteArray} {l : List S27} {k : Nat} (h : k < l.length) (he : (rd_T27 l (k : Int)).f0 = nm) : ixFrom nm l k = (k : Int) := by
  rw [rdT27_eq h] at he
  unfold ixFrom
  rw [List.drop_eq_getElem_cons h]
  simp [ixF, he]
theorem ixFrom_miss {nm : ByteArray} {l : List S27} {k : Nat} (h : k < l.length) (he : (rd_T27 l (k : Int)).f0 ≠ nm) : ixFrom nm l k = ixFrom nm l (k + 1) := by
  rw [rdT27_eq h] at he
  unfold ixFrom
  rw [List.drop_eq_getElem_cons h]
  have e : ixF nm (l[k] :: l.drop (k + 1)) = if ixF nm (l.drop (k + 1)) < 0 then -1 else ixF nm (l.drop (k + 1)) + 1 := by
    rw [ixF, if_neg he]
  rw [e]
  by_cases hs : ixF nm (l.drop (k + 1)) < 0
  · rw [if_pos hs, if_pos (by omega), if_pos hs]
  · rw [if_neg hs, if_neg (by omega), if_neg hs]
    omega
theorem ixFrom_end {nm : ByteArray} {l : List S27} {k : Nat} (h : l.length ≤ k) : ixFrom nm l k = -1 := by
  unfold ixFrom
  rw [List.drop_eq_nil_of_le h]
  simp [ixF]

theorem names_beq (a b : ByteArray) : (a.toList == b.toList) = decide (a = b) := by
  by_cases h : a = b
  · rw [h, decide_eq_true rfl]; simp
  · rw [decide_eq_false h]
    exact beq_eq_false_iff_ne.mpr (fun e => h (bytes_ext e))

theorem find1_calls (x : S27) (nm : ByteArray) (B : Nat) (W : World) (A1 : Option Addr) (c1 : Nat) (A2 : Option Addr) (c2 : Nat) (A4 : Option Addr) (c4 : Nat) (A5 : Option Addr) (c5 : Nat) (hB : W.cell? ⟨B, 0, none⟩ = some (.string nm)) :
    Calls Try.prog 95 #[.agg #[.string x.f0, .slice A1 x.f1.length c1, .slice A2 x.f2.length c2, .int .i64 x.f3.f0, .slice A4 x.f3.f1.length c4, .slice A5 x.f3.f2.length c5, .int .i64 x.f3.f3], .pointer (some ⟨B, 0, none⟩)] W
      fun e w' => e = .returned (.bool (decide (x.f0 = nm))) ∧ Below W.heap.size W w' := by
  have hB' := fun o => (World.cell?_alloc_lt W o ⟨B, 0, none⟩ (World.block_lt_of_cell? W _ hB)).trans hB
  have he := names_beq x.f0 nm
  clear hB
  go_enter Try.func95, Try.ntmps95
  go_wp2_with fail
  go_ret
  exact ⟨rfl, below_alloc (Below.refl _ _) _⟩

set_option maxHeartbeats 1000000 in
theorem ixfunc_calls (B : Nat) {A : Option Addr} {c : Nat} {l : List S27} {nm : ByteArray} {w : World} (hl : k27.C w A l.length l) (hB : w.cell? ⟨B, 0, none⟩ = some (.string nm)) :
    Calls Try.prog 94 #[.slice A l.length c, .func (.func 95) #[] #[.pointer (some ⟨B, 0, none⟩)]] w fun e w' => e = .returned (.int .i64 (ixF nm l)) ∧ Below w.heap.size w w' := by
  have hm1 : l.length ≤ 9223372036854775807 := hl.2.1
  have HL := Aside0.mk hl
  have HB0 := Aside0.mk hB
  clear hl hB
  go_enter Try.func94, Try.ntmps94
  go_wp2_with fail
  go_loopw [8] (fun v8 wr => ∃ k : Nat, k ≤ l.length ∧ v8 = .int .i64 k ∧ Aside0 (Below w.heap.size w wr) ∧ Aside0 (ixF nm l = ixFrom nm l k)) (fun v8 _ => l.length - (intOf v8).toNat)
  case atStart => exact ⟨0, Nat.zero_le _, rfl, ⟨Below.refl _ _⟩, ⟨(ixFrom_zero nm l).symm⟩⟩
  case round =>
    obtain ⟨k, hk, rfl, HB, HE⟩ := hrel
    by_cases hlt : k < l.length
    · obtain ⟨ad, A1, c1, A2, c2, A4, c4, A5, c5, rfl, x0, x1, x2, x3, x4, x5, x6, _⟩ := at_T27 (Kd.C_below HL.out HB.out) (k : Int) (by omega) (by omega)
      rw [Int.toNat_natCast] at x0 x1 x2 x3 x4 x5 x6
      have M1 := Aside0.mk (fun h => ixFrom_hit (nm := nm) (l := l) (k := k) hlt h)
      have M2 := Aside0.mk (fun h => ixFrom_miss (nm := nm) (l := l) (k := k) hlt h)
      generalize rd_T27 l (k : Int) = x at *
      go_wp2_with fail
      refine (find1_calls x nm B _ A1 c1 A2 c2 A4 c4 A5 c5 ((HB.out.cell (p := ⟨B, 0, none⟩) (World.block_lt_of_cell? w _ HB0.out)).trans HB0.out)).mono ?_
      rintro e w1 ⟨rfl, hb⟩
      have HB1 := Aside0.mk (below_step HB.out hb)
      clear hb HB x0 x1 x2 x3 x4 x5 x6
      by_cases he : x.f0 = nm
      · rw [decide_eq_true he]
        have HR := Aside0.mk (HE.out.trans (M1.out he))
        clear he
        go_wp2_with fail
        go_ret
        exact ⟨by rw [HR.out]; rfl, HB1.out⟩
      · rw [decide_eq_false he]
        have HR := Aside0.mk (HE.out.trans (M2.out he))
        clear he
        go_wp2_with fail
        go_roundw
        case rel => exact ⟨k + 1, by omega, by go_num, HB1, HR⟩
        case measure => simp [intOf]; omega
    · have HR := Aside0.mk (HE.out.trans (ixFrom_end (by omega)))
      go_wp2_with fail
      go_ret
      exact ⟨by rw [HR.out]; rfl, HB.out⟩

set_option maxHeartbeats 1000000 in
theorem find_no {A : Option Addr} {c : Nat} {l : List S27} {nm : ByteArray} {w : World} (hl : k27.C w A l.length l) (hn : ixF nm l < 0) :
    Calls Try.prog 78 #[.slice A l.length c, .string nm] w fun e w' => e = .returned (.tuple #[.agg #[.string ⟨#[]⟩, .slice none 0 0, .slice none 0 0, .int .i64 0, .slice none 0 0, .slice none 0 0, .int .i64 0], .bool false]) ∧ Below w.heap.size w w' := by
  have HL := Aside0.mk hl
  clear hl
  go_enter Try.func78, Try.ntmps78
  go_wp2_with fail
  have K0 := blk_new (w.alloc (.cells #[.string nm] 9)) (.cells #[.string ⟨#[]⟩, .slice none 0 0, .slice none 0 0, .int .i64 0, .slice none 0 0, .slice none 0 0, .int .i64 0] 27)
  simp only [World.size_alloc] at K0
  have hb0 := below_alloc (below_alloc (Below.refl w.heap.size w) (.cells #[.string nm] 9)) (.cells #[.string ⟨#[]⟩, .slice none 0 0, .slice none 0 0, .int .i64 0, .slice none 0 0, .slice none 0 0, .int .i64 0] 27)
  refine (ixfunc_calls w.heap.size (nm := nm) (Kd.C_below HL.out hb0) ((blk_cell (blk_alloc (blk_new w (.cells #[.string nm] 9)) _) 0).trans rfl)).mono ?_
  rintro e w1 ⟨rfl, hb⟩
  have K1 := blk_below K0 hb
  have HB := Aside0.mk (below_step hb0 hb)
  have z0 : w1.cell? ⟨w.heap.size + 1, 0, none⟩ = some (.string ⟨#[]⟩) := (blk_cell K1 0).trans rfl
  have f0 : w1.frozen? ⟨w.heap.size + 1, 0, none⟩ = false := blk_frozen K1 0
  have z1 : w1.cell? ⟨w.heap.size + 1, 1, none⟩ = some (.slice none 0 0) := (blk_cell K1 1).trans rfl
  have f1 : w1.frozen? ⟨w.heap.size + 1, 1, none⟩ = false := blk_frozen K1 1
  have z2 : w1.cell? ⟨w.heap.size + 1, 2, none⟩ = some (.slice none 0 0) := (blk_cell K1 2).trans rfl
  have f2 : w1.frozen? ⟨w.heap.size + 1, 2, none⟩ = false := blk_frozen K1 2
  have z3 : w1.cell? ⟨w.heap.size + 1, 3, none⟩ = some (.int .i64 0) := (blk_cell K1 3).trans rfl
  have f3 : w1.frozen? ⟨w.heap.size + 1, 3, none⟩ = false := blk_frozen K1 3
  have z4 : w1.cell? ⟨w.heap.size + 1, 4, none⟩ = some (.slice none 0 0) := (blk_cell K1 4).trans rfl
  have f4 : w1.frozen? ⟨w.heap.size + 1, 4, none⟩ = false := blk_frozen K1 4
  have z5 : w1.cell? ⟨w.heap.size + 1, 5, none⟩ = some (.slice none 0 0) := (blk_cell K1 5).trans rfl
  have f5 : w1.frozen? ⟨w.heap.size + 1, 5, none⟩ = false := blk_frozen K1 5
  have z6 : w1.cell? ⟨w.heap.size + 1, 6, none⟩ = some (.int .i64 0) := (blk_cell K1 6).trans rfl
  have f6 : w1.frozen? ⟨w.heap.size + 1, 6, none⟩ = false := blk_frozen K1 6
  have s1 := blk_lt K1
  clear K0 hb0 hb K1
  have hd : decide (ixF nm l < 0) = true := decide_eq_true hn
  go_wp2_with fail
  exact bodyPost_ret (v := .tuple #[.agg #[.string ⟨#[]⟩, .slice none 0 0, .slice none 0 0, .int .i64 0, .slice none 0 0, .slice none 0 0, .int .i64 0], .bool false]) (by simp [results, Try.results78, go_sem, *]) rfl ⟨rfl, (((((((HB.out.setCell (p := ⟨w.heap.size + 1, 0, none⟩) (by simp) _).setCell (p := ⟨w.heap.size + 1, 1, none⟩) (by simp) _).setCell (p := ⟨w.heap.size + 1, 2, none⟩) (by simp) _).setCell (p := ⟨w.heap.size + 1, 3, none⟩) (by simp) _).setCell (p := ⟨w.heap.size + 1, 4, none⟩) (by simp) _).setCell (p := ⟨w.heap.size + 1, 5, none⟩) (by simp) _).setCell (p := ⟨w.heap.size + 1, 6, none⟩) (by simp) _)⟩

set_option maxHeartbeats 2000000 in
theorem find_yes {A : Option Addr} {c : Nat} {l : List S27} {nm : ByteArray} {w : World} (hl : k27.C w A l.length l) {i : Nat} (hi : i < l.length) (hn : ixF nm l = (i : Int)) :
    Calls Try.prog 78 #[.slice A l.length c, .string nm] w fun e w' => ∃ (A1 : Option Addr) (c1 : Nat) (A2 : Option Addr) (c2 : Nat) (A4 : Option Addr) (c4 : Nat) (A5 : Option Addr) (c5 : Nat),
      e = .returned (.tuple #[.agg #[.string l[i].f0, .slice A1 l[i].f1.length c1, .slice A2 l[i].f2.length c2, .int .i64 l[i].f3.f0, .slice A4 l[i].f3.f1.length c4, .slice A5 l[i].f3.f2.length c5, .int .i64 l[i].f3.f3], .bool true]) ∧
      SigAt w l[i] A1 c1 A2 c2 A4 c4 A5 c5 ∧ Below w.heap.size w w' := by
  obtain ⟨ad, A1, c1, A2, c2, A4, c4, A5, c5, rfl, x0, x1, x2, x3, x4, x5, x6, l1, g1, l2, g2, l4, g4, l5, g5⟩ := at_T27 hl (i : Int) (by omega) (by omega)
  rw [Int.toNat_natCast] at x0 x1 x2 x3 x4 x5 x6
  have HS : Aside0 (SigAt w (rd_T27 l (i : Int)) A1 c1 A2 c2 A4 c4 A5 c5) := ⟨⟨g1, l1, g2, l2, ⟨g4, l4, g5, l5⟩⟩⟩
  have hm1 : l.length ≤ 9223372036854775807 := hl.2.1
  have HL := Aside0.mk hl
  rw [← rdT27_eq hi]
  clear hl l1 g1 l2 g2 l4 g4 l5 g5
  generalize rd_T27 l (i : Int) = x at *
  have hn' := Aside0.mk hn
  clear hn
  go_enter Try.func78, Try.ntmps78
  go_wp2_with fail
  have K0 := blk_new (w.alloc (.cells #[.string nm] 9)) (.cells #[.string ⟨#[]⟩, .slice none 0 0, .slice none 0 0, .int .i64 0, .slice none 0 0, .slice none 0 0, .int .i64 0] 27)
  simp only [World.size_alloc] at K0
  have hb0 := below_alloc (below_alloc (Below.refl w.heap.size w) (.cells #[.string nm] 9)) (.cells #[.string ⟨#[]⟩, .slice none 0 0, .slice none 0 0, .int .i64 0, .slice none 0 0, .slice none 0 0, .int .i64 0] 27)
  refine (ixfunc_calls w.heap.size (nm := nm) (Kd.C_below HL.out hb0) ((blk_cell (blk_alloc (blk_new w (.cells #[.string nm] 9)) _) 0).trans rfl)).mono ?_
  rintro e w1 ⟨rfl, hb⟩
  have K1 := blk_below K0 hb
  have HB := Aside0.mk (below_step hb0 hb)
  have z0 : w1.cell? ⟨w.heap.size + 1, 0, none⟩ = some (.string ⟨#[]⟩) := (blk_cell K1 0).trans rfl
  have f0 : w1.frozen? ⟨w.heap.size + 1, 0, none⟩ = false := blk_frozen K1 0
  have z1 : w1.cell? ⟨w.heap.size + 1, 1, none⟩ = some (.slice none 0 0) := (blk_cell K1 1).trans rfl
  have f1 : w1.frozen? ⟨w.heap.size + 1, 1, none⟩ = false := blk_frozen K1 1
  have z2 : w1.cell? ⟨w.heap.size + 1, 2, none⟩ = some (.slice none 0 0) := (blk_cell K1 2).trans rfl
  have f2 : w1.frozen? ⟨w.heap.size + 1, 2, none⟩ = false := blk_frozen K1 2
  have z3 : w1.cell? ⟨w.heap.size + 1, 3, none⟩ = some (.int .i64 0) := (blk_cell K1 3).trans rfl
  have f3 : w1.frozen? ⟨w.heap.size + 1, 3, none⟩ = false := blk_frozen K1 3
  have z4 : w1.cell? ⟨w.heap.size + 1, 4, none⟩ = some (.slice none 0 0) := (blk_cell K1 4).trans rfl
  have f4 : w1.frozen? ⟨w.heap.size + 1, 4, none⟩ = false := blk_frozen K1 4
  have z5 : w1.cell? ⟨w.heap.size + 1, 5, none⟩ = some (.slice none 0 0) := (blk_cell K1 5).trans rfl
  have f5 : w1.frozen? ⟨w.heap.size + 1, 5, none⟩ = false := blk_frozen K1 5
  have z6 : w1.cell? ⟨w.heap.size + 1, 6, none⟩ = some (.int .i64 0) := (blk_cell K1 6).trans rfl
  have f6 : w1.frozen? ⟨w.heap.size + 1, 6, none⟩ = false := blk_frozen K1 6
  have s1 := blk_lt K1
  clear K0 hb0 hb K1
  replace x0 := (HB.out.cell (World.block_lt_of_cell? w _ x0)).trans x0
  replace x1 := (HB.out.cell (World.block_lt_of_cell? w _ x1)).trans x1
  replace x2 := (HB.out.cell (World.block_lt_of_cell? w _ x2)).trans x2
  replace x3 := (HB.out.cell (World.block_lt_of_cell? w _ x3)).trans x3
  replace x4 := (HB.out.cell (World.block_lt_of_cell? w _ x4)).trans x4
  replace x5 := (HB.out.cell (World.block_lt_of_cell? w _ x5)).trans x5
  replace x6 := (HB.out.cell (World.block_lt_of_cell? w _ x6)).trans x6
  rw [hn'.out]
  go_wp2_with fail
  exact bodyPost_ret (v := .tuple #[.agg #[.string x.f0, .slice A1 x.f1.length c1, .slice A2 x.f2.length c2, .int .i64 x.f3.f0, .slice A4 x.f3.f1.length c4, .slice A5 x.f3.f2.length c5, .int .i64 x.f3.f3], .bool true]) (by simp [results, Try.results78, go_sem, *]) rfl ⟨A1, c1, A2, c2, A4, c4, A5, c5, rfl, HS.out, (((((((HB.out.setCell (p := ⟨w.heap.size + 1, 0, none⟩) (by simp) _).setCell (p := ⟨w.heap.size + 1, 1, none⟩) (by simp) _).setCell (p := ⟨w.heap.size + 1, 2, none⟩) (by simp) _).setCell (p := ⟨w.heap.size + 1, 3, none⟩) (by simp) _).setCell (p := ⟨w.heap.size + 1, 4, none⟩) (by simp) _).setCell (p := ⟨w.heap.size + 1, 5, none⟩) (by simp) _).setCell (p := ⟨w.heap.size + 1, 6, none⟩) (by simp) _)⟩
end Go.Proofs.Ytmpmcffhlnlejaa.SubEq
