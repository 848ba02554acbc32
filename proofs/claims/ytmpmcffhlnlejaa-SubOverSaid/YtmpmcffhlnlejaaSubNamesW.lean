/- The walk of the law SubNames: it returns true at whatever function and number. -/
import Derived.Test.YtmpmcffhlnlejaaSubAwk
namespace Go.Proofs.Ytmpmcffhlnlejaa.SubEq
open Go.RowKit Go.Proofs.YtmpmcffhlnlejaaW.PrintWords Go.Proofs.YtmpmcffhlnlejaaW.PrintLast Go.Proofs.YtmpmcffhlnlejaaW.PrintMore
open Go.Proofs.Ytmpmcffhlnlejaa.PSubFits
set_option linter.unusedVariables false
set_option linter.unusedSimpArgs false

/-- The value of a function. -/
abbrev sigV (x : S27) (A1 : Option Addr) (c1 : Nat) (A2 : Option Addr) (c2 : Nat) (A4 : Option Addr) (c4 : Nat) (A5 : Option Addr) (c5 : Nat) : Value :=
  .agg #[.string x.f0, .slice A1 x.f1.length c1, .slice A2 x.f2.length c2, .int .i64 x.f3.f0, .slice A4 x.f3.f1.length c4, .slice A5 x.f3.f2.length c5, .int .i64 x.f3.f3]

theorem names_calls {A1 A2 : Option Addr} {c1 c2 : Nat} {xs ys : List ByteArray} {w : World} (hx : Kd.string.C w A1 xs.length xs) (hc1 : xs.length ≤ c1) (hy : Kd.string.C w A2 ys.length ys) (hc2 : ys.length ≤ c2) :
    Calls Try.prog 20 #[.slice A1 xs.length c1, .slice A2 ys.length c2] w fun e w' => e = .returned (.bool (decide (xs = ys))) ∧ Drawn0 w w' := by
  obtain ⟨k, hk⟩ := (names_ev xs ys hx.2.1).rounds
  exact scarfref11_SameNames.calls k A1 c1 xs A2 c2 ys _ w hx hc1 hy hc2 hk

set_option maxHeartbeats 1000000 in
theorem law_names_edge (x : S27) (k : Int) (W : World) (A1 : Option Addr) (c1 : Nat) (A2 : Option Addr) (c2 : Nat) (A4 : Option Addr) (c4 : Nat) (A5 : Option Addr) (c5 : Nat)
    (hn : x.f1.length = 0 ∨ 100 < x.f1.length) :
    Calls Try.prog 4 #[.agg #[.string x.f0, .slice A1 x.f1.length c1, .slice A2 x.f2.length c2, .int .i64 x.f3.f0, .slice A4 x.f3.f1.length c4, .slice A5 x.f3.f2.length c5, .int .i64 x.f3.f3], .int .i64 k] W fun e w' => e = .returned (.bool true) ∧ Below W.heap.size W w' := by
  rcases hn with h0 | h1
  · have e0 : ((x.f1.length : Int) == 0) = true := beq_iff_eq.mpr (by omega)
    have e1 : (x.f1.length == 0) = true := beq_iff_eq.mpr h0
    clear h0
    go_enter Try.func4, Try.ntmps4
    go_wp2_with fail
    refine (awake_calls _).mono ?_
    rintro e w1 ⟨rfl, hb⟩
    have HB := Aside0.mk (below_step (below_alloc (Below.refl _ _) _) hb)
    clear hb
    go_wp2_with fail
    go_ret
    exact ⟨rfl, HB.out⟩
  · have e0 : ((x.f1.length : Int) == 0) = false := beq_eq_false_iff_ne.mpr (by omega)
    have e1 : (x.f1.length == 0) = false := beq_eq_false_iff_ne.mpr (by omega)
    have e2 : decide ((100 : Int) < (x.f1.length : Int)) = true := decide_eq_true (by omega)
    go_enter Try.func4, Try.ntmps4
    go_wp2_with fail
    refine (awake_calls _).mono ?_
    rintro e w1 ⟨rfl, hb⟩
    have HB := Aside0.mk (below_step (below_alloc (Below.refl _ _) _) hb)
    clear hb
    go_wp2_with fail
    go_ret
    exact ⟨rfl, HB.out⟩

theorem C_of_own {w : World} {base g cap : Nat} {xs : List ByteArray} (h : w.ownsRow base 9 1 (.slice (some ⟨g, 0, none⟩) xs.length cap) xs.length (pw_strs xs)) : Kd.string.C w (some ⟨g, 0, none⟩) xs.length xs := by
  refine ⟨rfl, ?_, fun hn => ⟨_, rfl, fun j p hj => ?_⟩⟩
  · rcases h.2 with ⟨h1, _⟩ | ⟨g', cap', cur, h1, _, _, hc, hm, _⟩
    · cases h1
    · simp only [maxLen] at hm
      omega
  · refine ⟨[.string p], rfl, rfl, fun i u hu => ?_⟩
    match i, hu with
    | 0, hu =>
      obtain rfl : Value.string p = u := by simpa using hu
      have := h.cells (g := g) rfl j (.string p) (by simp [pw_strs, hj])
      simpa [Kd.string, Kd.scalar] using this
theorem own_cap {w : World} {base g cap n : Nat} {vs : List Value} (h : w.ownsRow base 9 1 (.slice (some ⟨g, 0, none⟩) n cap) n vs) : n ≤ cap := by
  rcases h.2 with ⟨h1, _⟩ | ⟨g', cap', cur, h1, _, _, hc, _⟩
  · cases h1
  · injection h1 with _ _ h3
    omega

theorem set_ne (xs : List ByteArray) (j : Nat) (hj : j < xs.length) : xs ≠ xs.set j (xs[j] ++ ⟨#[120]⟩) := by
  intro e
  have h1 : xs[j]? = some xs[j] := List.getElem?_eq_getElem hj
  have h2 : (xs.set j (xs[j] ++ ⟨#[120]⟩))[j]? = some (xs[j] ++ ⟨#[120]⟩) := List.getElem?_set_self hj
  rw [← e, h1] at h2
  injection h2 with h2
  have h3 := congrArg ByteArray.size h2
  rw [ByteArray.size_append] at h3
  have h4 : (⟨#[120]⟩ : ByteArray).size = 1 := rfl
  omega

theorem blk_new2 (W : World) (o : Obj) (n : Nat) (o' : Obj) : (((W.alloc o).drewN n).alloc o').heap[W.heap.size + 1]? = some o' := by
  have h := blk_new ((W.alloc o).drewN n) o'
  have e : ((W.alloc o).drewN n).heap.size = W.heap.size + 1 := by
    show (W.alloc o).heap.size = _
    simp
  rwa [e] at h

theorem info9 : (Try.prog.info? 9).map (fun i => (i.zero, i.size, i.bytes)) = some (some (.string ⟨#[]⟩), 1, 16) := by kernel_rfl

theorem strs_cells {w : World} {ad : Addr} {xs : List ByteArray} (h : Kd.string.C w (some ad) xs.length xs) : ∀ j u, (pw_strs xs)[j]? = some u → w.cell? (ad.add j) = some u := by
  intro j u hu
  have hj : j < xs.length := by
    have := (List.getElem?_eq_some_iff.1 hu).1
    simpa [pw_strs] using this
  obtain ⟨ad', e, hc⟩ := h.2.2 (by omega)
  injection e with e
  subst e
  obtain ⟨c, hl, hK, hcell⟩ := hc j _ (List.getElem?_eq_getElem hj)
  have hK' : c = [.string xs[j]] := hK
  subst hK'
  have := hcell 0 _ rfl
  have e2 : u = .string xs[j] := by
    simp only [pw_strs, List.getElem?_map, List.getElem?_eq_getElem hj, Option.map_some, Option.some.injEq] at hu
    exact hu.symm
  rw [e2]
  simpa [Kd.string, Kd.scalar] using this

set_option maxHeartbeats 4000000 in
theorem law_names_mid (x : S27) (k : Int) (W : World) (A1 : Option Addr) (c1 : Nat) (A2 : Option Addr) (c2 : Nat) (A4 : Option Addr) (c4 : Nat) (A5 : Option Addr) (c5 : Nat)
    (hx : SigAt W x A1 c1 A2 c2 A4 c4 A5 c5) (hn0 : 0 < x.f1.length) (hn1 : x.f1.length ≤ 100) (hsz : ∀ s ∈ x.f1, s.size ≤ 140737488351232) :
    Calls Try.prog 4 #[.agg #[.string x.f0, .slice A1 x.f1.length c1, .slice A2 x.f2.length c2, .int .i64 x.f3.f0, .slice A4 x.f3.f1.length c4, .slice A5 x.f3.f2.length c5, .int .i64 x.f3.f3], .int .i64 k] W fun e w' => e = .returned (.bool true) ∧ Below W.heap.size W w' := by
  have HX := Aside0.mk hx
  have HZ := Aside0.mk hsz
  clear hx hsz
  have e0 : ((x.f1.length : Int) == 0) = false := beq_eq_false_iff_ne.mpr (by omega)
  have e1 : (x.f1.length == 0) = false := beq_eq_false_iff_ne.mpr (by omega)
  have e2 : decide ((100 : Int) < (x.f1.length : Int)) = false := decide_eq_false (by omega)
  have i1 : (0 : Int) < (x.f1.length : Int) := by omega
  have i2 : (x.f1.length : Int) ≤ 100 := by omega
  have m1 : -(x.f1.length : Int) < k.tmod (x.f1.length : Int) := by have := Int.lt_tmod_of_pos k i1; omega
  have m2 : k.tmod (x.f1.length : Int) < (x.f1.length : Int) := Int.tmod_lt_of_pos k i1
  obtain ⟨ad, rfl, _⟩ := HX.out.h1.2.2 hn0
  obtain ⟨i0, hi, hz0, hz1, hz2⟩ := info_parts info9
  go_enter Try.func4, Try.ntmps4
  go_wp2_with fail
  go_quiet (fail)
  go_wp2_with (at_builtin; refine wpList_append_own _ rfl (.tmp 33) (.tmp 35) 22 rfl W.heap.size 9 i0 (.string ⟨#[]⟩) 1 16 Try.underlying22 hi hz0 hz1 hz2 rfl (by decide) (.slice none 0 0) 0 [] rfl (World.ownsRow_nil _ _ _ _) ad x.f1.length c1 (pw_strs x.f1) rfl ?d1 ?d2 ?d3 ?d4 ?d5 ?d6 ?_)
  case d1 => simp [pw_strs]
  case d2 => exact strs_cells (Kd.C_below HX.out.h1 (below_alloc (pw_below_drewN (below_alloc (Below.refl _ _) _) _) _))
  case d3 =>
    intro u hu
    simp only [pw_strs, List.mem_map] at hu
    obtain ⟨s, _, rfl⟩ := hu
    rfl
  case d4 => simp only [maxLen]; omega
  case d5 => omega
  case d6 => exact (below_alloc (pw_below_drewN (below_alloc (Below.refl W.heap.size W) _) _) _).size
  intro v' w1 hown0 hgrow _
  have hown : w1.ownsRow W.heap.size 9 1 v' x.f1.length (pw_strs x.f1) := by simpa using hown0
  clear hown0
  have K2 := blk_grown (blk_alloc (blk_drewN (blk_new W (.cells #[.string x.f0, .slice (some ad) x.f1.length c1, .slice A2 x.f2.length c2, .int .i64 x.f3.f0, .slice A4 x.f3.f1.length c4, .slice A5 x.f3.f2.length c5, .int .i64 x.f3.f3] 27)) nq) (.cells #[.string x.f0, .slice none 0 0, .slice A2 x.f2.length c2, .int .i64 x.f3.f0, .slice A4 x.f3.f1.length c4, .slice A5 x.f3.f2.length c5, .int .i64 x.f3.f3] 27)) hgrow (by simp [Value.ownBlock])
  have K5 := blk_grown (blk_new2 W (.cells #[.string x.f0, .slice (some ad) x.f1.length c1, .slice A2 x.f2.length c2, .int .i64 x.f3.f0, .slice A4 x.f3.f1.length c4, .slice A5 x.f3.f2.length c5, .int .i64 x.f3.f3] 27) nq (.cells #[.string x.f0, .slice none 0 0, .slice A2 x.f2.length c2, .int .i64 x.f3.f0, .slice A4 x.f3.f1.length c4, .slice A5 x.f3.f2.length c5, .int .i64 x.f3.f3] 27)) hgrow (by simp [Value.ownBlock])
  have HB := Aside0.mk (Below.grown (below_alloc (pw_below_drewN (below_alloc (Below.refl W.heap.size W) (.cells #[.string x.f0, .slice (some ad) x.f1.length c1, .slice A2 x.f2.length c2, .int .i64 x.f3.f0, .slice A4 x.f3.f1.length c4, .slice A5 x.f3.f2.length c5, .int .i64 x.f3.f3] 27)) nq) (.cells #[.string x.f0, .slice none 0 0, .slice A2 x.f2.length c2, .int .i64 x.f3.f0, .slice A4 x.f3.f1.length c4, .slice A5 x.f3.f2.length c5, .int .i64 x.f3.f3] 27)) hgrow (below_alloc (pw_below_drewN (below_alloc (Below.refl W.heap.size W) _) _) _).size (by simp [Value.ownBlock]))
  clear hgrow
  obtain ⟨g, cap, rfl, hBg, hgl⟩ := hown.form hn0
  have hgne : g ≠ W.heap.size + 1 := by
    obtain ⟨cells, hc⟩ := own_typed hown g rfl
    exact blk_ne hc K5 (by decide)
  have z1 : w1.cell? ⟨W.heap.size + 1, 1, none⟩ = some (.slice none 0 0) := (blk_cell K5 1).trans rfl
  have z2 : w1.frozen? ⟨W.heap.size + 1, 1, none⟩ = false := blk_frozen K5 1
  have z3 : W.heap.size + 1 < w1.heap.size := blk_lt K5
  have P2 := Aside0.mk K2
  have P5 := Aside0.mk K5
  have PO := Aside0.mk hown
  have PG := Aside0.mk hgne
  clear K2 K5 hown hgne
  go_wp2_with fail
  have S2 := Aside0.mk (blk_far P2.out (p := ⟨W.heap.size + 1, 1, none⟩) (by simp) (.slice (some ⟨g, 0, none⟩) x.f1.length cap))
  have S5 : Aside0 ((w1.setCell ⟨W.heap.size + 1, 1, none⟩ (.slice (some ⟨g, 0, none⟩) x.f1.length cap)).heap[W.heap.size + 1]? = some (.cells #[.string x.f0, .slice (some ⟨g, 0, none⟩) x.f1.length cap, .slice A2 x.f2.length c2, .int .i64 x.f3.f0, .slice A4 x.f3.f1.length c4, .slice A5 x.f3.f2.length c5, .int .i64 x.f3.f3] 27 (0, 0))) := ⟨blk_set P5.out 1 _⟩
  have SO := Aside0.mk (own_move (w1 := w1.setCell ⟨W.heap.size + 1, 1, none⟩ (.slice (some ⟨g, 0, none⟩) x.f1.length cap)) PO.out (fun q hq => Below.heap_setCell _ _ _ _ (by
    have : q = g := by simpa [Value.ownBlock] using hq.symm
    rw [this]
    exact PG.out)))
  have SB := Aside0.mk (HB.out.setCell (p := ⟨W.heap.size + 1, 1, none⟩) (by simp) (.slice (some ⟨g, 0, none⟩) x.f1.length cap))
  clear P2 P5 PO HB z1 z2 z3 hgl
  generalize w1.setCell ⟨W.heap.size + 1, 1, none⟩ (.slice (some ⟨g, 0, none⟩) x.f1.length cap) = w2 at *
  have j0 : 0 ≤ k.tmod (x.f1.length : Int) % (x.f1.length : Int) := Int.emod_nonneg _ (by omega)
  have j1 : k.tmod (x.f1.length : Int) % (x.f1.length : Int) < (x.f1.length : Int) := Int.emod_lt_of_pos _ i1
  generalize k.tmod (x.f1.length : Int) % (x.f1.length : Int) = jj at *
  obtain ⟨j, rfl⟩ := Int.eq_ofNat_of_zero_le j0
  have jl : j < x.f1.length := by omega
  have y1 : w2.cell? ⟨W.heap.size + 1, 1, none⟩ = some (.slice (some ⟨g, 0, none⟩) x.f1.length cap) := (blk_cell S5.out 1).trans rfl
  have y2 : w2.cell? ⟨g, j, none⟩ = some (.string x.f1[j]) := (SO.out.cellAt j (by omega)).trans (by simp [pw_strs, jl])
  have y3 : w2.frozen? ⟨g, j, none⟩ = false := SO.out.frozenAt j
  have y4 : g < w2.heap.size := World.block_lt_of_cell? w2 _ y2
  have y5 : x.f1[j].size + 1 ≤ 9223372036854775807 := by have := HZ.out x.f1[j] (List.getElem_mem jl); omega
  clear m1 m2
  go_region
  clear y1 y2 y3 y4 y5 j0 j1
  have g2 : g ≠ W.heap.size := by
    obtain ⟨cells, hc⟩ := own_typed SO.out g rfl
    exact blk_ne hc S2.out (by decide)
  have hyl : (x.f1.set j (x.f1[j] ++ ⟨#[120]⟩)).length = x.f1.length := by simp
  have T2 := Aside0.mk (blk_drew (blk_far S2.out (p := ⟨g, j, none⟩) (Ne.symm g2) (.string (x.f1[j] ++ ⟨#[120]⟩))))
  have T5 : Aside0 (((w2.setCell ⟨g, j, none⟩ (.string (x.f1[j] ++ ⟨#[120]⟩))).drew).heap[W.heap.size + 1]? = some (.cells #[.string x.f0, .slice (some ⟨g, 0, none⟩) (x.f1.set j (x.f1[j] ++ ⟨#[120]⟩)).length cap, .slice A2 x.f2.length c2, .int .i64 x.f3.f0, .slice A4 x.f3.f1.length c4, .slice A5 x.f3.f2.length c5, .int .i64 x.f3.f3] 27 (0, 0))) := by
    rw [hyl]
    exact ⟨blk_drew (blk_far S5.out (p := ⟨g, j, none⟩) (Ne.symm PG.out) _)⟩
  have TO : Aside0 (((w2.setCell ⟨g, j, none⟩ (.string (x.f1[j] ++ ⟨#[120]⟩))).drew).ownsRow W.heap.size 9 1 (.slice (some ⟨g, 0, none⟩) (x.f1.set j (x.f1[j] ++ ⟨#[120]⟩)).length cap) (x.f1.set j (x.f1[j] ++ ⟨#[120]⟩)).length (pw_strs (x.f1.set j (x.f1[j] ++ ⟨#[120]⟩)))) := by
    rw [hyl]
    have h := (SO.out.stored j (.string (x.f1[j] ++ ⟨#[120]⟩))).1
    have e : pw_strs (x.f1.set j (x.f1[j] ++ ⟨#[120]⟩)) = (pw_strs x.f1).set j (.string (x.f1[j] ++ ⟨#[120]⟩)) := by simp [pw_strs, List.map_set]
    rw [e]
    exact ⟨h.drew⟩
  have TB := Aside0.mk (below_drew1 (SB.out.setCell (p := ⟨g, j, none⟩) hBg (.string (x.f1[j] ++ ⟨#[120]⟩))))
  have hne := Aside0.mk (set_ne x.f1 j jl)
  clear S2 S5 SO SB hyl
  generalize x.f1.set j (x.f1[j] ++ ⟨#[120]⟩) = ys at *
  generalize (w2.setCell ⟨g, j, none⟩ (.string (x.f1[j] ++ ⟨#[120]⟩))).drew = w3 at *
  have a0 : w3.cell? ⟨W.heap.size, 0, none⟩ = some (.string x.f0) := (blk_cell (blk_below T2.out (Below.refl _ _)) 0).trans rfl
  have a1 : w3.cell? ⟨W.heap.size, 1, none⟩ = some (.slice (some ad) x.f1.length c1) := (blk_cell (blk_below T2.out (Below.refl _ _)) 1).trans rfl
  have a2 : w3.cell? ⟨W.heap.size, 2, none⟩ = some (.slice A2 x.f2.length c2) := (blk_cell (blk_below T2.out (Below.refl _ _)) 2).trans rfl
  have a3 : w3.cell? ⟨W.heap.size, 3, none⟩ = some (.int .i64 x.f3.f0) := (blk_cell (blk_below T2.out (Below.refl _ _)) 3).trans rfl
  have a4 : w3.cell? ⟨W.heap.size, 4, none⟩ = some (.slice A4 x.f3.f1.length c4) := (blk_cell (blk_below T2.out (Below.refl _ _)) 4).trans rfl
  have a5 : w3.cell? ⟨W.heap.size, 5, none⟩ = some (.slice A5 x.f3.f2.length c5) := (blk_cell (blk_below T2.out (Below.refl _ _)) 5).trans rfl
  have a6 : w3.cell? ⟨W.heap.size, 6, none⟩ = some (.int .i64 x.f3.f3) := (blk_cell (blk_below T2.out (Below.refl _ _)) 6).trans rfl
  have b0 : w3.cell? ⟨W.heap.size + 1, 0, none⟩ = some (.string x.f0) := (blk_cell (blk_below T5.out (Below.refl _ _)) 0).trans rfl
  have b1 : w3.cell? ⟨W.heap.size + 1, 1, none⟩ = some (.slice (some ⟨g, 0, none⟩) ys.length cap) := (blk_cell (blk_below T5.out (Below.refl _ _)) 1).trans rfl
  have b2 : w3.cell? ⟨W.heap.size + 1, 2, none⟩ = some (.slice A2 x.f2.length c2) := (blk_cell (blk_below T5.out (Below.refl _ _)) 2).trans rfl
  have b3 : w3.cell? ⟨W.heap.size + 1, 3, none⟩ = some (.int .i64 x.f3.f0) := (blk_cell (blk_below T5.out (Below.refl _ _)) 3).trans rfl
  have b4 : w3.cell? ⟨W.heap.size + 1, 4, none⟩ = some (.slice A4 x.f3.f1.length c4) := (blk_cell (blk_below T5.out (Below.refl _ _)) 4).trans rfl
  have b5 : w3.cell? ⟨W.heap.size + 1, 5, none⟩ = some (.slice A5 x.f3.f2.length c5) := (blk_cell (blk_below T5.out (Below.refl _ _)) 5).trans rfl
  have b6 : w3.cell? ⟨W.heap.size + 1, 6, none⟩ = some (.int .i64 x.f3.f3) := (blk_cell (blk_below T5.out (Below.refl _ _)) 6).trans rfl
  have hm0 := C_nil (Kd.int .i64)
  have HX3 := Aside0.mk (HX.out.below TB.out)
  have HY3 : Aside0 (SigAt w3 ⟨x.f0, ys, x.f2, x.f3⟩ (some ⟨g, 0, none⟩) cap A2 c2 A4 c4 A5 c5) := ⟨⟨C_of_own TO.out, own_cap TO.out, HX3.out.h2, HX3.out.l2, HX3.out.t⟩⟩
  clear hm0
  go_wp2_with fail
  refine (sigs_calls [] x ⟨x.f0, ys, x.f2, x.f3⟩ w3 (some ad) c1 A2 c2 A4 c4 A5 c5 (some ⟨g, 0, none⟩) cap A2 c2 A4 c4 A5 c5 none 0 HX3.out HY3.out (C_nil _ _) (Nat.le_refl _)).mono ?_
  rintro e w4 ⟨rfl, hb4⟩
  rw [show sigsT [] x ⟨x.f0, ys, x.f2, x.f3⟩ = false by rw [sigsT, decide_eq_false hne.out]; rfl]
  clear a0 a1 a2 a3 a4 a5 a6 b0 b1 b2 b3 b4 b5 b6
  have a0 : w4.cell? ⟨W.heap.size, 0, none⟩ = some (.string x.f0) := (blk_cell (blk_below T2.out hb4) 0).trans rfl
  have a1 : w4.cell? ⟨W.heap.size, 1, none⟩ = some (.slice (some ad) x.f1.length c1) := (blk_cell (blk_below T2.out hb4) 1).trans rfl
  have a2 : w4.cell? ⟨W.heap.size, 2, none⟩ = some (.slice A2 x.f2.length c2) := (blk_cell (blk_below T2.out hb4) 2).trans rfl
  have a3 : w4.cell? ⟨W.heap.size, 3, none⟩ = some (.int .i64 x.f3.f0) := (blk_cell (blk_below T2.out hb4) 3).trans rfl
  have a4 : w4.cell? ⟨W.heap.size, 4, none⟩ = some (.slice A4 x.f3.f1.length c4) := (blk_cell (blk_below T2.out hb4) 4).trans rfl
  have a5 : w4.cell? ⟨W.heap.size, 5, none⟩ = some (.slice A5 x.f3.f2.length c5) := (blk_cell (blk_below T2.out hb4) 5).trans rfl
  have a6 : w4.cell? ⟨W.heap.size, 6, none⟩ = some (.int .i64 x.f3.f3) := (blk_cell (blk_below T2.out hb4) 6).trans rfl
  have b0 : w4.cell? ⟨W.heap.size + 1, 0, none⟩ = some (.string x.f0) := (blk_cell (blk_below T5.out hb4) 0).trans rfl
  have b1 : w4.cell? ⟨W.heap.size + 1, 1, none⟩ = some (.slice (some ⟨g, 0, none⟩) ys.length cap) := (blk_cell (blk_below T5.out hb4) 1).trans rfl
  have b2 : w4.cell? ⟨W.heap.size + 1, 2, none⟩ = some (.slice A2 x.f2.length c2) := (blk_cell (blk_below T5.out hb4) 2).trans rfl
  have b3 : w4.cell? ⟨W.heap.size + 1, 3, none⟩ = some (.int .i64 x.f3.f0) := (blk_cell (blk_below T5.out hb4) 3).trans rfl
  have b4 : w4.cell? ⟨W.heap.size + 1, 4, none⟩ = some (.slice A4 x.f3.f1.length c4) := (blk_cell (blk_below T5.out hb4) 4).trans rfl
  have b5 : w4.cell? ⟨W.heap.size + 1, 5, none⟩ = some (.slice A5 x.f3.f2.length c5) := (blk_cell (blk_below T5.out hb4) 5).trans rfl
  have b6 : w4.cell? ⟨W.heap.size + 1, 6, none⟩ = some (.int .i64 x.f3.f3) := (blk_cell (blk_below T5.out hb4) 6).trans rfl
  have B4 := Aside0.mk hb4
  clear hb4
  go_wp2_with fail
  refine (sigs_calls [] ⟨x.f0, ys, x.f2, x.f3⟩ x w4 (some ⟨g, 0, none⟩) cap A2 c2 A4 c4 A5 c5 (some ad) c1 A2 c2 A4 c4 A5 c5 none 0 (HY3.out.below B4.out) (HX3.out.below B4.out) (C_nil _ _) (Nat.le_refl _)).mono ?_
  rintro e w5 ⟨rfl, hb5⟩
  rw [show sigsT [] ⟨x.f0, ys, x.f2, x.f3⟩ x = false by rw [sigsT, decide_eq_false (Ne.symm hne.out)]; rfl]
  have B5 := Aside0.mk (below_step B4.out hb5)
  clear a0 a1 a2 a3 a4 a5 a6 b0 b1 b2 b3 b4 b5 b6
  have a0 : w5.cell? ⟨W.heap.size, 0, none⟩ = some (.string x.f0) := (blk_cell (blk_below T2.out B5.out) 0).trans rfl
  have a1 : w5.cell? ⟨W.heap.size, 1, none⟩ = some (.slice (some ad) x.f1.length c1) := (blk_cell (blk_below T2.out B5.out) 1).trans rfl
  have a2 : w5.cell? ⟨W.heap.size, 2, none⟩ = some (.slice A2 x.f2.length c2) := (blk_cell (blk_below T2.out B5.out) 2).trans rfl
  have a3 : w5.cell? ⟨W.heap.size, 3, none⟩ = some (.int .i64 x.f3.f0) := (blk_cell (blk_below T2.out B5.out) 3).trans rfl
  have a4 : w5.cell? ⟨W.heap.size, 4, none⟩ = some (.slice A4 x.f3.f1.length c4) := (blk_cell (blk_below T2.out B5.out) 4).trans rfl
  have a5 : w5.cell? ⟨W.heap.size, 5, none⟩ = some (.slice A5 x.f3.f2.length c5) := (blk_cell (blk_below T2.out B5.out) 5).trans rfl
  have a6 : w5.cell? ⟨W.heap.size, 6, none⟩ = some (.int .i64 x.f3.f3) := (blk_cell (blk_below T2.out B5.out) 6).trans rfl
  have b0 : w5.cell? ⟨W.heap.size + 1, 0, none⟩ = some (.string x.f0) := (blk_cell (blk_below T5.out B5.out) 0).trans rfl
  have b1 : w5.cell? ⟨W.heap.size + 1, 1, none⟩ = some (.slice (some ⟨g, 0, none⟩) ys.length cap) := (blk_cell (blk_below T5.out B5.out) 1).trans rfl
  have b2 : w5.cell? ⟨W.heap.size + 1, 2, none⟩ = some (.slice A2 x.f2.length c2) := (blk_cell (blk_below T5.out B5.out) 2).trans rfl
  have b3 : w5.cell? ⟨W.heap.size + 1, 3, none⟩ = some (.int .i64 x.f3.f0) := (blk_cell (blk_below T5.out B5.out) 3).trans rfl
  have b4 : w5.cell? ⟨W.heap.size + 1, 4, none⟩ = some (.slice A4 x.f3.f1.length c4) := (blk_cell (blk_below T5.out B5.out) 4).trans rfl
  have b5 : w5.cell? ⟨W.heap.size + 1, 5, none⟩ = some (.slice A5 x.f3.f2.length c5) := (blk_cell (blk_below T5.out B5.out) 5).trans rfl
  have b6 : w5.cell? ⟨W.heap.size + 1, 6, none⟩ = some (.int .i64 x.f3.f3) := (blk_cell (blk_below T5.out B5.out) 6).trans rfl
  clear hb5 B4
  go_wp2_with fail
  refine (names_calls (HX3.out.below B5.out).h1 HX3.out.l1 (HY3.out.below B5.out).h1 HY3.out.l1).mono ?_
  rintro e w6 ⟨rfl, ⟨nn, rfl⟩⟩
  rw [show decide (x.f1 = ys) = false from decide_eq_false hne.out]
  clear a0 a1 a2 a3 a4 a5 a6 b0 b1 b2 b3 b4 b5 b6
  go_wp2_with fail
  refine (awake_calls _).mono ?_
  rintro e w7 ⟨rfl, hb7⟩
  have HE := Aside0.mk (below_step (pw_below_drewN (below_step TB.out B5.out) nn) hb7)
  clear hb7
  go_wp2_with fail
  go_ret
  exact ⟨rfl, HE.out⟩
end Go.Proofs.Ytmpmcffhlnlejaa.SubEq
