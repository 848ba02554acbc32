/- scarflaw04.made: a memory of a page behind deeds. -/
import Derived.Test.YtmpmcffhlnlejaaMemAim
import Derived.Test.YtmpmcffhlnlejaaMemWr
namespace Go.Proofs.Ytmpmcffhlnlejaa.MemEq
open Go.RowKit Go.Proofs.YtmpmcffhlnlejaaW.PrintWords Go.Proofs.YtmpmcffhlnlejaaW.PrintLast Go.Proofs.YtmpmcffhlnlejaaW.PrintMore
open Go.Proofs.Ytmpmcffhlnlejaa.PMemBack
set_option linter.unusedVariables false
set_option linter.unusedSimpArgs false

theorem MemAt.grown {T : TypeId} {w w' : World} {p g cap g0 : Nat} {S : List UInt8} {most bound : Int} (h : MemAt T w p g cap S most bound) (hg : w.grownBy w' (some g0)) (h1 : g0 ≠ p) (h2 : g0 ≠ g) : MemAt T w' p g cap S most bound := by
  obtain ⟨hp, ⟨cur, hg', hc⟩, ne⟩ := h
  exact ⟨blk_grown hp hg (fun e => h1 (Option.some.inj e).symm), ⟨cur, blk_grown hg' hg (fun e => h2 (Option.some.inj e).symm), hc⟩, ne⟩

theorem addr_block (a : Addr) (k : Nat) : (a.add k).block = a.block := by unfold Addr.add; split <;> rfl

/-- A row of deeds, in another world that has the same block. -/
theorem C79_block {w w' : World} {A : Option Addr} {n : Nat} {l : List S79} (h : k79.C w A n l) (hb : ∀ ad, A = some ad → 0 < n → w'.heap[ad.block]? = w.heap[ad.block]?) : k79.C w' A n l :=
  ⟨h.1, h.2.1, fun h0 => by
    obtain ⟨ad, e, hh⟩ := h.2.2 h0
    refine ⟨ad, e, fun j p hj => ?_⟩
    obtain ⟨cs, h1, h2, h3⟩ := hh j p hj
    have h2' := k79_open h2
    subst h2'
    refine ⟨_, h1, k79_mk w' p, fun i u hu => ?_⟩
    exact (World.cell?_of_block (by rw [addr_block]; exact hb ad e h0)).trans (h3 i u hu)⟩
theorem C79_lt {w : World} {ad : Addr} {n : Nat} {l : List S79} (h : k79.C w (some ad) n l) (hn : 0 < n) : ad.block < w.heap.size := by
  obtain ⟨ad', e, hh⟩ := h.2.2 hn
  obtain rfl := Option.some.inj e
  have hl : 0 < l.length := by have := h.1; omega
  obtain ⟨cs, h1, h2, h3⟩ := hh 0 l[0] (by simp [hl])
  have h2' := k79_open h2
  subst h2'
  have := World.block_lt_of_cell? w _ (h3 0 _ rfl)
  rwa [addr_block] at this
theorem C79_grown {w w' : World} {g0 : Nat} {A : Option Addr} {l : List S79} (h : k79.C w A l.length l) (hg : w.grownBy w' (some g0)) (hn : ∀ ad, A = some ad → ad.block ≠ g0 ∨ l.length = 0) : k79.C w' A l.length l :=
  C79_block h fun ad e h0 => by
    subst e
    exact hg.block _ (C79_lt h h0) (fun e => by
      rcases hn ad rfl with h1 | h1
      · exact h1 (Option.some.inj e)
      · omega)
theorem C79_turned {w w' : World} {p g : Nat} {A : Option Addr} {l : List S79} (h : k79.C w A l.length l) (ht : Turned p g w w') (hn : ∀ ad, A = some ad → ad.block ≠ p ∧ ad.block ≠ g) : k79.C w' A l.length l :=
  C79_block h fun ad e h0 => by
    subst e
    exact ht.block _ (C79_lt h h0) (hn ad rfl).1 (hn ad rfl).2
theorem made_new {w : World} {g0 p g cap : Nat} {S : List UInt8} {most bound : Int} {A : Option Addr} {l : List S79} (h0 : g0 = w.heap.size) (h : MemAt 105 w p g cap S most bound) (hc : k79.C w A l.length l) :
    g0 ≠ p ∧ g0 ≠ g ∧ ∀ ad, A = some ad → ad.block ≠ g0 ∨ l.length = 0 := by
  refine ⟨by have := h.lt.1; omega, by have := h.lt.2; omega, fun ad e => ?_⟩
  subst e
  by_cases hl : l.length = 0
  · exact .inr hl
  · have := C79_lt hc (by omega)
    exact .inl (by omega)

/-- What one round leaves. -/
theorem made_round {w wr w' : World} {p g cap : Nat} {A : Option Addr} {l : List S79} (hs : Some p g cap 65536 2 2 wr w') (hp : w.heap.size ≤ p) (hg : w.heap.size ≤ g) (hb : Below w.heap.size w wr) (hc : k79.C wr A l.length l) (hn : ∀ ad, A = some ad → ad.block ≠ p ∧ ad.block ≠ g) :
    ∃ S' : List UInt8, S'.length = 65536 ∧ Aside0 (MemAt 105 w' p g cap S' 2 2) ∧ Aside0 (Below w.heap.size w w') ∧ Aside0 (k79.C w' A l.length l) := by
  obtain ⟨S', h1, h2, h3⟩ := hs
  exact ⟨S', h1, ⟨h2⟩, ⟨hb.trans (h3.below hp hg hb.size)⟩, ⟨C79_turned hc h3 hn⟩⟩

set_option maxHeartbeats 8000000 in
set_option maxRecDepth 100000 in
theorem made_calls {A : Option Addr} {c : Nat} {l : List S79} {w : World} (hl : k79.C w A l.length l) (hc : l.length ≤ c) :
    Calls Try.prog 32 #[.slice A l.length c] w fun e w' => ∃ (p g : Nat) (S : List UInt8), e = .returned (.pointer (some ⟨p, 0, none⟩)) ∧ S.length = 65536 ∧ MemAt 105 w' p g (1 * 65536) S 2 2 ∧ w.heap.size ≤ p ∧ w.heap.size ≤ g ∧ Below w.heap.size w w' := by
  have HL := Aside0.mk hl
  have HN1 := Aside0.mk (fun w => @new_yes 1 2 w (by decide))
  have HN2 := Aside0.mk (fun w => @new_yes 1 1 w (by decide))
  clear hl
  go_enter Try.func32, Try.ntmps32
  go_wp2_with fail
  refine (HN1.out w).mono ?_
  rintro e w1 ⟨p, g, rfl, hp, hg, hm, hb⟩
  obtain ⟨S0, hS⟩ : ∃ S : List UInt8, S = List.replicate (1 * 65536) 0 := ⟨_, rfl⟩
  rw [← hS] at hm
  have hl0 : S0.length = 65536 := by rw [hS, List.length_replicate]
  rw [if_neg (by decide)] at hm
  have HM := Aside0.mk hm
  have HP := Aside0.mk hp
  have HG' := Aside0.mk hg
  have HB := Aside0.mk hb
  clear hm hS hp hg hb HN1
  go_wp2_with fail
  refine (HN2.out w1).mono ?_
  rintro e w2 ⟨p2, g2, rfl, hp2, hg2, hm2, hb2⟩
  have HM' := Aside0.mk (HM.out.below hb2)
  have HB' := Aside0.mk (below_step HB.out hb2)
  clear hm2 hb2 HN2 hp2 hg2 HM HB
  go_wp2_with fail
  refine (some_calls (Kd.C_below HL.out HB'.out) hc).mono ?_
  rintro e w3 ⟨A', c', r, rfl, h60, hC, hF, hb3⟩
  have HM0 := Aside0.mk (HM'.out.below hb3)
  have HB0 := Aside0.mk (below_step HB'.out hb3)
  have HC0 := Aside0.mk hC
  have HA := Aside0.mk (show ∀ ad, A' = some ad → ad.block ≠ p ∧ ad.block ≠ g from fun ad e => ⟨by have := hF ad e; have := HM'.out.lt.1; omega, by have := hF ad e; have := HM'.out.lt.2; omega⟩)
  clear hC hF hb3 HM' HB' HL
  go_wp2_with fail
  go_loopw [7] (fun v7 wr => ∃ k : Nat, k ≤ r.length ∧ v7 = .int .i64 k ∧ ∃ S : List UInt8, S.length = 65536 ∧ Aside0 (MemAt 105 wr p g (1 * 65536) S 2 2) ∧ Aside0 (Below w.heap.size w wr) ∧ Aside0 (k79.C wr A' r.length r)) (fun v7 _ => r.length - (intOf v7).toNat)
  case atStart => exact ⟨0, Nat.zero_le _, rfl, S0, hl0, HM0, HB0, HC0⟩
  case round =>
    clear HM0 HB0 HC0
    obtain ⟨k, hk, rfl, S, hS, HM, HB, HC⟩ := hrel
    by_cases hlt : k < r.length
    · obtain ⟨ad, hae, x0, x1, x2, x3, x4, x5, x6, x7⟩ := at_T79 HC.out (k : Int) (by omega) (by omega)
      rw [Int.toNat_natCast] at x0 x1 x2 x3 x4 x5 x6 x7
      cases hae
      generalize rd_T79 r (k : Int) = x at *
      go_wp2_with fail
      refine (aimed_calls x 65536 _).mono ?_
      rintro e w1' ⟨y, rfl, hb⟩
      have HB1 := Aside0.mk (below_step HB.out hb)
      have HM1 := Aside0.mk (HM.out.below hb)
      have HC1 := Aside0.mk (Kd.C_below HC.out hb)
      clear hb HB HM HC x0 x1 x2 x3 x4 x5 x6 x7
      rw [show (dc y).toArray = #[.int .i64 y.f0, .int .i64 y.f1, .int .i64 y.f2, .int .i64 y.f3, .int .i64 y.f4, .int .i64 y.f5, .string y.f6, .bool y.f7] from rfl]
      obtain ⟨A', hA'⟩ : ∃ A', A' = some ad := ⟨_, rfl⟩
      rw [← hA'] at HC1 HA
      have hA2 := Aside0.mk hA'
      clear hA'
      by_cases c0 : y.f0 = 0
      · have q0 : (y.f0 == 0) = true := beq_iff_eq.mpr c0
        clear c0
        go_wp2_with (first | ((with_reducible refine gate_dst (N := 8) rfl ?_); refine box_event ?hg (N := 8) ?hd (cs := #[.int .i64 0, .int .i64 0, .int .i64 0, .int .i64 0, .int .i64 0, .int .i64 0, .string (⟨#[]⟩ : ByteArray), .bool false]) (t := 79) ?hr ?_; (case hd => rfl); (case hg => rfl); (case hr => first | (go_simp; done) | (go_simp; rfl)); intro g0 hg w2 hbox hb; have K2 := Aside0.mk hbox; have HB2 := Aside0.mk (below_step HB1.out hb); have HG := Aside0.mk (by rw [hg]; exact HB1.out.size : w.heap.size ≤ g0); have HM2 := Aside0.mk (HM1.out.below hb); have HC2 := Aside0.mk (Kd.C_below HC1.out hb); have HN := Aside0.mk (show g0 ≠ p ∧ g0 ≠ g ∧ ∀ ad, A' = some ad → ad.block ≠ g0 ∨ r.length = 0 from made_new hg HM1.out HC1.out); clear hb hbox hg; have z0 : w2.cell? ⟨g0, 0, none⟩ = some (.int .i64 0) := (blk_cell K2.out 0).trans rfl; have zf0 : w2.frozen? ⟨g0, 0, none⟩ = false := blk_frozen K2.out 0; have z1 : w2.cell? ⟨g0, 1, none⟩ = some (.int .i64 0) := (blk_cell K2.out 1).trans rfl; have zf1 : w2.frozen? ⟨g0, 1, none⟩ = false := blk_frozen K2.out 1; have z2 : w2.cell? ⟨g0, 2, none⟩ = some (.int .i64 0) := (blk_cell K2.out 2).trans rfl; have zf2 : w2.frozen? ⟨g0, 2, none⟩ = false := blk_frozen K2.out 2; have z3 : w2.cell? ⟨g0, 3, none⟩ = some (.int .i64 0) := (blk_cell K2.out 3).trans rfl; have zf3 : w2.frozen? ⟨g0, 3, none⟩ = false := blk_frozen K2.out 3; have z4 : w2.cell? ⟨g0, 4, none⟩ = some (.int .i64 0) := (blk_cell K2.out 4).trans rfl; have zf4 : w2.frozen? ⟨g0, 4, none⟩ = false := blk_frozen K2.out 4; have z5 : w2.cell? ⟨g0, 5, none⟩ = some (.int .i64 0) := (blk_cell K2.out 5).trans rfl; have zf5 : w2.frozen? ⟨g0, 5, none⟩ = false := blk_frozen K2.out 5; have z6 : w2.cell? ⟨g0, 6, none⟩ = some (.string (⟨#[]⟩ : ByteArray)) := (blk_cell K2.out 6).trans rfl; have zf6 : w2.frozen? ⟨g0, 6, none⟩ = false := blk_frozen K2.out 6; have z7 : w2.cell? ⟨g0, 7, none⟩ = some (.bool false) := (blk_cell K2.out 7).trans rfl; have zf7 : w2.frozen? ⟨g0, 7, none⟩ = false := blk_frozen K2.out 7) | ((with_reducible refine gate_dst (N := 46) rfl ?_); have K3 := Aside0.mk (dc_put K2.out rfl (.int .i64 y.f0) (.int .i64 y.f1) (.int .i64 y.f2) (.int .i64 y.f3) (.int .i64 y.f4) (.int .i64 y.f5) (.string y.f6) (.bool y.f7)); have hfar := dc_far w2 g0 (.int .i64 y.f0) (.int .i64 y.f1) (.int .i64 y.f2) (.int .i64 y.f3) (.int .i64 y.f4) (.int .i64 y.f5) (.string y.f6) (.bool y.f7); have HB3 := Aside0.mk (pw_below_grown HB2.out (some g0) HB2.out.size hfar (fun k hk => by obtain rfl := Option.some.inj hk; exact HG.out)); have HM3 := Aside0.mk (HM2.out.grown hfar HN.out.1 HN.out.2.1); have HC3 := Aside0.mk (C79_grown HC2.out hfar HN.out.2.2); clear hfar; clear z0 zf0 z1 zf1 z2 zf2 z3 zf3 z4 zf4 z5 zf5 z6 zf6 z7 zf7; clear K2 HB2 HM2 HC2 HB1 HM1 HC1 HN; generalize ((((((((w2.setCell ⟨g0, 0, none⟩ (.int .i64 y.f0)).setCell ⟨g0, 1, none⟩ (.int .i64 y.f1)).setCell ⟨g0, 2, none⟩ (.int .i64 y.f2)).setCell ⟨g0, 3, none⟩ (.int .i64 y.f3)).setCell ⟨g0, 4, none⟩ (.int .i64 y.f4)).setCell ⟨g0, 5, none⟩ (.int .i64 y.f5)).setCell ⟨g0, 6, none⟩ (.string y.f6)).setCell ⟨g0, 7, none⟩ (.bool y.f7)) = w3 at *; have y0 : w3.cell? ⟨g0, 0, none⟩ = some (.int .i64 y.f0) := (blk_cell K3.out 0).trans rfl; have y1 : w3.cell? ⟨g0, 1, none⟩ = some (.int .i64 y.f1) := (blk_cell K3.out 1).trans rfl; have y2 : w3.cell? ⟨g0, 2, none⟩ = some (.int .i64 y.f2) := (blk_cell K3.out 2).trans rfl; have y3 : w3.cell? ⟨g0, 3, none⟩ = some (.int .i64 y.f3) := (blk_cell K3.out 3).trans rfl; have y4 : w3.cell? ⟨g0, 4, none⟩ = some (.int .i64 y.f4) := (blk_cell K3.out 4).trans rfl; have y5 : w3.cell? ⟨g0, 5, none⟩ = some (.int .i64 y.f5) := (blk_cell K3.out 5).trans rfl; have y6 : w3.cell? ⟨g0, 6, none⟩ = some (.string y.f6) := (blk_cell K3.out 6).trans rfl; have y7 : w3.cell? ⟨g0, 7, none⟩ = some (.bool y.f7) := (blk_cell K3.out 7).trans rfl; clear K3))
        refine (store_any y.f1 y.f2 y.f4 HM3.out (by omega)).mono ?_
        rintro e w4 ⟨t, rfl, hs4⟩
        rw [hS] at hs4
        obtain ⟨S', hS', HM4, HB4, HC4⟩ := made_round hs4 HP.out HG'.out HB3.out HC3.out HA.out
        clear hs4 HM3 HB3 HC3
        go_wp2_with fail
        go_roundw
        case rel => exact ⟨k + 1, by omega, by go_num, S', hS', HM4, HB4, hA2.out ▸ HC4⟩
        case measure => simp [intOf]; omega
      by_cases c1 : y.f0 = 1
      · have q0 : (y.f0 == 0) = false := beq_eq_false_iff_ne.mpr c0
        have q1 : (y.f0 == 1) = true := beq_iff_eq.mpr c1
        clear c0 c1
        go_wp2_with (first | ((with_reducible refine gate_dst (N := 8) rfl ?_); refine box_event ?hg (N := 8) ?hd (cs := #[.int .i64 0, .int .i64 0, .int .i64 0, .int .i64 0, .int .i64 0, .int .i64 0, .string (⟨#[]⟩ : ByteArray), .bool false]) (t := 79) ?hr ?_; (case hd => rfl); (case hg => rfl); (case hr => first | (go_simp; done) | (go_simp; rfl)); intro g0 hg w2 hbox hb; have K2 := Aside0.mk hbox; have HB2 := Aside0.mk (below_step HB1.out hb); have HG := Aside0.mk (by rw [hg]; exact HB1.out.size : w.heap.size ≤ g0); have HM2 := Aside0.mk (HM1.out.below hb); have HC2 := Aside0.mk (Kd.C_below HC1.out hb); have HN := Aside0.mk (show g0 ≠ p ∧ g0 ≠ g ∧ ∀ ad, A' = some ad → ad.block ≠ g0 ∨ r.length = 0 from made_new hg HM1.out HC1.out); clear hb hbox hg; have z0 : w2.cell? ⟨g0, 0, none⟩ = some (.int .i64 0) := (blk_cell K2.out 0).trans rfl; have zf0 : w2.frozen? ⟨g0, 0, none⟩ = false := blk_frozen K2.out 0; have z1 : w2.cell? ⟨g0, 1, none⟩ = some (.int .i64 0) := (blk_cell K2.out 1).trans rfl; have zf1 : w2.frozen? ⟨g0, 1, none⟩ = false := blk_frozen K2.out 1; have z2 : w2.cell? ⟨g0, 2, none⟩ = some (.int .i64 0) := (blk_cell K2.out 2).trans rfl; have zf2 : w2.frozen? ⟨g0, 2, none⟩ = false := blk_frozen K2.out 2; have z3 : w2.cell? ⟨g0, 3, none⟩ = some (.int .i64 0) := (blk_cell K2.out 3).trans rfl; have zf3 : w2.frozen? ⟨g0, 3, none⟩ = false := blk_frozen K2.out 3; have z4 : w2.cell? ⟨g0, 4, none⟩ = some (.int .i64 0) := (blk_cell K2.out 4).trans rfl; have zf4 : w2.frozen? ⟨g0, 4, none⟩ = false := blk_frozen K2.out 4; have z5 : w2.cell? ⟨g0, 5, none⟩ = some (.int .i64 0) := (blk_cell K2.out 5).trans rfl; have zf5 : w2.frozen? ⟨g0, 5, none⟩ = false := blk_frozen K2.out 5; have z6 : w2.cell? ⟨g0, 6, none⟩ = some (.string (⟨#[]⟩ : ByteArray)) := (blk_cell K2.out 6).trans rfl; have zf6 : w2.frozen? ⟨g0, 6, none⟩ = false := blk_frozen K2.out 6; have z7 : w2.cell? ⟨g0, 7, none⟩ = some (.bool false) := (blk_cell K2.out 7).trans rfl; have zf7 : w2.frozen? ⟨g0, 7, none⟩ = false := blk_frozen K2.out 7) | ((with_reducible refine gate_dst (N := 46) rfl ?_); have K3 := Aside0.mk (dc_put K2.out rfl (.int .i64 y.f0) (.int .i64 y.f1) (.int .i64 y.f2) (.int .i64 y.f3) (.int .i64 y.f4) (.int .i64 y.f5) (.string y.f6) (.bool y.f7)); have hfar := dc_far w2 g0 (.int .i64 y.f0) (.int .i64 y.f1) (.int .i64 y.f2) (.int .i64 y.f3) (.int .i64 y.f4) (.int .i64 y.f5) (.string y.f6) (.bool y.f7); have HB3 := Aside0.mk (pw_below_grown HB2.out (some g0) HB2.out.size hfar (fun k hk => by obtain rfl := Option.some.inj hk; exact HG.out)); have HM3 := Aside0.mk (HM2.out.grown hfar HN.out.1 HN.out.2.1); have HC3 := Aside0.mk (C79_grown HC2.out hfar HN.out.2.2); clear hfar; clear z0 zf0 z1 zf1 z2 zf2 z3 zf3 z4 zf4 z5 zf5 z6 zf6 z7 zf7; clear K2 HB2 HM2 HC2 HB1 HM1 HC1 HN; generalize ((((((((w2.setCell ⟨g0, 0, none⟩ (.int .i64 y.f0)).setCell ⟨g0, 1, none⟩ (.int .i64 y.f1)).setCell ⟨g0, 2, none⟩ (.int .i64 y.f2)).setCell ⟨g0, 3, none⟩ (.int .i64 y.f3)).setCell ⟨g0, 4, none⟩ (.int .i64 y.f4)).setCell ⟨g0, 5, none⟩ (.int .i64 y.f5)).setCell ⟨g0, 6, none⟩ (.string y.f6)).setCell ⟨g0, 7, none⟩ (.bool y.f7)) = w3 at *; have y0 : w3.cell? ⟨g0, 0, none⟩ = some (.int .i64 y.f0) := (blk_cell K3.out 0).trans rfl; have y1 : w3.cell? ⟨g0, 1, none⟩ = some (.int .i64 y.f1) := (blk_cell K3.out 1).trans rfl; have y2 : w3.cell? ⟨g0, 2, none⟩ = some (.int .i64 y.f2) := (blk_cell K3.out 2).trans rfl; have y3 : w3.cell? ⟨g0, 3, none⟩ = some (.int .i64 y.f3) := (blk_cell K3.out 3).trans rfl; have y4 : w3.cell? ⟨g0, 4, none⟩ = some (.int .i64 y.f4) := (blk_cell K3.out 4).trans rfl; have y5 : w3.cell? ⟨g0, 5, none⟩ = some (.int .i64 y.f5) := (blk_cell K3.out 5).trans rfl; have y6 : w3.cell? ⟨g0, 6, none⟩ = some (.string y.f6) := (blk_cell K3.out 6).trans rfl; have y7 : w3.cell? ⟨g0, 7, none⟩ = some (.bool y.f7) := (blk_cell K3.out 7).trans rfl; clear K3))
        refine (store_any y.f1 y.f2 y.f4 HM3.out (by omega)).mono ?_
        rintro e w4 ⟨t, rfl, hs4⟩
        rw [hS] at hs4
        obtain ⟨S', hS', HM4, HB4, HC4⟩ := made_round hs4 HP.out HG'.out HB3.out HC3.out HA.out
        clear hs4 HM3 HB3 HC3
        go_wp2_with fail
        go_roundw
        case rel => exact ⟨k + 1, by omega, by go_num, S', hS', HM4, HB4, hA2.out ▸ HC4⟩
        case measure => simp [intOf]; omega
      by_cases c4 : y.f0 = 4
      · have q0 : (y.f0 == 0) = false := beq_eq_false_iff_ne.mpr c0
        have q1 : (y.f0 == 1) = false := beq_eq_false_iff_ne.mpr c1
        have q4 : (y.f0 == 4) = true := beq_iff_eq.mpr c4
        clear c0 c1 c4
        go_wp2_with (first | ((with_reducible refine gate_dst (N := 8) rfl ?_); refine box_event ?hg (N := 8) ?hd (cs := #[.int .i64 0, .int .i64 0, .int .i64 0, .int .i64 0, .int .i64 0, .int .i64 0, .string (⟨#[]⟩ : ByteArray), .bool false]) (t := 79) ?hr ?_; (case hd => rfl); (case hg => rfl); (case hr => first | (go_simp; done) | (go_simp; rfl)); intro g0 hg w2 hbox hb; have K2 := Aside0.mk hbox; have HB2 := Aside0.mk (below_step HB1.out hb); have HG := Aside0.mk (by rw [hg]; exact HB1.out.size : w.heap.size ≤ g0); have HM2 := Aside0.mk (HM1.out.below hb); have HC2 := Aside0.mk (Kd.C_below HC1.out hb); have HN := Aside0.mk (show g0 ≠ p ∧ g0 ≠ g ∧ ∀ ad, A' = some ad → ad.block ≠ g0 ∨ r.length = 0 from made_new hg HM1.out HC1.out); clear hb hbox hg; have z0 : w2.cell? ⟨g0, 0, none⟩ = some (.int .i64 0) := (blk_cell K2.out 0).trans rfl; have zf0 : w2.frozen? ⟨g0, 0, none⟩ = false := blk_frozen K2.out 0; have z1 : w2.cell? ⟨g0, 1, none⟩ = some (.int .i64 0) := (blk_cell K2.out 1).trans rfl; have zf1 : w2.frozen? ⟨g0, 1, none⟩ = false := blk_frozen K2.out 1; have z2 : w2.cell? ⟨g0, 2, none⟩ = some (.int .i64 0) := (blk_cell K2.out 2).trans rfl; have zf2 : w2.frozen? ⟨g0, 2, none⟩ = false := blk_frozen K2.out 2; have z3 : w2.cell? ⟨g0, 3, none⟩ = some (.int .i64 0) := (blk_cell K2.out 3).trans rfl; have zf3 : w2.frozen? ⟨g0, 3, none⟩ = false := blk_frozen K2.out 3; have z4 : w2.cell? ⟨g0, 4, none⟩ = some (.int .i64 0) := (blk_cell K2.out 4).trans rfl; have zf4 : w2.frozen? ⟨g0, 4, none⟩ = false := blk_frozen K2.out 4; have z5 : w2.cell? ⟨g0, 5, none⟩ = some (.int .i64 0) := (blk_cell K2.out 5).trans rfl; have zf5 : w2.frozen? ⟨g0, 5, none⟩ = false := blk_frozen K2.out 5; have z6 : w2.cell? ⟨g0, 6, none⟩ = some (.string (⟨#[]⟩ : ByteArray)) := (blk_cell K2.out 6).trans rfl; have zf6 : w2.frozen? ⟨g0, 6, none⟩ = false := blk_frozen K2.out 6; have z7 : w2.cell? ⟨g0, 7, none⟩ = some (.bool false) := (blk_cell K2.out 7).trans rfl; have zf7 : w2.frozen? ⟨g0, 7, none⟩ = false := blk_frozen K2.out 7) | ((with_reducible refine gate_dst (N := 46) rfl ?_); have K3 := Aside0.mk (dc_put K2.out rfl (.int .i64 y.f0) (.int .i64 y.f1) (.int .i64 y.f2) (.int .i64 y.f3) (.int .i64 y.f4) (.int .i64 y.f5) (.string y.f6) (.bool y.f7)); have hfar := dc_far w2 g0 (.int .i64 y.f0) (.int .i64 y.f1) (.int .i64 y.f2) (.int .i64 y.f3) (.int .i64 y.f4) (.int .i64 y.f5) (.string y.f6) (.bool y.f7); have HB3 := Aside0.mk (pw_below_grown HB2.out (some g0) HB2.out.size hfar (fun k hk => by obtain rfl := Option.some.inj hk; exact HG.out)); have HM3 := Aside0.mk (HM2.out.grown hfar HN.out.1 HN.out.2.1); have HC3 := Aside0.mk (C79_grown HC2.out hfar HN.out.2.2); clear hfar; clear z0 zf0 z1 zf1 z2 zf2 z3 zf3 z4 zf4 z5 zf5 z6 zf6 z7 zf7; clear K2 HB2 HM2 HC2 HB1 HM1 HC1 HN; generalize ((((((((w2.setCell ⟨g0, 0, none⟩ (.int .i64 y.f0)).setCell ⟨g0, 1, none⟩ (.int .i64 y.f1)).setCell ⟨g0, 2, none⟩ (.int .i64 y.f2)).setCell ⟨g0, 3, none⟩ (.int .i64 y.f3)).setCell ⟨g0, 4, none⟩ (.int .i64 y.f4)).setCell ⟨g0, 5, none⟩ (.int .i64 y.f5)).setCell ⟨g0, 6, none⟩ (.string y.f6)).setCell ⟨g0, 7, none⟩ (.bool y.f7)) = w3 at *; have y0 : w3.cell? ⟨g0, 0, none⟩ = some (.int .i64 y.f0) := (blk_cell K3.out 0).trans rfl; have y1 : w3.cell? ⟨g0, 1, none⟩ = some (.int .i64 y.f1) := (blk_cell K3.out 1).trans rfl; have y2 : w3.cell? ⟨g0, 2, none⟩ = some (.int .i64 y.f2) := (blk_cell K3.out 2).trans rfl; have y3 : w3.cell? ⟨g0, 3, none⟩ = some (.int .i64 y.f3) := (blk_cell K3.out 3).trans rfl; have y4 : w3.cell? ⟨g0, 4, none⟩ = some (.int .i64 y.f4) := (blk_cell K3.out 4).trans rfl; have y5 : w3.cell? ⟨g0, 5, none⟩ = some (.int .i64 y.f5) := (blk_cell K3.out 5).trans rfl; have y6 : w3.cell? ⟨g0, 6, none⟩ = some (.string y.f6) := (blk_cell K3.out 6).trans rfl; have y7 : w3.cell? ⟨g0, 7, none⟩ = some (.bool y.f7) := (blk_cell K3.out 7).trans rfl; clear K3))
        refine (write_any y.f2 y.f6 HM3.out (by omega)).mono ?_
        rintro e w4 ⟨t, rfl, hs4⟩
        rw [hS] at hs4
        obtain ⟨S', hS', HM4, HB4, HC4⟩ := made_round hs4 HP.out HG'.out HB3.out HC3.out HA.out
        clear hs4 HM3 HB3 HC3
        go_wp2_with fail
        go_roundw
        case rel => exact ⟨k + 1, by omega, by go_num, S', hS', HM4, HB4, hA2.out ▸ HC4⟩
        case measure => simp [intOf]; omega
      by_cases c6 : y.f0 = 6
      · have q0 : (y.f0 == 0) = false := beq_eq_false_iff_ne.mpr c0
        have q1 : (y.f0 == 1) = false := beq_eq_false_iff_ne.mpr c1
        have q4 : (y.f0 == 4) = false := beq_eq_false_iff_ne.mpr c4
        have q6 : (y.f0 == 6) = true := beq_iff_eq.mpr c6
        clear c0 c1 c4 c6
        go_wp2_with (first | ((with_reducible refine gate_dst (N := 8) rfl ?_); refine box_event ?hg (N := 8) ?hd (cs := #[.int .i64 0, .int .i64 0, .int .i64 0, .int .i64 0, .int .i64 0, .int .i64 0, .string (⟨#[]⟩ : ByteArray), .bool false]) (t := 79) ?hr ?_; (case hd => rfl); (case hg => rfl); (case hr => first | (go_simp; done) | (go_simp; rfl)); intro g0 hg w2 hbox hb; have K2 := Aside0.mk hbox; have HB2 := Aside0.mk (below_step HB1.out hb); have HG := Aside0.mk (by rw [hg]; exact HB1.out.size : w.heap.size ≤ g0); have HM2 := Aside0.mk (HM1.out.below hb); have HC2 := Aside0.mk (Kd.C_below HC1.out hb); have HN := Aside0.mk (show g0 ≠ p ∧ g0 ≠ g ∧ ∀ ad, A' = some ad → ad.block ≠ g0 ∨ r.length = 0 from made_new hg HM1.out HC1.out); clear hb hbox hg; have z0 : w2.cell? ⟨g0, 0, none⟩ = some (.int .i64 0) := (blk_cell K2.out 0).trans rfl; have zf0 : w2.frozen? ⟨g0, 0, none⟩ = false := blk_frozen K2.out 0; have z1 : w2.cell? ⟨g0, 1, none⟩ = some (.int .i64 0) := (blk_cell K2.out 1).trans rfl; have zf1 : w2.frozen? ⟨g0, 1, none⟩ = false := blk_frozen K2.out 1; have z2 : w2.cell? ⟨g0, 2, none⟩ = some (.int .i64 0) := (blk_cell K2.out 2).trans rfl; have zf2 : w2.frozen? ⟨g0, 2, none⟩ = false := blk_frozen K2.out 2; have z3 : w2.cell? ⟨g0, 3, none⟩ = some (.int .i64 0) := (blk_cell K2.out 3).trans rfl; have zf3 : w2.frozen? ⟨g0, 3, none⟩ = false := blk_frozen K2.out 3; have z4 : w2.cell? ⟨g0, 4, none⟩ = some (.int .i64 0) := (blk_cell K2.out 4).trans rfl; have zf4 : w2.frozen? ⟨g0, 4, none⟩ = false := blk_frozen K2.out 4; have z5 : w2.cell? ⟨g0, 5, none⟩ = some (.int .i64 0) := (blk_cell K2.out 5).trans rfl; have zf5 : w2.frozen? ⟨g0, 5, none⟩ = false := blk_frozen K2.out 5; have z6 : w2.cell? ⟨g0, 6, none⟩ = some (.string (⟨#[]⟩ : ByteArray)) := (blk_cell K2.out 6).trans rfl; have zf6 : w2.frozen? ⟨g0, 6, none⟩ = false := blk_frozen K2.out 6; have z7 : w2.cell? ⟨g0, 7, none⟩ = some (.bool false) := (blk_cell K2.out 7).trans rfl; have zf7 : w2.frozen? ⟨g0, 7, none⟩ = false := blk_frozen K2.out 7) | ((with_reducible refine gate_dst (N := 46) rfl ?_); have K3 := Aside0.mk (dc_put K2.out rfl (.int .i64 y.f0) (.int .i64 y.f1) (.int .i64 y.f2) (.int .i64 y.f3) (.int .i64 y.f4) (.int .i64 y.f5) (.string y.f6) (.bool y.f7)); have hfar := dc_far w2 g0 (.int .i64 y.f0) (.int .i64 y.f1) (.int .i64 y.f2) (.int .i64 y.f3) (.int .i64 y.f4) (.int .i64 y.f5) (.string y.f6) (.bool y.f7); have HB3 := Aside0.mk (pw_below_grown HB2.out (some g0) HB2.out.size hfar (fun k hk => by obtain rfl := Option.some.inj hk; exact HG.out)); have HM3 := Aside0.mk (HM2.out.grown hfar HN.out.1 HN.out.2.1); have HC3 := Aside0.mk (C79_grown HC2.out hfar HN.out.2.2); clear hfar; clear z0 zf0 z1 zf1 z2 zf2 z3 zf3 z4 zf4 z5 zf5 z6 zf6 z7 zf7; clear K2 HB2 HM2 HC2 HB1 HM1 HC1 HN; generalize ((((((((w2.setCell ⟨g0, 0, none⟩ (.int .i64 y.f0)).setCell ⟨g0, 1, none⟩ (.int .i64 y.f1)).setCell ⟨g0, 2, none⟩ (.int .i64 y.f2)).setCell ⟨g0, 3, none⟩ (.int .i64 y.f3)).setCell ⟨g0, 4, none⟩ (.int .i64 y.f4)).setCell ⟨g0, 5, none⟩ (.int .i64 y.f5)).setCell ⟨g0, 6, none⟩ (.string y.f6)).setCell ⟨g0, 7, none⟩ (.bool y.f7)) = w3 at *; have y0 : w3.cell? ⟨g0, 0, none⟩ = some (.int .i64 y.f0) := (blk_cell K3.out 0).trans rfl; have y1 : w3.cell? ⟨g0, 1, none⟩ = some (.int .i64 y.f1) := (blk_cell K3.out 1).trans rfl; have y2 : w3.cell? ⟨g0, 2, none⟩ = some (.int .i64 y.f2) := (blk_cell K3.out 2).trans rfl; have y3 : w3.cell? ⟨g0, 3, none⟩ = some (.int .i64 y.f3) := (blk_cell K3.out 3).trans rfl; have y4 : w3.cell? ⟨g0, 4, none⟩ = some (.int .i64 y.f4) := (blk_cell K3.out 4).trans rfl; have y5 : w3.cell? ⟨g0, 5, none⟩ = some (.int .i64 y.f5) := (blk_cell K3.out 5).trans rfl; have y6 : w3.cell? ⟨g0, 6, none⟩ = some (.string y.f6) := (blk_cell K3.out 6).trans rfl; have y7 : w3.cell? ⟨g0, 7, none⟩ = some (.bool y.f7) := (blk_cell K3.out 7).trans rfl; clear K3))
        refine (fill_any y.f2 y.f4 y.f5 HM3.out (by omega)).mono ?_
        rintro e w4 ⟨t, rfl, hs4⟩
        rw [hS] at hs4
        obtain ⟨S', hS', HM4, HB4, HC4⟩ := made_round hs4 HP.out HG'.out HB3.out HC3.out HA.out
        clear hs4 HM3 HB3 HC3
        go_wp2_with fail
        go_roundw
        case rel => exact ⟨k + 1, by omega, by go_num, S', hS', HM4, HB4, hA2.out ▸ HC4⟩
        case measure => simp [intOf]; omega
      · have q0 : (y.f0 == 0) = false := beq_eq_false_iff_ne.mpr c0
        have q1 : (y.f0 == 1) = false := beq_eq_false_iff_ne.mpr c1
        have q4 : (y.f0 == 4) = false := beq_eq_false_iff_ne.mpr c4
        have q6 : (y.f0 == 6) = false := beq_eq_false_iff_ne.mpr c6
        clear c0 c1 c4 c6
        go_wp2_with (first | ((with_reducible refine gate_dst (N := 8) rfl ?_); refine box_event ?hg (N := 8) ?hd (cs := #[.int .i64 0, .int .i64 0, .int .i64 0, .int .i64 0, .int .i64 0, .int .i64 0, .string (⟨#[]⟩ : ByteArray), .bool false]) (t := 79) ?hr ?_; (case hd => rfl); (case hg => rfl); (case hr => first | (go_simp; done) | (go_simp; rfl)); intro g0 hg w2 hbox hb; have K2 := Aside0.mk hbox; have HB2 := Aside0.mk (below_step HB1.out hb); have HG := Aside0.mk (by rw [hg]; exact HB1.out.size : w.heap.size ≤ g0); have HM2 := Aside0.mk (HM1.out.below hb); have HC2 := Aside0.mk (Kd.C_below HC1.out hb); have HN := Aside0.mk (show g0 ≠ p ∧ g0 ≠ g ∧ ∀ ad, A' = some ad → ad.block ≠ g0 ∨ r.length = 0 from made_new hg HM1.out HC1.out); clear hb hbox hg; have z0 : w2.cell? ⟨g0, 0, none⟩ = some (.int .i64 0) := (blk_cell K2.out 0).trans rfl; have zf0 : w2.frozen? ⟨g0, 0, none⟩ = false := blk_frozen K2.out 0; have z1 : w2.cell? ⟨g0, 1, none⟩ = some (.int .i64 0) := (blk_cell K2.out 1).trans rfl; have zf1 : w2.frozen? ⟨g0, 1, none⟩ = false := blk_frozen K2.out 1; have z2 : w2.cell? ⟨g0, 2, none⟩ = some (.int .i64 0) := (blk_cell K2.out 2).trans rfl; have zf2 : w2.frozen? ⟨g0, 2, none⟩ = false := blk_frozen K2.out 2; have z3 : w2.cell? ⟨g0, 3, none⟩ = some (.int .i64 0) := (blk_cell K2.out 3).trans rfl; have zf3 : w2.frozen? ⟨g0, 3, none⟩ = false := blk_frozen K2.out 3; have z4 : w2.cell? ⟨g0, 4, none⟩ = some (.int .i64 0) := (blk_cell K2.out 4).trans rfl; have zf4 : w2.frozen? ⟨g0, 4, none⟩ = false := blk_frozen K2.out 4; have z5 : w2.cell? ⟨g0, 5, none⟩ = some (.int .i64 0) := (blk_cell K2.out 5).trans rfl; have zf5 : w2.frozen? ⟨g0, 5, none⟩ = false := blk_frozen K2.out 5; have z6 : w2.cell? ⟨g0, 6, none⟩ = some (.string (⟨#[]⟩ : ByteArray)) := (blk_cell K2.out 6).trans rfl; have zf6 : w2.frozen? ⟨g0, 6, none⟩ = false := blk_frozen K2.out 6; have z7 : w2.cell? ⟨g0, 7, none⟩ = some (.bool false) := (blk_cell K2.out 7).trans rfl; have zf7 : w2.frozen? ⟨g0, 7, none⟩ = false := blk_frozen K2.out 7) | ((with_reducible refine gate_dst (N := 46) rfl ?_); have K3 := Aside0.mk (dc_put K2.out rfl (.int .i64 y.f0) (.int .i64 y.f1) (.int .i64 y.f2) (.int .i64 y.f3) (.int .i64 y.f4) (.int .i64 y.f5) (.string y.f6) (.bool y.f7)); have hfar := dc_far w2 g0 (.int .i64 y.f0) (.int .i64 y.f1) (.int .i64 y.f2) (.int .i64 y.f3) (.int .i64 y.f4) (.int .i64 y.f5) (.string y.f6) (.bool y.f7); have HB3 := Aside0.mk (pw_below_grown HB2.out (some g0) HB2.out.size hfar (fun k hk => by obtain rfl := Option.some.inj hk; exact HG.out)); have HM3 := Aside0.mk (HM2.out.grown hfar HN.out.1 HN.out.2.1); have HC3 := Aside0.mk (C79_grown HC2.out hfar HN.out.2.2); clear hfar; clear z0 zf0 z1 zf1 z2 zf2 z3 zf3 z4 zf4 z5 zf5 z6 zf6 z7 zf7; clear K2 HB2 HM2 HC2 HB1 HM1 HC1 HN; generalize ((((((((w2.setCell ⟨g0, 0, none⟩ (.int .i64 y.f0)).setCell ⟨g0, 1, none⟩ (.int .i64 y.f1)).setCell ⟨g0, 2, none⟩ (.int .i64 y.f2)).setCell ⟨g0, 3, none⟩ (.int .i64 y.f3)).setCell ⟨g0, 4, none⟩ (.int .i64 y.f4)).setCell ⟨g0, 5, none⟩ (.int .i64 y.f5)).setCell ⟨g0, 6, none⟩ (.string y.f6)).setCell ⟨g0, 7, none⟩ (.bool y.f7)) = w3 at *; have y0 : w3.cell? ⟨g0, 0, none⟩ = some (.int .i64 y.f0) := (blk_cell K3.out 0).trans rfl; have y1 : w3.cell? ⟨g0, 1, none⟩ = some (.int .i64 y.f1) := (blk_cell K3.out 1).trans rfl; have y2 : w3.cell? ⟨g0, 2, none⟩ = some (.int .i64 y.f2) := (blk_cell K3.out 2).trans rfl; have y3 : w3.cell? ⟨g0, 3, none⟩ = some (.int .i64 y.f3) := (blk_cell K3.out 3).trans rfl; have y4 : w3.cell? ⟨g0, 4, none⟩ = some (.int .i64 y.f4) := (blk_cell K3.out 4).trans rfl; have y5 : w3.cell? ⟨g0, 5, none⟩ = some (.int .i64 y.f5) := (blk_cell K3.out 5).trans rfl; have y6 : w3.cell? ⟨g0, 6, none⟩ = some (.string y.f6) := (blk_cell K3.out 6).trans rfl; have y7 : w3.cell? ⟨g0, 7, none⟩ = some (.bool y.f7) := (blk_cell K3.out 7).trans rfl; clear K3))
        go_roundw
        case rel => exact ⟨k + 1, by omega, by go_num, S, hS, HM3, HB3, hA2.out ▸ HC3⟩
        case measure => simp [intOf]; omega
    · obtain rfl : k = r.length := by omega
      go_wp2_with fail
      go_ret
      exact ⟨p, g, S, rfl, hS, HM.out, HP.out, HG'.out, HB.out⟩
end Go.Proofs.Ytmpmcffhlnlejaa.MemEq
