/- A part of the proof of the law that its last file names: texts of this seat's author and of the kit's printer, cut to what the theorem uses. Part 21: Slf3, SubOpen, SubSized. -/
import Derived.Test.YtmpmcffhlnlejaaCs20
section
namespace Go.Proofs.Ytmpmcffhlnlejaa.Slf
open Go.RowKit Go.Proofs.YtmpmcffhlnlejaaW.PrintWords Go.Proofs.YtmpmcffhlnlejaaW.PrintLast Go.Proofs.YtmpmcffhlnlejaaW.PrintMore
open Go.Proofs.Ytmpmcffhlnlejaa.SubEq Go.Proofs.Ytmpmcffhlnlejaa.Mkr
open Go.Proofs.Ytmpmcffhlnlejaa.PSubSelf (S120 k120)
open Go.Proofs.Ytmpmcffhlnlejaa.Wld (SmP)
set_option linter.unusedVariables false
set_option linter.unusedSimpArgs false
theorem RR_take {α : Type} {R : α → List Value → Prop} {sz : Nat} {w : World} {A : Option Addr} {xs : List α} {m : Nat} (h : ReadsRow R sz w A xs.length xs) (hm : m ≤ xs.length) : ReadsRow R sz w A m (xs.take m) := by
  have hl : (xs.take m).length = m := by rw [List.length_take]; omega
  refine ⟨hl, by have := h.2.1; omega, fun hp => ?_⟩
  obtain ⟨ad, e, hc⟩ := h.2.2 (by omega)
  refine ⟨ad, e, fun j p hj => hc j p ?_⟩
  rw [List.getElem?_take] at hj
  split at hj
  · exact hj
  · cases hj
theorem RR_drop {α : Type} {R : α → List Value → Prop} {sz : Nat} {w : World} {A : Option Addr} {xs : List α} {m c : Nat} (h : ReadsRow R sz w A xs.length xs) (hm : m ≤ xs.length) (hc : xs.length ≤ c) : ReadsRow R sz w (if c = m then A else A.map (·.add (m * sz))) (xs.length - m) (xs.drop m) := by
  have hl : (xs.drop m).length = xs.length - m := List.length_drop
  refine ⟨hl, by have := h.2.1; omega, fun hp => ?_⟩
  obtain ⟨ad, rfl, hcell⟩ := h.2.2 (by omega)
  rw [if_neg (by omega)]
  refine ⟨ad.add (m * sz), rfl, fun j p hj => ?_⟩
  rw [List.getElem?_drop] at hj
  obtain ⟨cs, h1, h2, h3⟩ := hcell (m + j) p hj
  refine ⟨cs, h1, h2, fun i u hu => ?_⟩
  rw [add_add, show m * sz + (j * sz + i) = (m + j) * sz + i by rw [Nat.add_mul]; omega]
  exact h3 i u hu
theorem R_readsM {α : Type} {d : Kd α} {e : TypeId} {w : World} {base : Nat} {ok : Nat → Prop} {A : Option Addr} {n c : Nat} {xs : List α} (h : d.R e w base ok (.slice A n c) xs) : ReadsRow (d.M w base ok) d.sz w A xs.length xs := by
  obtain ⟨A', c', he, hl, hr⟩ := OwnRow.reads h.2
  injection he with h1 h2 h3
  subst h1
  exact hr.imp_ (Below.refl _ _) (fun _ _ hp => d.M_mono (fun k hk => hk.1) hp)
theorem bits_and_255 (k : Int) : 0 ≤ bits .and .i64 k 255 ∧ bits .and .i64 k 255 ≤ 255 := by
  have h1 : bits .and .i64 k 255 = IntKind.i64.wrap ((BitVec.ofInt 64 k &&& BitVec.ofInt 64 255).toNat : Int) := rfl
  have h2 : (BitVec.ofInt 64 k &&& BitVec.ofInt 64 255).toNat ≤ 255 := by
    rw [BitVec.toNat_and]
    exact Nat.and_le_right
  rw [h1, IntWalk.i64_in _ (by omega)]
  omega
structure ConN (w : World) (base N : Nat) (a : Con) (A1 : Option Addr) (c1 : Nat) (A2 : Option Addr) (c2 : Nat) (A3 : Option Addr) (c3 : Nat) : Prop where
  r1 : Kd.string.R 9 w base (fun k => k < N) (.slice A1 a.res.length c1) a.res
  r2 : PSubFits.k27.R 27 w base (fun k => k < N) (.slice A2 a.ins.length c2) a.ins
  r3 : PSubFits.k27.R 27 w base (fun k => k < N) (.slice A3 a.outs.length c3) a.outs
section
variable {w w' : World} {base N : Nat} {a : Con} {A1 : Option Addr} {c1 : Nat} {A2 : Option Addr} {c2 : Nat} {A3 : Option Addr} {c3 : Nat}
theorem ConN.of (h : ConR w base a A1 c1 A2 c2 A3 c3) : ConN w base w.heap.size a A1 c1 A2 c2 A3 c3 := ⟨Kd.R_mono (Kd.R_bound h.r1) (fun k hk => hk.2.2.1), Kd.R_mono (Kd.R_bound h.r2) (fun k hk => hk.2.2.1), Kd.R_mono (Kd.R_bound h.r3) (fun k hk => hk.2.2.1)⟩
theorem ConN.toR (h : ConN w base N a A1 c1 A2 c2 A3 c3) : ConR w base a A1 c1 A2 c2 A3 c3 := ⟨Kd.R_mono h.r1 (fun _ _ => trivial), Kd.R_mono h.r2 (fun _ _ => trivial), Kd.R_mono h.r3 (fun _ _ => trivial)⟩
theorem ConN.below (h : ConN w base N a A1 c1 A2 c2 A3 c3) (hb : Below w.heap.size w w') : ConN w' base N a A1 c1 A2 c2 A3 c3 := ⟨Kd.R_below h.r1 hb, Kd.R_below h.r2 hb, Kd.R_below h.r3 hb⟩
theorem ConN.set (h : ConN w base N a A1 c1 A2 c2 A3 c3) {g : Nat} {cs : Array Value} (hb : w.heap[g]? = some (.cells cs 40 (0, 0))) (j : Nat) (u : Value) : ConN (w.setCell ⟨g, j, none⟩ u) base N a A1 c1 A2 c2 A3 c3 :=
  ⟨Kd.R_set h.r1 hb (by decide) j u, Kd.R_set h.r2 hb (by decide) j u, Kd.R_set h.r3 hb (by decide) j u⟩
theorem ConN.grown (h : ConN w base N a A1 c1 A2 c2 A3 c3) {row : Option Nat} (hg : w.grownBy w' row) (hr : ∀ k, row = some k → N ≤ k) : ConN w' base N a A1 c1 A2 c2 A3 c3 :=
  ⟨Kd.R_grown h.r1 hg (fun k hk e => by have := hr k e.symm; omega), Kd.R_grown h.r2 hg (fun k hk e => by have := hr k e.symm; omega), Kd.R_grown h.r3 hg (fun k hk e => by have := hr k e.symm; omega)⟩
end
theorem own_from {v1 v0 : Value} {n : Nat} (h0 : v0.ownBlock = none) (r4 : v1.ownBlock = v0.ownBlock ∨ ∃ b, v1.ownBlock = some b ∧ n ≤ b) : ∀ j, v1.ownBlock = some j → n ≤ j := by
  intro j hj
  rcases r4 with r4 | ⟨b, r4, hb⟩
  · rw [r4, h0] at hj
    cases hj
  · rw [hj] at r4
    have e1 : j = b := Option.some.inj r4
    omega
set_option maxHeartbeats 16000000 in
set_option maxRecDepth 100000 in
theorem law_self {P : List S120} {A : Option Addr} (c : Nat) {w : World} (hP : k120.C w A P.length P) (hsm : ∀ q ∈ P, SmP q) (hc : P.length ≤ c) (pkg : Int) (name : ByteArray) (k : Int) :
    Calls Try.prog 5 #[.slice A P.length c, .int .i64 pkg, .string name, .int .i64 k] w fun e w' => e = .returned (.bool true) ∧ Below w.heap.size w w' := by
  have HOF := Aside0.mk (of_any c hP hsm pkg name hc)
  clear hP hsm
  go_enter Try.func5, Try.ntmps5
  go_wp2_with fail
  refine HOF.out.mono ?_
  rintro e w1 ⟨a, A1, c1, A2, c2, A3, c3, ok, rfl, hb, hr, hg⟩
  have HB1 := Aside0.mk hb
  have HB9 := Aside0.mk (below_alloc hb (.cells #[.slice A1 a.res.length c1, .slice A2 a.ins.length c2, .slice A3 a.outs.length c3] 40))
  have HR9 := Aside0.mk (hr.below (below_alloc (Below.refl _ _) (.cells #[.slice A1 a.res.length c1, .slice A2 a.ins.length c2, .slice A3 a.outs.length c3] 40)))
  have K9 := Aside0.mk (blk_new w1 (.cells #[.slice A1 a.res.length c1, .slice A2 a.ins.length c2, .slice A3 a.outs.length c3] 40))
  have HG := Aside0.mk hg
  clear hb hr hg HOF
  cases ok with
  | false =>
    go_wp2_with fail
    refine (awake_calls _).mono ?_
    rintro e w2 ⟨rfl, hb2⟩
    have HE := Aside0.mk (below_step HB9.out hb2)
    clear hb2
    go_wp2_with fail
    go_ret
    exact ⟨rfl, HE.out⟩
  | true =>
    have GC := Aside0.mk (HG.out rfl)
    clear HG
    have hni : a.ins.length ≤ 200 := GC.out.li
    have hno : a.outs.length ≤ 200 := GC.out.lo
    have HRZ : Aside0 (a.res.length * 16 ≤ 140737488351232) := ⟨by have := GC.out.lr; omega⟩
    have z0 : (w1.alloc (.cells #[.slice A1 a.res.length c1, .slice A2 a.ins.length c2, .slice A3 a.outs.length c3] 40)).cell? ⟨w1.heap.size, 0, none⟩ = some (.slice A1 a.res.length c1) := (blk_cell K9.out 0).trans rfl
    have z1 : (w1.alloc (.cells #[.slice A1 a.res.length c1, .slice A2 a.ins.length c2, .slice A3 a.outs.length c3] 40)).cell? ⟨w1.heap.size, 1, none⟩ = some (.slice A2 a.ins.length c2) := (blk_cell K9.out 1).trans rfl
    have z2 : (w1.alloc (.cells #[.slice A1 a.res.length c1, .slice A2 a.ins.length c2, .slice A3 a.outs.length c3] 40)).cell? ⟨w1.heap.size, 2, none⟩ = some (.slice A3 a.outs.length c3) := (blk_cell K9.out 2).trans rfl
    go_wp2_with fail
    clear z0 z1 z2
    obtain ⟨w9, hw9⟩ : ∃ w9 : World, w9 = (w1.alloc (.cells #[.slice A1 a.res.length c1, .slice A2 a.ins.length c2, .slice A3 a.outs.length c3] 40)) := ⟨_, rfl⟩
    rw [← hw9] at HB9 HR9 K9 ⊢
    clear hw9 HB1
    generalize w1.heap.size = g9 at *
    refine (fits_calls a a _ A1 c1 A2 c2 A3 c3 A1 c1 A2 c2 A3 c3 HR9.out.toAt HR9.out.toAt HRZ.out HRZ.out).mono ?_
    rw [fits_self GC.out]
    rintro e w2 ⟨rfl, hb2⟩
    have HB2 := Aside0.mk (below_step HB9.out hb2)
    have HR2 := Aside0.mk (HR9.out.below hb2)
    have K92 := Aside0.mk (blk_below K9.out hb2)
    clear hb2 HB9 HR9 K9
    have z0 : w2.cell? ⟨g9, 0, none⟩ = some (.slice A1 a.res.length c1) := (blk_cell K92.out 0).trans rfl
    have z1 : w2.cell? ⟨g9, 1, none⟩ = some (.slice A2 a.ins.length c2) := (blk_cell K92.out 1).trans rfl
    have z2 : w2.cell? ⟨g9, 2, none⟩ = some (.slice A3 a.outs.length c3) := (blk_cell K92.out 2).trans rfl
    go_upto_region 8 with fail
    have HB11 := Aside0.mk (below_alloc HB2.out (.cells #[.slice A1 a.res.length c1, .slice A2 a.ins.length c2, .slice A3 a.outs.length c3] 40))
    have HR11 := Aside0.mk (HR2.out.below (below_alloc (Below.refl _ _) (.cells #[.slice A1 a.res.length c1, .slice A2 a.ins.length c2, .slice A3 a.outs.length c3] 40)))
    have K911 := Aside0.mk (blk_alloc K92.out (.cells #[.slice A1 a.res.length c1, .slice A2 a.ins.length c2, .slice A3 a.outs.length c3] 40))
    have K11a := Aside0.mk (blk_new w2 (.cells #[.slice A1 a.res.length c1, .slice A2 a.ins.length c2, .slice A3 a.outs.length c3] 40))
    have n911 : g9 ≠ w2.heap.size := by have := blk_lt K92.out; omega
    have n119 := n911.symm
    have HG11 : Aside0 (w.heap.size ≤ w2.heap.size) := ⟨HB2.out.size⟩
    have hb0 := bits_and_255 k
    generalize bits .and .i64 k 255 = kk at *
    obtain ⟨k, rfl⟩ : ∃ k : Nat, kk = (k : Int) := ⟨kk.toNat, by omega⟩
    have zz0 : (w2.alloc (.cells #[.slice A1 a.res.length c1, .slice A2 a.ins.length c2, .slice A3 a.outs.length c3] 40)).cell? ⟨g9, 0, none⟩ = some (.slice A1 a.res.length c1) := (blk_cell K911.out 0).trans rfl
    have zz1 : (w2.alloc (.cells #[.slice A1 a.res.length c1, .slice A2 a.ins.length c2, .slice A3 a.outs.length c3] 40)).cell? ⟨g9, 1, none⟩ = some (.slice A2 a.ins.length c2) := (blk_cell K911.out 1).trans rfl
    have zz2 : (w2.alloc (.cells #[.slice A1 a.res.length c1, .slice A2 a.ins.length c2, .slice A3 a.outs.length c3] 40)).cell? ⟨g9, 2, none⟩ = some (.slice A3 a.outs.length c3) := (blk_cell K911.out 2).trans rfl
    by_cases hk : k < a.ins.length
    · have e1 : decide ((k : Int) < (a.ins.length : Int)) = true := decide_eq_true (by omega)
      have l0 : (w2.alloc (.cells #[.slice A1 a.res.length c1, .slice A2 a.ins.length c2, .slice A3 a.outs.length c3] 40)).cell? ⟨w2.heap.size, 0, none⟩ = some (.slice A1 a.res.length c1) := (blk_cell K11a.out 0).trans rfl
      have l1 : (w2.alloc (.cells #[.slice A1 a.res.length c1, .slice A2 a.ins.length c2, .slice A3 a.outs.length c3] 40)).cell? ⟨w2.heap.size, 1, none⟩ = some (.slice A2 a.ins.length c2) := (blk_cell K11a.out 1).trans rfl
      have l2 : (w2.alloc (.cells #[.slice A1 a.res.length c1, .slice A2 a.ins.length c2, .slice A3 a.outs.length c3] 40)).cell? ⟨w2.heap.size, 2, none⟩ = some (.slice A3 a.outs.length c3) := (blk_cell K11a.out 2).trans rfl
      have lf0 : (w2.alloc (.cells #[.slice A1 a.res.length c1, .slice A2 a.ins.length c2, .slice A3 a.outs.length c3] 40)).frozen? ⟨w2.heap.size, 0, none⟩ = false := blk_frozen K11a.out 0
      have lf1 : (w2.alloc (.cells #[.slice A1 a.res.length c1, .slice A2 a.ins.length c2, .slice A3 a.outs.length c3] 40)).frozen? ⟨w2.heap.size, 1, none⟩ = false := blk_frozen K11a.out 1
      have lf2 : (w2.alloc (.cells #[.slice A1 a.res.length c1, .slice A2 a.ins.length c2, .slice A3 a.outs.length c3] 40)).frozen? ⟨w2.heap.size, 2, none⟩ = false := blk_frozen K11a.out 2
      go_upto_region 10 with fail
      clear l0 l1 l2 lf0 lf1 lf2 z0 z1 z2 zz0 zz1 zz2
      obtain ⟨wl, hwl⟩ : ∃ wl : World, wl = w2.alloc (.cells #[.slice A1 a.res.length c1, .slice none 0 0, .slice A3 a.outs.length c3] 40) := ⟨_, rfl⟩
      have HBl : Aside0 (Below w.heap.size w wl) := ⟨by rw [hwl]; exact below_alloc HB2.out _⟩
      have HRl : Aside0 (ConR wl w.heap.size a A1 c1 A2 c2 A3 c3) := ⟨by rw [hwl]; exact HR2.out.below (below_alloc (Below.refl _ _) _)⟩
      have K9l : Aside0 (wl.heap[g9]? = some (.cells #[.slice A1 a.res.length c1, .slice A2 a.ins.length c2, .slice A3 a.outs.length c3] 40 (0, 0))) := ⟨by rw [hwl]; exact blk_alloc K92.out _⟩
      have K11l : Aside0 (wl.heap[w2.heap.size]? = some (.cells #[.slice A1 a.res.length c1, .slice none 0 0, .slice A3 a.outs.length c3] 40 (0, 0))) := ⟨by rw [hwl]; exact blk_new w2 _⟩
      have hN : w2.heap.size < wl.heap.size := blk_lt K11l.out
      rw [← hwl]
      clear hwl HB11 HR11 K911 K11a HB2 HR2 K92
      generalize w2.heap.size = g11 at *
      have HN := Aside0.mk hN
      clear hN
      have HRn : Aside0 (ConN wl w.heap.size wl.heap.size a A1 c1 A2 c2 A3 c3) := ⟨.of HRl.out⟩
      obtain ⟨N, hNN⟩ : ∃ N : Nat, N = wl.heap.size := ⟨_, rfl⟩
      rw [← hNN] at HRn HN
      have HNN := Aside0.mk hNN
      clear hNN
      go_cut [] (fun wx => ∃ (B1 : Option Addr) (d1 : Nat), Aside0 (Below w.heap.size w wx) ∧ Aside0 (ConN wx w.heap.size N a A1 c1 A2 c2 A3 c3) ∧ Aside0 (wx.heap[g9]? = some (.cells #[.slice A1 a.res.length c1, .slice A2 a.ins.length c2, .slice A3 a.outs.length c3] 40 (0, 0))) ∧ Aside0 (wx.heap[g11]? = some (.cells #[.slice A1 a.res.length c1, .slice B1 k d1, .slice A3 a.outs.length c3] 40 (0, 0))) ∧ Aside0 (PSubFits.k27.R 27 wx w.heap.size (fun _ => True) (.slice B1 k d1) (a.ins.take k)) ∧ Aside0 (∀ j, (Value.slice B1 k d1).ownBlock = some j → N ≤ j))
      case first =>
        have HRnd := Aside0.mk (HRn.out.below (below_drew1 (Below.refl _ _)))
        have K9d : Aside0 (wl.drew.heap[g9]? = some (.cells #[.slice A1 a.res.length c1, .slice A2 a.ins.length c2, .slice A3 a.outs.length c3] 40 (0, 0))) := ⟨K9l.out⟩
        have K11d : Aside0 (wl.drew.heap[g11]? = some (.cells #[.slice A1 a.res.length c1, .slice none 0 0, .slice A3 a.outs.length c3] 40 (0, 0))) := ⟨K11l.out⟩
        have z0 : wl.drew.cell? ⟨g9, 0, none⟩ = some (.slice A1 a.res.length c1) := (blk_cell K9d.out 0).trans rfl
        have z1 : wl.drew.cell? ⟨g9, 1, none⟩ = some (.slice A2 a.ins.length c2) := (blk_cell K9d.out 1).trans rfl
        have z2 : wl.drew.cell? ⟨g9, 2, none⟩ = some (.slice A3 a.outs.length c3) := (blk_cell K9d.out 2).trans rfl
        have l0 : wl.drew.cell? ⟨g11, 0, none⟩ = some (.slice A1 a.res.length c1) := (blk_cell K11d.out 0).trans rfl
        have l1 : wl.drew.cell? ⟨g11, 1, none⟩ = some (.slice none 0 0) := (blk_cell K11d.out 1).trans rfl
        have l2 : wl.drew.cell? ⟨g11, 2, none⟩ = some (.slice A3 a.outs.length c3) := (blk_cell K11d.out 2).trans rfl
        have lf0 : wl.drew.frozen? ⟨g11, 0, none⟩ = false := blk_frozen K11d.out 0
        have lf1 : wl.drew.frozen? ⟨g11, 1, none⟩ = false := blk_frozen K11d.out 1
        have lf2 : wl.drew.frozen? ⟨g11, 2, none⟩ = false := blk_frozen K11d.out 2
        have HLE : Aside0 (w.heap.size ≤ wl.drew.heap.size) := ⟨HBl.out.size⟩
        have hkl : (k : Int) ≤ (a.ins.length : Int) := by omega
        have hkc : (a.ins.length : Int) ≤ (c2 : Int) := by have := (Kd.R_reads' HRl.out.r2).2.1; omega
        have hk0 : (0 : Int) ≤ (k : Int) := by omega
        have hkcc : (k : Int) ≤ (c2 : Int) := by omega
        go_region_law
          (first
            | (refine Kd.R_append_rows_step PSubFits.k27 (Rr := PSubFits.k27.M wl.drew w.heap.size (fun k => k < N)) (w0 := w) w.heap.size rfl (.tmp 36) (.tmp 40) 38 27 (.agg #[.string ⟨#[]⟩, .slice none 0 0, .slice none 0 0, .int .i64 0, .slice none 0 0, .slice none 0 0, .int .i64 0]) 128 rfl Try.underlying38 info27 rfl (by decide) (by decide) (.slice none 0 0) [] (a.ins.take k) A2 k c2 (fun _ => True) (fun k => k < N) rfl rfl (Kd.R_nil _ _ _ _ _) (RR_take (R_readsM HRnd.out.r2) (by omega)) (fun _ _ h => h) (fun j hj => ⟨trivial, by simp [Value.ownBlock]⟩) (fun _ _ => trivial) (below_drew1 HBl.out) HLE.out (by simp; omega) ?_; intro v1 w4 r1 r2 r3 r4; obtain ⟨B1, d1, hv1, _⟩ := Kd.R_reads r1; replace hv1 : v1 = .slice B1 k d1 := (by rw [hv1]; simp; omega); subst hv1; have K9g := Aside0.mk (blk_grown K9d.out r3 (by simp [Value.ownBlock])); have K11g := Aside0.mk (blk_grown K11d.out r3 (by simp [Value.ownBlock])); have HBg := Aside0.mk r2; have HRg := Aside0.mk r1; have HRng := Aside0.mk (HRnd.out.grown r3 (fun j hj => by simp [Value.ownBlock] at hj)); have HOW : Aside0 (∀ j, (Value.slice B1 k d1).ownBlock = some j → N ≤ j) := ⟨fun j hj => (by have e1 := own_from rfl r4 j hj; have e2 := HNN.out; have e3 : wl.drew.heap.size = wl.heap.size := rfl; omega)⟩; have g1 : w4.cell? ⟨g11, 1, none⟩ = some (.slice none 0 0) := (blk_cell K11g.out 1).trans rfl; have gf1 : w4.frozen? ⟨g11, 1, none⟩ = false := blk_frozen K11g.out 1; clear r1 r2 r3 r4))
        all_goals
          go_wp2_with fail
          go_meet
          exact ⟨B1, d1, ⟨HBg.out.setCell (p := ⟨g11, 1, none⟩) HG11.out _⟩, ⟨HRng.out.set K11g.out 1 _⟩, ⟨blk_far K9g.out n911 _⟩, ⟨blk_put K11g.out 1 _ rfl⟩, ⟨Kd.R_set HRg.out K11g.out (by decide) 1 _⟩, HOW⟩
      case rest =>
        clear HBl HRl HRn K9l K11l HNN
        obtain ⟨B1, d1, HBx, HRm, K9x, K11x, HRr, HOW⟩ := hcut
        have hkl : (k : Int) + 1 ≤ (a.ins.length : Int) := by omega
        have hkcN : a.ins.length ≤ c2 := (Kd.R_reads' HRm.out.r2).2.1
        have hkc : (a.ins.length : Int) ≤ (c2 : Int) := by omega
        have hk0 : (0 : Int) ≤ (k : Int) + 1 := by omega
        have hkcc : (k : Int) + 1 ≤ (c2 : Int) := by omega
        have hwr : IntKind.i64.wrap ((k : Int) + 1) = (k : Int) + 1 := IntWalk.i64_in _ (by omega)
        have htn : ((k : Int) + 1).toNat = k + 1 := by omega
        go_upto_region 11 with fail
        have HNO := Aside0.mk hkcN
        clear hkcN
        obtain ⟨Lx, hLx⟩ : ∃ Lx : List PSubFits.S27, Lx = (a.ins.take k ++ a.ins.drop (k + 1)) := ⟨_, rfl⟩
        have HLX := Aside0.mk hLx
        clear hLx
        go_cut [] (fun wx => ∃ (B2 : Option Addr) (d2 : Nat), Aside0 (Below w.heap.size w wx) ∧ Aside0 (ConN wx w.heap.size N a A1 c1 A2 c2 A3 c3) ∧ Aside0 (wx.heap[g9]? = some (.cells #[.slice A1 a.res.length c1, .slice A2 a.ins.length c2, .slice A3 a.outs.length c3] 40 (0, 0))) ∧ Aside0 (wx.heap[g11]? = some (.cells #[.slice A1 a.res.length c1, .slice B2 Lx.length d2, .slice A3 a.outs.length c3] 40 (0, 0))) ∧ Aside0 (PSubFits.k27.R 27 wx w.heap.size (fun _ => True) (.slice B2 Lx.length d2) Lx))
        case first =>
          have HRmd := Aside0.mk (HRm.out.below (below_drew1 (Below.refl _ _)))
          have HRrd := Aside0.mk (Kd.R_below HRr.out (below_drew1 (Below.refl _ _)))
          have K9d : Aside0 (wc.drew.heap[g9]? = some (.cells #[.slice A1 a.res.length c1, .slice A2 a.ins.length c2, .slice A3 a.outs.length c3] 40 (0, 0))) := ⟨K9x.out⟩
          have K11d : Aside0 (wc.drew.heap[g11]? = some (.cells #[.slice A1 a.res.length c1, .slice B1 k d1, .slice A3 a.outs.length c3] 40 (0, 0))) := ⟨K11x.out⟩
          have z0 : wc.drew.cell? ⟨g9, 0, none⟩ = some (.slice A1 a.res.length c1) := (blk_cell K9d.out 0).trans rfl
          have z1 : wc.drew.cell? ⟨g9, 1, none⟩ = some (.slice A2 a.ins.length c2) := (blk_cell K9d.out 1).trans rfl
          have z2 : wc.drew.cell? ⟨g9, 2, none⟩ = some (.slice A3 a.outs.length c3) := (blk_cell K9d.out 2).trans rfl
          have l0 : wc.drew.cell? ⟨g11, 0, none⟩ = some (.slice A1 a.res.length c1) := (blk_cell K11d.out 0).trans rfl
          have l1 : wc.drew.cell? ⟨g11, 1, none⟩ = some (.slice B1 k d1) := (blk_cell K11d.out 1).trans rfl
          have l2 : wc.drew.cell? ⟨g11, 2, none⟩ = some (.slice A3 a.outs.length c3) := (blk_cell K11d.out 2).trans rfl
          have lf0 : wc.drew.frozen? ⟨g11, 0, none⟩ = false := blk_frozen K11d.out 0
          have lf1 : wc.drew.frozen? ⟨g11, 1, none⟩ = false := blk_frozen K11d.out 1
          have lf2 : wc.drew.frozen? ⟨g11, 2, none⟩ = false := blk_frozen K11d.out 2
          have HLE : Aside0 (w.heap.size ≤ wc.drew.heap.size) := ⟨HBx.out.size⟩
          have HTK : Aside0 ((a.ins.take k).length = k) := ⟨by rw [List.length_take]; omega⟩
          go_region_law
            (first
              | (refine Kd.R_append_rows_step PSubFits.k27 (Rr := PSubFits.k27.M wc.drew w.heap.size (fun k => k < N)) (w0 := w) w.heap.size rfl (.tmp 44) (.tmp 49) 38 27 (.agg #[.string ⟨#[]⟩, .slice none 0 0, .slice none 0 0, .int .i64 0, .slice none 0 0, .slice none 0 0, .int .i64 0]) 128 rfl Try.underlying38 info27 rfl (by decide) (by decide) (.slice B1 k d1) (a.ins.take k) (a.ins.drop (k + 1)) (if c2 = k + 1 then A2 else A2.map (fun x => x.add ((k + 1) * 7))) (a.ins.length - (k + 1)) (c2 - (k + 1)) (fun _ => True) (fun k => k < N) rfl rfl HRrd.out (RR_drop (R_readsM HRmd.out.r2) (by omega) HNO.out) (fun _ _ h => h) (fun j hj => ⟨trivial, fun e => by have := HOW.out j e.symm; omega⟩) (fun _ _ => trivial) (below_drew1 HBx.out) HLE.out (by have := HTK.out; omega) ?_; intro v1 w4 r1 r2 r3 r4; rw [← HLX.out] at r1; obtain ⟨B2, d2, hv1, _⟩ := Kd.R_reads r1; subst hv1; have K9g := Aside0.mk (blk_grown K9d.out r3 (Kd.R_ne HRrd.out K9d.out (by decide))); have K11g := Aside0.mk (blk_grown K11d.out r3 (Kd.R_ne HRrd.out K11d.out (by decide))); have HBg := Aside0.mk r2; have HRg := Aside0.mk r1; have HRng := Aside0.mk (HRmd.out.grown r3 HOW.out); have g1 : w4.cell? ⟨g11, 1, none⟩ = some (.slice B1 k d1) := (blk_cell K11g.out 1).trans rfl; have gf1 : w4.frozen? ⟨g11, 1, none⟩ = false := blk_frozen K11g.out 1; clear r1 r2 r3 r4))
          all_goals
            go_wp2_with fail
            all_goals
              go_meet
              exact ⟨B2, d2, ⟨HBg.out.setCell (p := ⟨g11, 1, none⟩) HG11.out _⟩, ⟨HRng.out.set K11g.out 1 _⟩, ⟨blk_far K9g.out n911 _⟩, ⟨blk_put K11g.out 1 _ rfl⟩, ⟨Kd.R_set HRg.out K11g.out (by decide) 1 _⟩⟩
        case rest =>
          clear HBx HRm K9x K11x HRr HOW HNO hkl hkc hk0 hkcc hwr htn
          obtain ⟨B2, d2, HBy, HRy, K9y, K11y, HRz⟩ := hcut
          have HFA : Aside0 (fitsF ⟨a.res, Lx, a.outs⟩ a = 0) := ⟨by rw [HLX.out]; exact fits_ins_less GC.out⟩
          have HFB : Aside0 (fitsF a ⟨a.res, Lx, a.outs⟩ = 11) := ⟨by rw [HLX.out]; exact fits_ins_more GC.out hk⟩
          have HRa := Aside0.mk HRy.out.toR
          have HL : Aside0 (ConR wc w.heap.size ⟨a.res, Lx, a.outs⟩ A1 c1 B2 d2 A3 c3) := ⟨⟨HRa.out.r1, HRz.out, HRa.out.r3⟩⟩
          clear HRy HRz
          have z0 : wc.cell? ⟨g9, 0, none⟩ = some (.slice A1 a.res.length c1) := (blk_cell K9y.out 0).trans rfl
          have z1 : wc.cell? ⟨g9, 1, none⟩ = some (.slice A2 a.ins.length c2) := (blk_cell K9y.out 1).trans rfl
          have z2 : wc.cell? ⟨g9, 2, none⟩ = some (.slice A3 a.outs.length c3) := (blk_cell K9y.out 2).trans rfl
          have l0 : wc.cell? ⟨g11, 0, none⟩ = some (.slice A1 a.res.length c1) := (blk_cell K11y.out 0).trans rfl
          have l1 : wc.cell? ⟨g11, 1, none⟩ = some (.slice B2 Lx.length d2) := (blk_cell K11y.out 1).trans rfl
          have l2 : wc.cell? ⟨g11, 2, none⟩ = some (.slice A3 a.outs.length c3) := (blk_cell K11y.out 2).trans rfl
          go_wp2_with fail
          clear z0 z1 z2 l0 l1 l2
          refine (fits_calls ⟨a.res, Lx, a.outs⟩ a _ A1 c1 B2 d2 A3 c3 A1 c1 A2 c2 A3 c3 HL.out.toAt HRa.out.toAt HRZ.out HRZ.out).mono ?_
          rw [HFA.out]
          rintro e w5 ⟨rfl, hb5⟩
          have HB5 := Aside0.mk (below_step HBy.out hb5)
          have HRb := Aside0.mk (HRa.out.below hb5)
          have HLb := Aside0.mk (HL.out.below hb5)
          have K95 := Aside0.mk (blk_below K9y.out hb5)
          have K115 := Aside0.mk (blk_below K11y.out hb5)
          clear hb5 HBy HRa HL K9y K11y
          have z0 : w5.cell? ⟨g9, 0, none⟩ = some (.slice A1 a.res.length c1) := (blk_cell K95.out 0).trans rfl
          have z1 : w5.cell? ⟨g9, 1, none⟩ = some (.slice A2 a.ins.length c2) := (blk_cell K95.out 1).trans rfl
          have z2 : w5.cell? ⟨g9, 2, none⟩ = some (.slice A3 a.outs.length c3) := (blk_cell K95.out 2).trans rfl
          have l0 : w5.cell? ⟨g11, 0, none⟩ = some (.slice A1 a.res.length c1) := (blk_cell K115.out 0).trans rfl
          have l1 : w5.cell? ⟨g11, 1, none⟩ = some (.slice B2 Lx.length d2) := (blk_cell K115.out 1).trans rfl
          have l2 : w5.cell? ⟨g11, 2, none⟩ = some (.slice A3 a.outs.length c3) := (blk_cell K115.out 2).trans rfl
          go_wp2_with fail
          clear z0 z1 z2 l0 l1 l2
          refine (fits_calls a ⟨a.res, Lx, a.outs⟩ _ A1 c1 A2 c2 A3 c3 A1 c1 B2 d2 A3 c3 HRb.out.toAt HLb.out.toAt HRZ.out HRZ.out).mono ?_
          rw [HFB.out]
          rintro e w6 ⟨rfl, hb6⟩
          have HB6 := Aside0.mk (below_step HB5.out hb6)
          clear hb6
          go_wp2_with fail
          refine (awake_calls _).mono ?_
          rintro e w7 ⟨rfl, hb7⟩
          have HB7 := Aside0.mk (below_step HB6.out hb7)
          clear hb7
          go_wp2_with fail
          go_ret
          exact ⟨rfl, HB7.out⟩
    · have e1 : decide ((k : Int) < (a.ins.length : Int)) = false := decide_eq_false (by omega)
      have e1n : decide (k < a.ins.length) = false := decide_eq_false hk
      have hw : IntKind.i64.wrap ((k : Int) - (a.ins.length : Int)) = ((k - a.ins.length : Nat) : Int) := by rw [IntWalk.i64_in _ (by omega)]; omega
      have hk2 : k - a.ins.length ≤ 255 := by omega
      generalize hq : k - a.ins.length = q at *
      clear hq hk
      by_cases hk : q < a.outs.length
      · have e2 : decide ((a.outs.length : Int) ≤ (q : Int)) = false := decide_eq_false (by omega)
        have e2n : decide (a.outs.length ≤ q) = false := decide_eq_false (by omega)
        go_upto_region 16 with fail
        clear e1 e2 e1n e2n hw hb0
        have l0 : (w2.alloc (.cells #[.slice A1 a.res.length c1, .slice A2 a.ins.length c2, .slice A3 a.outs.length c3] 40)).cell? ⟨w2.heap.size, 0, none⟩ = some (.slice A1 a.res.length c1) := (blk_cell K11a.out 0).trans rfl
        have l1 : (w2.alloc (.cells #[.slice A1 a.res.length c1, .slice A2 a.ins.length c2, .slice A3 a.outs.length c3] 40)).cell? ⟨w2.heap.size, 1, none⟩ = some (.slice A2 a.ins.length c2) := (blk_cell K11a.out 1).trans rfl
        have l2 : (w2.alloc (.cells #[.slice A1 a.res.length c1, .slice A2 a.ins.length c2, .slice A3 a.outs.length c3] 40)).cell? ⟨w2.heap.size, 2, none⟩ = some (.slice A3 a.outs.length c3) := (blk_cell K11a.out 2).trans rfl
        have lf0 : (w2.alloc (.cells #[.slice A1 a.res.length c1, .slice A2 a.ins.length c2, .slice A3 a.outs.length c3] 40)).frozen? ⟨w2.heap.size, 0, none⟩ = false := blk_frozen K11a.out 0
        have lf1 : (w2.alloc (.cells #[.slice A1 a.res.length c1, .slice A2 a.ins.length c2, .slice A3 a.outs.length c3] 40)).frozen? ⟨w2.heap.size, 1, none⟩ = false := blk_frozen K11a.out 1
        have lf2 : (w2.alloc (.cells #[.slice A1 a.res.length c1, .slice A2 a.ins.length c2, .slice A3 a.outs.length c3] 40)).frozen? ⟨w2.heap.size, 2, none⟩ = false := blk_frozen K11a.out 2
        go_upto_region 17 with fail
        clear l0 l1 l2 lf0 lf1 lf2 z0 z1 z2 zz0 zz1 zz2
        obtain ⟨wl, hwl⟩ : ∃ wl : World, wl = w2.alloc (.cells #[.slice A1 a.res.length c1, .slice A2 a.ins.length c2, .slice none 0 0] 40) := ⟨_, rfl⟩
        have HBl : Aside0 (Below w.heap.size w wl) := ⟨by rw [hwl]; exact below_alloc HB2.out _⟩
        have HRl : Aside0 (ConR wl w.heap.size a A1 c1 A2 c2 A3 c3) := ⟨by rw [hwl]; exact HR2.out.below (below_alloc (Below.refl _ _) _)⟩
        have K9l : Aside0 (wl.heap[g9]? = some (.cells #[.slice A1 a.res.length c1, .slice A2 a.ins.length c2, .slice A3 a.outs.length c3] 40 (0, 0))) := ⟨by rw [hwl]; exact blk_alloc K92.out _⟩
        have K11l : Aside0 (wl.heap[w2.heap.size]? = some (.cells #[.slice A1 a.res.length c1, .slice A2 a.ins.length c2, .slice none 0 0] 40 (0, 0))) := ⟨by rw [hwl]; exact blk_new w2 _⟩
        have hN : w2.heap.size < wl.heap.size := blk_lt K11l.out
        rw [← hwl]
        clear hwl HB11 HR11 K911 K11a HB2 HR2 K92
        generalize w2.heap.size = g11 at *
        have HN := Aside0.mk hN
        clear hN
        have HRn : Aside0 (ConN wl w.heap.size wl.heap.size a A1 c1 A2 c2 A3 c3) := ⟨.of HRl.out⟩
        obtain ⟨N, hNN⟩ : ∃ N : Nat, N = wl.heap.size := ⟨_, rfl⟩
        rw [← hNN] at HRn HN
        have HNN := Aside0.mk hNN
        clear hNN
        go_cut [] (fun wx => ∃ (B1 : Option Addr) (d1 : Nat), Aside0 (Below w.heap.size w wx) ∧ Aside0 (ConN wx w.heap.size N a A1 c1 A2 c2 A3 c3) ∧ Aside0 (wx.heap[g9]? = some (.cells #[.slice A1 a.res.length c1, .slice A2 a.ins.length c2, .slice A3 a.outs.length c3] 40 (0, 0))) ∧ Aside0 (wx.heap[g11]? = some (.cells #[.slice A1 a.res.length c1, .slice A2 a.ins.length c2, .slice B1 q d1] 40 (0, 0))) ∧ Aside0 (PSubFits.k27.R 27 wx w.heap.size (fun _ => True) (.slice B1 q d1) (a.outs.take q)) ∧ Aside0 (∀ j, (Value.slice B1 q d1).ownBlock = some j → N ≤ j))
        case first =>
          have HRnd := Aside0.mk (HRn.out.below (below_drew1 (Below.refl _ _)))
          have K9d : Aside0 (wl.drew.heap[g9]? = some (.cells #[.slice A1 a.res.length c1, .slice A2 a.ins.length c2, .slice A3 a.outs.length c3] 40 (0, 0))) := ⟨K9l.out⟩
          have K11d : Aside0 (wl.drew.heap[g11]? = some (.cells #[.slice A1 a.res.length c1, .slice A2 a.ins.length c2, .slice none 0 0] 40 (0, 0))) := ⟨K11l.out⟩
          have z0 : wl.drew.cell? ⟨g9, 0, none⟩ = some (.slice A1 a.res.length c1) := (blk_cell K9d.out 0).trans rfl
          have z1 : wl.drew.cell? ⟨g9, 1, none⟩ = some (.slice A2 a.ins.length c2) := (blk_cell K9d.out 1).trans rfl
          have z2 : wl.drew.cell? ⟨g9, 2, none⟩ = some (.slice A3 a.outs.length c3) := (blk_cell K9d.out 2).trans rfl
          have l0 : wl.drew.cell? ⟨g11, 0, none⟩ = some (.slice A1 a.res.length c1) := (blk_cell K11d.out 0).trans rfl
          have l1 : wl.drew.cell? ⟨g11, 1, none⟩ = some (.slice A2 a.ins.length c2) := (blk_cell K11d.out 1).trans rfl
          have l2 : wl.drew.cell? ⟨g11, 2, none⟩ = some (.slice none 0 0) := (blk_cell K11d.out 2).trans rfl
          have lf0 : wl.drew.frozen? ⟨g11, 0, none⟩ = false := blk_frozen K11d.out 0
          have lf1 : wl.drew.frozen? ⟨g11, 1, none⟩ = false := blk_frozen K11d.out 1
          have lf2 : wl.drew.frozen? ⟨g11, 2, none⟩ = false := blk_frozen K11d.out 2
          have HLE : Aside0 (w.heap.size ≤ wl.drew.heap.size) := ⟨HBl.out.size⟩
          have hkl : (q : Int) ≤ (a.outs.length : Int) := by omega
          have hkc : (a.outs.length : Int) ≤ (c3 : Int) := by have := (Kd.R_reads' HRl.out.r3).2.1; omega
          have hk0 : (0 : Int) ≤ (q : Int) := by omega
          have hkcc : (q : Int) ≤ (c3 : Int) := by omega
          go_region_law
            (first
              | (refine Kd.R_append_rows_step PSubFits.k27 (Rr := PSubFits.k27.M wl.drew w.heap.size (fun q => q < N)) (w0 := w) w.heap.size rfl (.tmp 78) (.tmp 82) 38 27 (.agg #[.string ⟨#[]⟩, .slice none 0 0, .slice none 0 0, .int .i64 0, .slice none 0 0, .slice none 0 0, .int .i64 0]) 128 rfl Try.underlying38 info27 rfl (by decide) (by decide) (.slice none 0 0) [] (a.outs.take q) A3 q c3 (fun _ => True) (fun q => q < N) rfl rfl (Kd.R_nil _ _ _ _ _) (RR_take (R_readsM HRnd.out.r3) (by omega)) (fun _ _ h => h) (fun j hj => ⟨trivial, by simp [Value.ownBlock]⟩) (fun _ _ => trivial) (below_drew1 HBl.out) HLE.out (by simp; omega) ?_; intro v1 w4 r1 r2 r3 r4; obtain ⟨B1, d1, hv1, _⟩ := Kd.R_reads r1; replace hv1 : v1 = .slice B1 q d1 := (by rw [hv1]; simp; omega); subst hv1; have K9g := Aside0.mk (blk_grown K9d.out r3 (by simp [Value.ownBlock])); have K11g := Aside0.mk (blk_grown K11d.out r3 (by simp [Value.ownBlock])); have HBg := Aside0.mk r2; have HRg := Aside0.mk r1; have HRng := Aside0.mk (HRnd.out.grown r3 (fun j hj => by simp [Value.ownBlock] at hj)); have HOW : Aside0 (∀ j, (Value.slice B1 q d1).ownBlock = some j → N ≤ j) := ⟨fun j hj => (by have e1 := own_from rfl r4 j hj; have e2 := HNN.out; have e3 : wl.drew.heap.size = wl.heap.size := rfl; omega)⟩; have g1 : w4.cell? ⟨g11, 2, none⟩ = some (.slice none 0 0) := (blk_cell K11g.out 2).trans rfl; have gf1 : w4.frozen? ⟨g11, 2, none⟩ = false := blk_frozen K11g.out 2; clear r1 r2 r3 r4))
          all_goals
            go_wp2_with fail
            go_meet
            exact ⟨B1, d1, ⟨HBg.out.setCell (p := ⟨g11, 2, none⟩) HG11.out _⟩, ⟨HRng.out.set K11g.out 2 _⟩, ⟨blk_far K9g.out n911 _⟩, ⟨blk_put K11g.out 2 _ rfl⟩, ⟨Kd.R_set HRg.out K11g.out (by decide) 2 _⟩, HOW⟩
        case rest =>
          clear HBl HRl HRn K9l K11l HNN
          obtain ⟨B1, d1, HBx, HRm, K9x, K11x, HRr, HOW⟩ := hcut
          have hkl : (q : Int) + 1 ≤ (a.outs.length : Int) := by omega
          have hkcN : a.outs.length ≤ c3 := (Kd.R_reads' HRm.out.r3).2.1
          have hkc : (a.outs.length : Int) ≤ (c3 : Int) := by omega
          have hk0 : (0 : Int) ≤ (q : Int) + 1 := by omega
          have hkcc : (q : Int) + 1 ≤ (c3 : Int) := by omega
          have hwr : IntKind.i64.wrap ((q : Int) + 1) = (q : Int) + 1 := IntWalk.i64_in _ (by omega)
          have htn : ((q : Int) + 1).toNat = q + 1 := by omega
          go_upto_region 18 with fail
          have HNO := Aside0.mk hkcN
          clear hkcN
          obtain ⟨Lx, hLx⟩ : ∃ Lx : List PSubFits.S27, Lx = (a.outs.take q ++ a.outs.drop (q + 1)) := ⟨_, rfl⟩
          have HLX := Aside0.mk hLx
          clear hLx
          go_cut [] (fun wx => ∃ (B2 : Option Addr) (d2 : Nat), Aside0 (Below w.heap.size w wx) ∧ Aside0 (ConN wx w.heap.size N a A1 c1 A2 c2 A3 c3) ∧ Aside0 (wx.heap[g9]? = some (.cells #[.slice A1 a.res.length c1, .slice A2 a.ins.length c2, .slice A3 a.outs.length c3] 40 (0, 0))) ∧ Aside0 (wx.heap[g11]? = some (.cells #[.slice A1 a.res.length c1, .slice A2 a.ins.length c2, .slice B2 Lx.length d2] 40 (0, 0))) ∧ Aside0 (PSubFits.k27.R 27 wx w.heap.size (fun _ => True) (.slice B2 Lx.length d2) Lx))
          case first =>
            have HRmd := Aside0.mk (HRm.out.below (below_drew1 (Below.refl _ _)))
            have HRrd := Aside0.mk (Kd.R_below HRr.out (below_drew1 (Below.refl _ _)))
            have K9d : Aside0 (wc.drew.heap[g9]? = some (.cells #[.slice A1 a.res.length c1, .slice A2 a.ins.length c2, .slice A3 a.outs.length c3] 40 (0, 0))) := ⟨K9x.out⟩
            have K11d : Aside0 (wc.drew.heap[g11]? = some (.cells #[.slice A1 a.res.length c1, .slice A2 a.ins.length c2, .slice B1 q d1] 40 (0, 0))) := ⟨K11x.out⟩
            have z0 : wc.drew.cell? ⟨g9, 0, none⟩ = some (.slice A1 a.res.length c1) := (blk_cell K9d.out 0).trans rfl
            have z1 : wc.drew.cell? ⟨g9, 1, none⟩ = some (.slice A2 a.ins.length c2) := (blk_cell K9d.out 1).trans rfl
            have z2 : wc.drew.cell? ⟨g9, 2, none⟩ = some (.slice A3 a.outs.length c3) := (blk_cell K9d.out 2).trans rfl
            have l0 : wc.drew.cell? ⟨g11, 0, none⟩ = some (.slice A1 a.res.length c1) := (blk_cell K11d.out 0).trans rfl
            have l1 : wc.drew.cell? ⟨g11, 1, none⟩ = some (.slice A2 a.ins.length c2) := (blk_cell K11d.out 1).trans rfl
            have l2 : wc.drew.cell? ⟨g11, 2, none⟩ = some (.slice B1 q d1) := (blk_cell K11d.out 2).trans rfl
            have lf0 : wc.drew.frozen? ⟨g11, 0, none⟩ = false := blk_frozen K11d.out 0
            have lf1 : wc.drew.frozen? ⟨g11, 1, none⟩ = false := blk_frozen K11d.out 1
            have lf2 : wc.drew.frozen? ⟨g11, 2, none⟩ = false := blk_frozen K11d.out 2
            have HLE : Aside0 (w.heap.size ≤ wc.drew.heap.size) := ⟨HBx.out.size⟩
            have HTK : Aside0 ((a.outs.take q).length = q) := ⟨by rw [List.length_take]; omega⟩
            go_region_law
              (first
                | (refine Kd.R_append_rows_step PSubFits.k27 (Rr := PSubFits.k27.M wc.drew w.heap.size (fun q => q < N)) (w0 := w) w.heap.size rfl (.tmp 86) (.tmp 91) 38 27 (.agg #[.string ⟨#[]⟩, .slice none 0 0, .slice none 0 0, .int .i64 0, .slice none 0 0, .slice none 0 0, .int .i64 0]) 128 rfl Try.underlying38 info27 rfl (by decide) (by decide) (.slice B1 q d1) (a.outs.take q) (a.outs.drop (q + 1)) (if c3 = q + 1 then A3 else A3.map (fun x => x.add ((q + 1) * 7))) (a.outs.length - (q + 1)) (c3 - (q + 1)) (fun _ => True) (fun q => q < N) rfl rfl HRrd.out (RR_drop (R_readsM HRmd.out.r3) (by omega) HNO.out) (fun _ _ h => h) (fun j hj => ⟨trivial, fun e => by have := HOW.out j e.symm; omega⟩) (fun _ _ => trivial) (below_drew1 HBx.out) HLE.out (by have := HTK.out; omega) ?_; intro v1 w4 r1 r2 r3 r4; rw [← HLX.out] at r1; obtain ⟨B2, d2, hv1, _⟩ := Kd.R_reads r1; subst hv1; have K9g := Aside0.mk (blk_grown K9d.out r3 (Kd.R_ne HRrd.out K9d.out (by decide))); have K11g := Aside0.mk (blk_grown K11d.out r3 (Kd.R_ne HRrd.out K11d.out (by decide))); have HBg := Aside0.mk r2; have HRg := Aside0.mk r1; have HRng := Aside0.mk (HRmd.out.grown r3 HOW.out); have g1 : w4.cell? ⟨g11, 2, none⟩ = some (.slice B1 q d1) := (blk_cell K11g.out 2).trans rfl; have gf1 : w4.frozen? ⟨g11, 2, none⟩ = false := blk_frozen K11g.out 2; clear r1 r2 r3 r4))
            all_goals
              go_wp2_with fail
              all_goals
                go_meet
                exact ⟨B2, d2, ⟨HBg.out.setCell (p := ⟨g11, 2, none⟩) HG11.out _⟩, ⟨HRng.out.set K11g.out 2 _⟩, ⟨blk_far K9g.out n911 _⟩, ⟨blk_put K11g.out 2 _ rfl⟩, ⟨Kd.R_set HRg.out K11g.out (by decide) 2 _⟩⟩
          case rest =>
            clear HBx HRm K9x K11x HRr HOW HNO hkl hkc hk0 hkcc hwr htn
            obtain ⟨B2, d2, HBy, HRy, K9y, K11y, HRz⟩ := hcut
            have HFA : Aside0 (fitsF a ⟨a.res, a.ins, Lx⟩ = 0) := ⟨by rw [HLX.out]; exact fits_outs_less GC.out⟩
            have HFB : Aside0 (fitsF ⟨a.res, a.ins, Lx⟩ a = 11) := ⟨by rw [HLX.out]; exact fits_outs_more GC.out hk⟩
            have HRa := Aside0.mk HRy.out.toR
            have HL : Aside0 (ConR wc w.heap.size ⟨a.res, a.ins, Lx⟩ A1 c1 A2 c2 B2 d2) := ⟨⟨HRa.out.r1, HRa.out.r2, HRz.out⟩⟩
            clear HRy HRz
            have z0 : wc.cell? ⟨g9, 0, none⟩ = some (.slice A1 a.res.length c1) := (blk_cell K9y.out 0).trans rfl
            have z1 : wc.cell? ⟨g9, 1, none⟩ = some (.slice A2 a.ins.length c2) := (blk_cell K9y.out 1).trans rfl
            have z2 : wc.cell? ⟨g9, 2, none⟩ = some (.slice A3 a.outs.length c3) := (blk_cell K9y.out 2).trans rfl
            have l0 : wc.cell? ⟨g11, 0, none⟩ = some (.slice A1 a.res.length c1) := (blk_cell K11y.out 0).trans rfl
            have l1 : wc.cell? ⟨g11, 1, none⟩ = some (.slice A2 a.ins.length c2) := (blk_cell K11y.out 1).trans rfl
            have l2 : wc.cell? ⟨g11, 2, none⟩ = some (.slice B2 Lx.length d2) := (blk_cell K11y.out 2).trans rfl
            go_wp2_with fail
            clear z0 z1 z2 l0 l1 l2
            refine (fits_calls a ⟨a.res, a.ins, Lx⟩ _ A1 c1 A2 c2 A3 c3 A1 c1 A2 c2 B2 d2 HRa.out.toAt HL.out.toAt HRZ.out HRZ.out).mono ?_
            rw [HFA.out]
            rintro e w5 ⟨rfl, hb5⟩
            have HB5 := Aside0.mk (below_step HBy.out hb5)
            have HRb := Aside0.mk (HRa.out.below hb5)
            have HLb := Aside0.mk (HL.out.below hb5)
            have K95 := Aside0.mk (blk_below K9y.out hb5)
            have K115 := Aside0.mk (blk_below K11y.out hb5)
            clear hb5 HBy HRa HL K9y K11y
            have z0 : w5.cell? ⟨g9, 0, none⟩ = some (.slice A1 a.res.length c1) := (blk_cell K95.out 0).trans rfl
            have z1 : w5.cell? ⟨g9, 1, none⟩ = some (.slice A2 a.ins.length c2) := (blk_cell K95.out 1).trans rfl
            have z2 : w5.cell? ⟨g9, 2, none⟩ = some (.slice A3 a.outs.length c3) := (blk_cell K95.out 2).trans rfl
            have l0 : w5.cell? ⟨g11, 0, none⟩ = some (.slice A1 a.res.length c1) := (blk_cell K115.out 0).trans rfl
            have l1 : w5.cell? ⟨g11, 1, none⟩ = some (.slice A2 a.ins.length c2) := (blk_cell K115.out 1).trans rfl
            have l2 : w5.cell? ⟨g11, 2, none⟩ = some (.slice B2 Lx.length d2) := (blk_cell K115.out 2).trans rfl
            go_wp2_with fail
            clear z0 z1 z2 l0 l1 l2
            refine (fits_calls ⟨a.res, a.ins, Lx⟩ a _ A1 c1 A2 c2 B2 d2 A1 c1 A2 c2 A3 c3 HLb.out.toAt HRb.out.toAt HRZ.out HRZ.out).mono ?_
            rw [HFB.out]
            rintro e w6 ⟨rfl, hb6⟩
            have HB6 := Aside0.mk (below_step HB5.out hb6)
            clear hb6
            go_wp2_with fail
            refine (awake_calls _).mono ?_
            rintro e w7 ⟨rfl, hb7⟩
            have HB7 := Aside0.mk (below_step HB6.out hb7)
            clear hb7
            go_wp2_with fail
            go_ret
            exact ⟨rfl, HB7.out⟩
      · have e2 : decide ((a.outs.length : Int) ≤ (q : Int)) = true := decide_eq_true (by omega)
        have e2n : decide (a.outs.length ≤ q) = true := decide_eq_true (by omega)
        go_wp2_with fail
        refine (awake_calls _).mono ?_
        rintro e w7 ⟨rfl, hb7⟩
        have HB7 := Aside0.mk (below_step HB11.out hb7)
        clear hb7
        go_wp2_with fail
        go_ret
        exact ⟨rfl, HB7.out⟩
end Go.Proofs.Ytmpmcffhlnlejaa.Slf
end
section
namespace Go.Proofs.Ytmpmcffhlnlejaa.SubEq
open Go.RowKit Go.Proofs.YtmpmcffhlnlejaaW.PrintWords Go.Proofs.YtmpmcffhlnlejaaW.PrintLast Go.Proofs.YtmpmcffhlnlejaaW.PrintMore
open Go.Proofs.Ytmpmcffhlnlejaa.PSubFits
open Go.ChangeShapes Go.WideShapes
set_option linter.unusedVariables false
set_option linter.unusedSimpArgs false
set_option maxRecDepth 100000
theorem cells3 : Try.prog.cellsOf 3 = 1 := by kernel_rfl
theorem cells9 : Try.prog.cellsOf 9 = 1 := by kernel_rfl
theorem cells25 : Try.prog.cellsOf 25 = 4 := by kernel_rfl
section
variable {H : Type} {enc : TypeId × Value → H} {w : World} {base : Nat} {spare : Nat → Bool} {held : Bool}
theorem choose_list {α : Type} {p : Nat → α → Prop} : ∀ (n : Nat), (∀ i, i < n → ∃ x, p i x) → ∃ xs : List α, xs.length = n ∧ ∀ j x, xs[j]? = some x → p j x
  | 0, _ => ⟨[], rfl, fun j x h => by simp at h⟩
  | n + 1, h => by
    obtain ⟨xs, hl, hx⟩ := choose_list n (fun i hi => h i (by omega))
    obtain ⟨y, hy⟩ := h n (by omega)
    refine ⟨xs ++ [y], by simp [hl], fun j x hj => ?_⟩
    rcases Nat.lt_or_ge j xs.length with hlt | hge
    · rw [List.getElem?_append_left hlt] at hj
      exact hx j x hj
    · have hj' : j = xs.length := by
        have := (List.getElem?_eq_some_iff.1 hj).1
        simp at this
        omega
      subst hj'
      have e : y = x := by simpa using hj
      rw [← e, hl]
      exact hy
/-- A slice, opened by what its elements open to. -/
theorem open_C {α : Type} {d : Kd α} {t e : TypeId} {fuel : Nat} {cs : List Value} {x : DataW H × List MemPlace} (ht : Try.prog.underlying t = some (.slice e)) (hsz : Try.prog.cellsOf e = d.sz)
    (hel : ∀ n, n < fuel → ∀ (cs : List Value) (y : DataW H × List MemPlace), DataW.trod enc Try.prog w base spare held n e cs = some y → ∃ v : α, d.K w v cs)
    (h : DataW.trod enc Try.prog w base spare held fuel t cs = some x) : ∃ (A : Option Addr) (xs : List α) (c : Nat), cs = [.slice A xs.length c] ∧ xs.length ≤ c ∧ d.C w A xs.length xs := by
  rcases DataW.trod_slice ht h with ⟨rfl, _⟩ | ⟨a, len, cap, elems, rest, n, rfl, rfl, _, _, hlc, hcm, hle, hall, _, _⟩
  · exact ⟨none, [], 0, rfl, Nat.le_refl _, ⟨rfl, by simp, fun h => absurd h (by simp)⟩⟩
  · have hone : ∀ i, i < len → ∃ v : α, ∃ c : List Value, c.length = d.sz ∧ d.K w v c ∧ ∀ j u, c[j]? = some u → w.cell? (a.add (i * d.sz + j)) = some u := by
      intro i hi
      have h1 := hall i hi
      rw [List.getElem?_eq_getElem (by omega)] at h1
      obtain ⟨c, hc, hc2⟩ := Option.bind_eq_some_iff.1 h1
      obtain ⟨v, hv⟩ := hel n (by omega) c _ hc2
      obtain ⟨_, hl, hcell⟩ := World.cells?_some hc
      rw [hsz] at hl hcell
      refine ⟨v, c, hl, hv, fun j u hu => ?_⟩
      have hj : j < d.sz := by
        have := (List.getElem?_eq_some_iff.1 hu).1
        omega
      have := hcell j hj
      rw [add_add] at this
      exact this.trans hu
    obtain ⟨xs, hl, hx⟩ := choose_list len hone
    subst hl
    refine ⟨some a, xs, cap, rfl, hlc, rfl, by simp only [maxLen] at hcm; omega, fun _ => ⟨a, rfl, fun j p hj => ?_⟩⟩
    exact hx j p hj
where
  add_add (a : Addr) (i j : Nat) : (a.add i).add j = a.add (i + j) := by
    unfold Addr.add
    by_cases hi : i = 0 <;> by_cases hj : j = 0 <;> simp [hi, hj, Nat.add_assoc]
theorem open_str {n : Nat} {cs : List Value} {y : DataW H × List MemPlace} (h : DataW.trod enc Try.prog w base spare held n 9 cs = some y) : ∃ v : ByteArray, Kd.string.K w v cs := by
  obtain ⟨s, rfl, _, _⟩ := DataW.trod_string Try.underlying9 h
  exact ⟨s, rfl⟩
end
end Go.Proofs.Ytmpmcffhlnlejaa.SubEq
end
section
namespace Go.Proofs.Ytmpmcffhlnlejaa.SubEq
open Go.RowKit Go.Proofs.YtmpmcffhlnlejaaW.PrintWords Go.Proofs.YtmpmcffhlnlejaaW.PrintLast Go.Proofs.YtmpmcffhlnlejaaW.PrintMore
open Go.Proofs.Ytmpmcffhlnlejaa.PSubFits
open Go.ChangeShapes Go.WideShapes
set_option linter.unusedVariables false
set_option linter.unusedSimpArgs false
set_option maxRecDepth 100000
section
variable {H : Type} {enc : TypeId × Value → H} {w : World} {base : Nat} {spare : Nat → Bool} {held : Bool}
/-- All that is within is within the reach. -/
def Within (t : TypeId) (d : DataW H) : Prop := ∀ n ∈ d.weights Try.prog t, n ≤ 140737488351232
theorem weights_all_mem {e : TypeId} : ∀ {l : List (DataW H)} {d : DataW H}, d ∈ l → ∀ n ∈ d.weights Try.prog e, n ∈ DataW.weightsAll Try.prog e l
  | a :: l, d, h, n, hn => by
    simp only [DataW.weightsAll, List.mem_append]
    rcases List.mem_cons.1 h with rfl | h
    · exact .inl hn
    · exact .inr (weights_all_mem h n hn)
theorem within_elem {t e : TypeId} (ht : Try.prog.underlying t = some (.slice e)) {elems spare' : List (DataW H)} (h : Within t (.slice elems spare')) : (∀ d ∈ elems, Within e d) ∧ elems.length * Try.prog.bytesOf e ≤ 140737488351232 := by
  unfold Within at h
  simp only [DataW.weights, ht] at h
  refine ⟨fun d hd n hn => h n ?_, ?_⟩
  · simp only [List.mem_cons, List.mem_append]
    exact .inr (.inl (weights_all_mem hd n hn))
  · have h1 := h ((elems.length + spare'.length) * Try.prog.bytesOf e) List.mem_cons_self
    exact Nat.le_trans (Nat.mul_le_mul_right _ (Nat.le_add_right _ _)) h1
theorem within_field {t : TypeId} {fs : Array Field} (ht : Try.prog.underlying t = some (.struct fs)) {parts : List (DataW H)} (h : Within t (.agg parts)) {i : Nat} {f : Field} {d : DataW H} (hf : fs[i]? = some f) (hd : parts[i]? = some d) : Within f.type d := by
  intro n hn
  refine h n ?_
  simp only [DataW.weights, ht]
  refine DataW.weights_mem_each (j := i) (t := f.type) (d := d) ?_ hd n hn
  simp [hf]
theorem open_CW {α : Type} {d : Kd α} {p : α → Prop} {t e : TypeId} {fuel : Nat} {cs : List Value} {x : DataW H × List MemPlace} (ht : Try.prog.underlying t = some (.slice e)) (hsz : Try.prog.cellsOf e = d.sz)
    (hel : ∀ n, n < fuel → ∀ (cs : List Value) (y : DataW H × List MemPlace), DataW.trod enc Try.prog w base spare held n e cs = some y → Within e y.1 → ∃ v : α, d.K w v cs ∧ p v)
    (h : DataW.trod enc Try.prog w base spare held fuel t cs = some x) (hw : Within t x.1) :
    ∃ (A : Option Addr) (xs : List α) (c : Nat), cs = [.slice A xs.length c] ∧ xs.length ≤ c ∧ d.C w A xs.length xs ∧ (∀ v ∈ xs, p v) ∧ xs.length * Try.prog.bytesOf e ≤ 140737488351232 := by
  rcases DataW.trod_slice ht h with ⟨rfl, _⟩ | ⟨a, len, cap, elems, rest, n, rfl, rfl, rfl, _, hlc, hcm, hle, hall, _, _⟩
  · exact ⟨none, [], 0, rfl, Nat.le_refl _, ⟨rfl, by simp, fun h => absurd h (by simp)⟩, fun v hv => by simp at hv, by simp⟩
  · obtain ⟨hwe, hwl⟩ := within_elem ht hw
    have hone : ∀ i, i < len → ∃ v : α, p v ∧ ∃ c : List Value, c.length = d.sz ∧ d.K w v c ∧ ∀ j u, c[j]? = some u → w.cell? (a.add (i * d.sz + j)) = some u := by
      intro i hi
      have h1 := hall i hi
      rw [List.getElem?_eq_getElem (by omega)] at h1
      obtain ⟨c, hc, hc2⟩ := Option.bind_eq_some_iff.1 h1
      obtain ⟨v, hv, hp⟩ := hel n (by omega) c _ hc2 (hwe _ (List.mem_map_of_mem (List.getElem_mem _)))
      obtain ⟨_, hl, hcell⟩ := World.cells?_some hc
      rw [hsz] at hl hcell
      refine ⟨v, hp, c, hl, hv, fun j u hu => ?_⟩
      have hj : j < d.sz := by
        have := (List.getElem?_eq_some_iff.1 hu).1
        omega
      have := hcell j hj
      rw [open_C.add_add] at this
      exact this.trans hu
    obtain ⟨xs, hl, hx⟩ := choose_list len hone
    subst hl
    refine ⟨some a, xs, cap, rfl, hlc, ⟨rfl, by simp only [maxLen] at hcm; omega, fun _ => ⟨a, rfl, fun j q hj => (hx j q hj).2⟩⟩, fun v hv => ?_, ?_⟩
    · obtain ⟨i, hi, rfl⟩ := List.mem_iff_getElem.1 hv
      exact (hx i _ (List.getElem?_eq_getElem hi)).1
    · have e : (elems.map (·.1)).length = xs.length := by simp [hle]
      rw [e] at hwl
      exact hwl
theorem open_strW {n : Nat} {cs : List Value} {y : DataW H × List MemPlace} (h : DataW.trod enc Try.prog w base spare held n 9 cs = some y) (hw : Within 9 y.1) : ∃ v : ByteArray, Kd.string.K w v cs ∧ v.size ≤ 140737488351232 := by
  obtain ⟨s, rfl, hy, _⟩ := DataW.trod_string Try.underlying9 h
  refine ⟨s, rfl, ?_⟩
  rw [hy] at hw
  have h2 : s.data.toList.length ≤ 140737488351232 := hw s.data.toList.length (by simp only [DataW.weights]; exact List.mem_singleton_self _)
  rw [Array.length_toList] at h2
  exact h2
theorem bytes9 : Try.prog.bytesOf 9 = 16 := by kernel_rfl
theorem within_of {ts : List TypeId} {ds : List (DataW H)} (h : (DataW.weightsEach Try.prog ts ds).all (· ≤ reachBytes) = true) {j : Nat} {t : TypeId} {d : DataW H} (ht : ts[j]? = some t) (hd : ds[j]? = some d) : Within t d := by
  intro n hn
  exact of_decide_eq_true (List.all_eq_true.1 h n (DataW.weights_mem_each ht hd n hn))
end
end Go.Proofs.Ytmpmcffhlnlejaa.SubEq
end
