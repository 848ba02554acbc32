/- A part of the proof of the law that its last file names: texts of this seat's author and of the kit's printer, cut to what the theorem uses. Part 13: Mk12s, SubEq, PSubFitsx2, PSubFitsx3, SubRef, SubSig. -/
import Derived.Test.YtmpmcffhlnlejaaCt12
section
namespace Go.Proofs.Ytmpmcffhlnlejaa.Mkr
open Go.RowKit Go.Proofs.YtmpmcffhlnlejaaW.PrintWords Go.Proofs.YtmpmcffhlnlejaaW.PrintLast Go.Proofs.YtmpmcffhlnlejaaW.PrintMore
open Go.Proofs.Ytmpmcffhlnlejaa.PSubSelf Go.Proofs.Ytmpmcffhlnlejaa.Wld
set_option linter.unusedVariables false
set_option linter.unusedSimpArgs false
theorem info27 : (Try.prog.info? 27).map (fun i => (i.zero, i.size, i.bytes)) = some (some (.agg #[.string ⟨#[]⟩, .slice none 0 0, .slice none 0 0, .int .i64 0, .slice none 0 0, .slice none 0 0, .int .i64 0]), 7, 128) := by kernel_rfl
/-- Functions under way. -/
structure PS (h : Hd) (p : Nat) (vi vo : Value) (w : World) (v : Value) (E : Int) (res : List ByteArray) (n : Nat)
    (wx : World) (v1 : Value) (E1 : Int) (res1 : List ByteArray) (L : List PSubFits.S27) (AS : Option Addr) (cS : Nat) : Prop where
  nx : Nx h p vi vo 0 w v E res wx v1 E1 res1
  r : PSubFits.k27.R 27 wx w.heap.size (fun k => k ≠ p ∧ some k ≠ v1.ownBlock) (.slice AS L.length cS) L
  gd : E1 = 0 → ∀ x ∈ L, GoodS res1.length x
  ln : L.length ≤ n
section
variable {h : Hd} {p : Nat} {vi vo : Value} {w : World} {v : Value} {E : Int} {res : List ByteArray} {n : Nat}
  {wx w2 : World} {v1 v2 : Value} {E1 E2 : Int} {res1 res2 : List ByteArray} {L : List PSubFits.S27} {AS : Option Addr} {cS : Nat}
theorem PS.le {n2 : Nat} (s : PS h p vi vo w v E res n wx v1 E1 res1 L AS cS) (hn : n ≤ n2) : PS h p vi vo w v E res n2 wx v1 E1 res1 L AS cS := { s with ln := Nat.le_trans s.ln hn }
theorem PS.go (s : PS h p vi vo w v E res n wx v1 E1 res1 L AS cS) (hn : Nx h p vi vo 0 wx v1 E1 res1 w2 v2 E2 res2) : PS h p vi vo w v E res n w2 v2 E2 res2 L AS cS where
  nx := s.nx.trans hn
  r := hn.go.row s.r
  gd := fun e x hx => (s.gd (hn.er e) x hx).more hn.le
  ln := s.ln
theorem PS.below (s : PS h p vi vo w v E res n wx v1 E1 res1 L AS cS) (hb : Below wx.heap.size wx w2) : PS h p vi vo w v E res n w2 v1 E1 res1 L AS cS := by
  obtain ⟨sz, m⟩ := s.nx.m1
  exact s.go ((Nx.refl m).below hb)
theorem PS.lt (s : PS h p vi vo w v E res n wx v1 E1 res1 L AS cS) : p < wx.heap.size ∧ w.heap.size ≤ wx.heap.size ∧ (∀ k, v1.ownBlock = some k → k < wx.heap.size) ∧ (∀ k, (Value.slice AS L.length cS).ownBlock = some k → k < wx.heap.size) := by
  obtain ⟨sz, m⟩ := s.nx.m1
  exact ⟨m.lt, s.nx.go.keep.1, Kd.R_lt m.hr, Kd.R_lt s.r⟩
theorem PS.fr (s : PS h p vi vo w v E res n wx v1 E1 res1 L AS cS) : ∀ k, wx.heap.size ≤ k → k ≠ p ∧ some k ≠ v1.ownBlock := by
  obtain ⟨a, b, c, d⟩ := s.lt
  exact fun k hk => ⟨by omega, fun e => by have := c k e.symm; omega⟩
theorem PS.app {w1 : World} {x : PSubFits.S27} {AM : Option Addr} {cM : Nat} (s : PS h p vi vo w v E res n wx v1 E1 res1 L AS cS) (hx : E1 = 0 → GoodS res1.length x)
    (r1 : PSubFits.k27.R 27 w1 w.heap.size (fun k => k ≠ p ∧ some k ≠ v1.ownBlock) (.slice AM (L.length + 1) cM) (L ++ [x])) (r3 : wx.grownBy w1 (Value.slice AS L.length cS).ownBlock) :
    PS h p vi vo w v E res (n + 1) w1 v1 E1 res1 (L ++ [x]) AM cM where
  nx := s.nx.grown r3 (row_hr s.r (Nat.le_refl _))
  r := by rw [List.length_append]; exact r1
  gd := fun e y hy => by
    rcases List.mem_append.1 hy with hy | hy
    · exact s.gd e y hy
    · rw [List.mem_singleton.1 hy]; exact hx e
  ln := by rw [List.length_append]; exact Nat.succ_le_succ s.ln
/-- Which elements an append may bring: made from a world on. -/
theorem PS.okp (s : PS h p vi vo w v E res n wx v1 E1 res1 L AS cS) (v3 : Value) : ∀ k, ((k ≠ p ∧ some k ≠ v3.ownBlock) ∧ wx.heap.size ≤ k) → (k ≠ p ∧ some k ≠ v3.ownBlock) ∧ some k ≠ (Value.slice AS L.length cS).ownBlock :=
  fun k hk => ⟨hk.1, fun e => by have := s.lt.2.2.2 k e.symm; omega⟩
theorem SV.mk27 {base B : Nat} {x : PSubFits.S27} {a1 a2 a4 a5 : Value} (t : SV p wx B v1 x a1 a2 a4 a5) (hb : base ≤ B) :
    PSubFits.k27.M wx base (fun k => (k ≠ p ∧ some k ≠ v1.ownBlock) ∧ B ≤ k) x [.string x.f0, a1, a2, .int .i64 x.f3.f0, a4, a5, .int .i64 x.f3.f3] :=
  PSubFits.k27_mkM _ _ _ x (Kd.R_lower (Kd.R_mono (Kd.R_bound t.n) (fun k hk => ⟨hk.1, hk.2.1⟩)) hb) (Kd.R_lower (Kd.R_mono (Kd.R_bound t.l) (fun k hk => ⟨hk.1, hk.2.1⟩)) hb)
    (Kd.R_lower (Kd.R_mono (Kd.R_bound t.r.n) (fun k hk => ⟨hk.1, hk.2.1⟩)) hb) (Kd.R_lower (Kd.R_mono (Kd.R_bound t.r.l) (fun k hk => ⟨hk.1, hk.2.1⟩)) hb)
end
def ScopeOne (h : Hd) (p : Nat) (vi vo : Value) (dp : Nat) (w : World) (v : Value) (E : Int) (res : List ByteArray) (r : Ending) (w' : World) : Prop :=
  ∃ (E' : Int) (key : ByteArray) (at_ : Nat) (x : S142) (U : Option Addr) (cU : Nat) (D : Option Addr) (cD : Nat) (F : Option Addr) (cF : Nat) (b okb : Bool),
    r = .returned (.tuple #[.agg #[.string key, .int .i64 (at_ : Int), .slice U x.f1.length cU, .slice D x.f2.length cD, .bool b], .agg #[.string x.f0, .slice U x.f1.length cU, .slice D x.f2.length cD, .slice F x.f3.length cF], .bool okb]) ∧
    Nx h p vi vo dp w v E res w' v E' res ∧ (okb = false → E' ≠ 0) ∧ (okb = true → Scp h key at_ x.f1 U x.f2 D ∧ k146.C h.W0 F x.f3.length x.f3 ∧ WfI x)
theorem scope_one {h : Hd} (ok : h.Ok) {p : Nat} {w : World} {v vi vo : Value} {dp : Nat} {E : Int} {res : List ByteArray} (m : ∃ sz, Mk h p w v vi vo dp sz E res)
    (q : S149) (from_ : Nat) (hfrom : from_ < h.P.length) (out : Bool) :
    Calls Try.prog 93 #[.pointer (some ⟨p, 0, none⟩), .agg #[.string q.f0, .string q.f1, .string q.f2], .int .i64 (from_ : Int), .bool out] w (ScopeOne h p vi vo dp w v E res) := by
  refine (scope_any ok m q from_ hfrom out).mono ?_
  rintro e w' ⟨E', hn, ⟨rfl, hE⟩ | ⟨key, at_, x, U, cU, D, cD, F, cF, b, rfl, sc, hF, hI⟩⟩
  · exact ⟨E', ⟨#[]⟩, 0, ⟨⟨#[]⟩, [], [], []⟩, none, 0, none, 0, none, 0, false, false, rfl, hn, fun _ => hE, fun e => by cases e⟩
  · exact ⟨E', key, at_, x, U, cU, D, cD, F, cF, b, true, rfl, hn, fun e => (by cases e), fun _ => ⟨sc, hF, hI⟩⟩
theorem PS.put5 {h : Hd} {p : Nat} {vi vo : Value} {w : World} {v : Value} {E : Int} {res : List ByteArray} {n : Nat} {wx : World} {v1 : Value} {E1 : Int} {res1 : List ByteArray} {L : List PSubFits.S27} {AS : Option Addr} {cS : Nat} {g : Nat} {a0 a1 a2 a3 a4 : Value}
    (s : PS h p vi vo w v E res n wx v1 E1 res1 L AS cS) (K : wx.heap[g]? = some (.cells #[a0, a1, a2, a3, a4] 160 (0, 0))) (hg : w.heap.size ≤ g) (b0 b1 b2 b3 b4 : Value) :
    PS h p vi vo w v E res n (((((wx.setCell ⟨g, 0, none⟩ b0).setCell ⟨g, 1, none⟩ b1).setCell ⟨g, 2, none⟩ b2).setCell ⟨g, 3, none⟩ b3).setCell ⟨g, 4, none⟩ b4) v1 E1 res1 L AS cS ∧ (((((wx.setCell ⟨g, 0, none⟩ b0).setCell ⟨g, 1, none⟩ b1).setCell ⟨g, 2, none⟩ b2).setCell ⟨g, 3, none⟩ b3).setCell ⟨g, 4, none⟩ b4).heap[g]? = some (.cells #[b0, b1, b2, b3, b4] 160 (0, 0)) ∧ ∀ k, k ≠ g → (((((wx.setCell ⟨g, 0, none⟩ b0).setCell ⟨g, 1, none⟩ b1).setCell ⟨g, 2, none⟩ b2).setCell ⟨g, 3, none⟩ b3).setCell ⟨g, 4, none⟩ b4).heap[k]? = wx.heap[k]? := by
  have a := s.nx.put5 K (by decide) (by decide) hg b0 b1 b2 b3 b4
  have k0 := blk_put K 0 b0 (show _ = #[b0, a1, a2, a3, a4] from rfl)
  have r0 := Kd.R_set s.r K (by decide) 0 b0
  have k1 := blk_put k0 1 b1 (show _ = #[b0, b1, a2, a3, a4] from rfl)
  have r1 := Kd.R_set r0 k0 (by decide) 1 b1
  have k2 := blk_put k1 2 b2 (show _ = #[b0, b1, b2, a3, a4] from rfl)
  have r2 := Kd.R_set r1 k1 (by decide) 2 b2
  have k3 := blk_put k2 3 b3 (show _ = #[b0, b1, b2, b3, a4] from rfl)
  have r3 := Kd.R_set r2 k2 (by decide) 3 b3
  have k4 := blk_put k3 4 b4 (show _ = #[b0, b1, b2, b3, b4] from rfl)
  have r4 := Kd.R_set r3 k3 (by decide) 4 b4
  exact ⟨⟨a.1, r4, s.gd, s.ln⟩, a.2.1, a.2.2⟩
theorem PS.put4 {h : Hd} {p : Nat} {vi vo : Value} {w : World} {v : Value} {E : Int} {res : List ByteArray} {n : Nat} {wx : World} {v1 : Value} {E1 : Int} {res1 : List ByteArray} {L : List PSubFits.S27} {AS : Option Addr} {cS : Nat} {g : Nat} {a0 a1 a2 a3 : Value}
    (s : PS h p vi vo w v E res n wx v1 E1 res1 L AS cS) (K : wx.heap[g]? = some (.cells #[a0, a1, a2, a3] 142 (0, 0))) (hg : w.heap.size ≤ g) (b0 b1 b2 b3 : Value) :
    PS h p vi vo w v E res n ((((wx.setCell ⟨g, 0, none⟩ b0).setCell ⟨g, 1, none⟩ b1).setCell ⟨g, 2, none⟩ b2).setCell ⟨g, 3, none⟩ b3) v1 E1 res1 L AS cS ∧ ((((wx.setCell ⟨g, 0, none⟩ b0).setCell ⟨g, 1, none⟩ b1).setCell ⟨g, 2, none⟩ b2).setCell ⟨g, 3, none⟩ b3).heap[g]? = some (.cells #[b0, b1, b2, b3] 142 (0, 0)) ∧ ∀ k, k ≠ g → ((((wx.setCell ⟨g, 0, none⟩ b0).setCell ⟨g, 1, none⟩ b1).setCell ⟨g, 2, none⟩ b2).setCell ⟨g, 3, none⟩ b3).heap[k]? = wx.heap[k]? := by
  have a := s.nx.put4 K (by decide) (by decide) hg b0 b1 b2 b3
  have k0 := blk_put K 0 b0 (show _ = #[b0, a1, a2, a3] from rfl)
  have r0 := Kd.R_set s.r K (by decide) 0 b0
  have k1 := blk_put k0 1 b1 (show _ = #[b0, b1, a2, a3] from rfl)
  have r1 := Kd.R_set r0 k0 (by decide) 1 b1
  have k2 := blk_put k1 2 b2 (show _ = #[b0, b1, b2, a3] from rfl)
  have r2 := Kd.R_set r1 k1 (by decide) 2 b2
  have k3 := blk_put k2 3 b3 (show _ = #[b0, b1, b2, b3] from rfl)
  have r3 := Kd.R_set r2 k2 (by decide) 3 b3
  exact ⟨⟨a.1, r3, s.gd, s.ln⟩, a.2.1, a.2.2⟩
/-- A box and a maker, in any world of a region. -/
structure KP (h : Hd) (p : Nat) (g9 : Nat) (c9 : Array Value) (w' : World) : Prop where
  k9 : w'.heap[g9]? = some (.cells c9 157 (0, 0))
  kp : ∃ a b c d e f, w'.heap[p]? = some (.cells (h.cells a b c d e f) 128 (0, 0))
section
variable {h : Hd} {p g9 : Nat} {c9 : Array Value} {w' : World}
theorem KP.alloc (k : KP h p g9 c9 w') (o : Obj) : KP h p g9 c9 (w'.alloc o) := ⟨blk_alloc k.k9 o, by obtain ⟨a, b, c, d, e, f, hk⟩ := k.kp; exact ⟨a, b, c, d, e, f, blk_alloc hk o⟩⟩
theorem KP.drew (k : KP h p g9 c9 w') : KP h p g9 c9 w'.drew := ⟨k.k9, k.kp⟩
theorem KP.set (k : KP h p g9 c9 w') {g : Nat} (h1 : g9 ≠ g) (h2 : p ≠ g) (j : Nat) (u : Value) : KP h p g9 c9 (w'.setCell ⟨g, j, none⟩ u) := ⟨blk_far k.k9 h1 u, by obtain ⟨a, b, c, d, e, f, hk⟩ := k.kp; exact ⟨a, b, c, d, e, f, blk_far hk h2 u⟩⟩
theorem KP.c1 (k : KP h p g9 c9 w') : w'.cell? ⟨p, 1, none⟩ = some (.int .i64 (h.pkg : Int)) := by obtain ⟨a, b, c, d, e, f, hk⟩ := k.kp; exact (blk_cell hk 1).trans rfl
theorem KP.c3 (k : KP h p g9 c9 w') : w'.cell? ⟨p, 3, none⟩ = some (.slice h.U h.wd.f1.length h.cU) := by obtain ⟨a, b, c, d, e, f, hk⟩ := k.kp; exact (blk_cell hk 3).trans rfl
theorem KP.c4 (k : KP h p g9 c9 w') : w'.cell? ⟨p, 4, none⟩ = some (.slice h.D h.wd.f2.length h.cD) := by obtain ⟨a, b, c, d, e, f, hk⟩ := k.kp; exact (blk_cell hk 4).trans rfl
theorem KP.nx {vi vo v v2 : Value} {dp : Nat} {E E2 : Int} {res res2 : List ByteArray} {w2 : World} (k : KP h p g9 c9 w') (hn : Nx h p vi vo dp w' v E res w2 v2 E2 res2) : KP h p g9 c9 w2 := ⟨hn.blk k.k9 (by decide) (by decide), by obtain ⟨sz, m⟩ := hn.m1; exact ⟨_, _, _, _, _, _, m.hp⟩⟩
theorem KP.grown {α : Type} {d : Kd α} {base : Nat} {ok : Nat → Prop} {u : Value} {xs : List α} {w1 : World} (k : KP h p g9 c9 w') (hr : d.R 27 w' base ok u xs) (hg : w'.grownBy w1 u.ownBlock) : KP h p g9 c9 w1 :=
  ⟨blk_grown k.k9 hg (Kd.R_ne hr k.k9 (by decide)), by obtain ⟨a, b, c, d, e, f, hk⟩ := k.kp; exact ⟨a, b, c, d, e, f, blk_grown hk hg (Kd.R_ne hr hk (by decide))⟩⟩
end
/-- A scope's and an interface's box. -/
structure KQ (g10 g11 : Nat) (c10 c11 : Array Value) (w' : World) : Prop where
  k10 : w'.heap[g10]? = some (.cells c10 160 (0, 0))
  k11 : w'.heap[g11]? = some (.cells c11 142 (0, 0))
section
variable {g10 g11 : Nat} {c10 c11 : Array Value} {w' : World}
theorem KQ.alloc (k : KQ g10 g11 c10 c11 w') (o : Obj) : KQ g10 g11 c10 c11 (w'.alloc o) := ⟨blk_alloc k.k10 o, blk_alloc k.k11 o⟩
theorem KQ.drew (k : KQ g10 g11 c10 c11 w') : KQ g10 g11 c10 c11 w'.drew := ⟨k.k10, k.k11⟩
theorem KQ.nx {h : Hd} {p : Nat} {vi vo v v2 : Value} {dp : Nat} {E E2 : Int} {res res2 : List ByteArray} {w2 : World} (k : KQ g10 g11 c10 c11 w') (hn : Nx h p vi vo dp w' v E res w2 v2 E2 res2) : KQ g10 g11 c10 c11 w2 := ⟨hn.blk k.k10 (by decide) (by decide), hn.blk k.k11 (by decide) (by decide)⟩
theorem KQ.grown {α : Type} {d : Kd α} {base : Nat} {ok : Nat → Prop} {u : Value} {xs : List α} {w1 : World} (k : KQ g10 g11 c10 c11 w') (hr : d.R 27 w' base ok u xs) (hg : w'.grownBy w1 u.ownBlock) : KQ g10 g11 c10 c11 w1 :=
  ⟨blk_grown k.k10 hg (Kd.R_ne hr k.k10 (by decide)), blk_grown k.k11 hg (Kd.R_ne hr k.k11 (by decide))⟩
end
/-- What a contract's functions come to. -/
def PortsR (h : Hd) (p : Nat) (vi vo : Value) (w : World) (v : Value) (E : Int) (res : List ByteArray) (r : Ending) (w' : World) : Prop :=
  ∃ (v' : Value) (E' : Int) (res' : List ByteArray) (L : List PSubFits.S27) (AS : Option Addr) (cS : Nat), r = .returned (.slice AS L.length cS) ∧ Nx h p vi vo 0 w v E res w' v' E' res' ∧
    PSubFits.k27.R 27 w' w.heap.size (fun k => k ≠ p ∧ some k ≠ v'.ownBlock) (.slice AS L.length cS) L ∧ (E' = 0 → (∀ x ∈ L, GoodS res'.length x) ∧ (L.map (·.f0)).Nodup ∧ L.length ≤ 200)
theorem nodup_step {L : List PSubFits.S27} {i : Nat} (hi : i < L.length) (h1 : ((L.take i).map (·.f0)).Nodup) (h2 : ∀ j (hj : j < L.length), j < i → L[j].f0 ≠ L[i].f0) : ((L.take (i + 1)).map (·.f0)).Nodup := by
  rw [List.take_add_one, List.getElem?_eq_getElem hi]
  simp only [Option.toList, List.map_append, List.map_cons, List.map_nil]
  rw [List.nodup_append]
  refine ⟨h1, by simp, fun a ha b hb => ?_⟩
  rw [List.mem_singleton.1 hb]
  obtain ⟨y, hy, rfl⟩ := List.mem_map.1 ha
  obtain ⟨j, hj, rfl⟩ := List.mem_iff_getElem.1 hy
  have hj2 : j < i := by
    have := List.length_take_le i L
    omega
  rw [List.getElem_take]
  exact h2 j (by omega) hj2
theorem el27 {w : World} {A : Option Addr} {l : List PSubFits.S27} (h : Kd.C PSubFits.k27 w A l.length l) {k : Nat} (hk : k < l.length) :
    ∃ ad, A = some ad ∧ w.cell? (ad.add (k * 7)) = some (.string l[k].f0) := by
  obtain ⟨ad, A1, c1, A2, c2, A4, c4, A5, c5, hae, x0, _⟩ := PSubFits.at_T27 h (k : Int) (by omega) (by omega)
  have e : PSubFits.rd_T27 l (k : Int) = l[k] := by simp [PSubFits.rd_T27, List.getD, hk]
  rw [e, Int.toNat_natCast] at x0
  exact ⟨ad, hae, x0⟩
end Go.Proofs.Ytmpmcffhlnlejaa.Mkr
end
section
namespace Go.Proofs.Ytmpmcffhlnlejaa.SubEq
open Go.RowKit Go.Proofs.YtmpmcffhlnlejaaW.PrintWords Go.Proofs.YtmpmcffhlnlejaaW.PrintLast Go.Proofs.YtmpmcffhlnlejaaW.PrintMore
open Go.Proofs.Ytmpmcffhlnlejaa.PSubFits
set_option linter.unusedVariables false
set_option linter.unusedSimpArgs false
/-- What a type's value says of memory. -/
structure TyAt (w : World) (x : S25) (A1 : Option Addr) (c1 : Nat) (A2 : Option Addr) (c2 : Nat) : Prop where
  h1 : Kd.string.C w A1 x.f1.length x.f1
  l1 : x.f1.length ≤ c1
  h2 : k25.C w A2 x.f2.length x.f2
  l2 : x.f2.length ≤ c2
theorem TyAt.below {w w' : World} {x : S25} {A1 : Option Addr} {c1 : Nat} {A2 : Option Addr} {c2 : Nat} (h : TyAt w x A1 c1 A2 c2) (hb : Below w.heap.size w w') : TyAt w' x A1 c1 A2 c2 :=
  ⟨Kd.C_below h.h1 hb, h.l1, Kd.C_below h.h2 hb, h.l2⟩
/-- Are two lists the same, element by element? -/
def eqL (F : S25 → S25 → Bool) : List S25 → List S25 → Bool
  | [], [] => true
  | x :: xs, y :: ys => F x y && eqL F xs ys
  | _, _ => false
theorem eqL_len {F : S25 → S25 → Bool} : ∀ {xs ys : List S25}, xs.length ≠ ys.length → eqL F xs ys = false
  | [], [], h => absurd rfl h
  | [], _ :: _, _ => rfl
  | _ :: _, [], _ => rfl
  | x :: xs, y :: ys, h => by
    simp only [eqL]
    rw [eqL_len (xs := xs) (ys := ys) (by simpa using h)]
    simp
theorem eqL_drop_nil {F : S25 → S25 → Bool} {xs ys : List S25} (hl : xs.length = ys.length) {k : Nat} (h : xs.length ≤ k) : eqL F (xs.drop k) (ys.drop k) = true := by
  rw [List.drop_eq_nil_of_le h, List.drop_eq_nil_of_le (by omega)]
  rfl
theorem rdT_eq {xs : List S25} {k : Nat} (hk : k < xs.length) : rd_T25 xs (k : Int) = xs[k] := by
  simp [rd_T25, List.getD, hk]
theorem eqL_drop_step {F : S25 → S25 → Bool} {xs ys : List S25} (hl : xs.length = ys.length) {k : Nat} (h : k < xs.length) :
    eqL F (xs.drop k) (ys.drop k) = (F (rd_T25 xs (k : Int)) (rd_T25 ys (k : Int)) && eqL F (xs.drop (k + 1)) (ys.drop (k + 1))) := by
  have h' : k < ys.length := by omega
  rw [List.drop_eq_getElem_cons h, List.drop_eq_getElem_cons h', rdT_eq h, rdT_eq h']
  rfl
/-- What EqualFunc asks of the function that it is handed. -/
def Gives (g B : Nat) (F : S25 → S25 → Bool) (xs ys : List S25) (w : World) : Prop :=
  ∀ (W : World), Below w.heap.size w W → ∀ (x y : S25), x ∈ xs → y ∈ ys → ∀ (A1 : Option Addr) (c1 : Nat) (A2 : Option Addr) (c2 : Nat) (B1 : Option Addr) (d1 : Nat) (B2 : Option Addr) (d2 : Nat),
    TyAt W x A1 c1 A2 c2 → TyAt W y B1 d1 B2 d2 →
    Calls Try.prog g #[.agg #[.int .i64 x.f0, .slice A1 x.f1.length c1, .slice A2 x.f2.length c2, .int .i64 x.f3], .agg #[.int .i64 y.f0, .slice B1 y.f1.length d1, .slice B2 y.f2.length d2, .int .i64 y.f3], .pointer (some ⟨B, 0, none⟩)] W fun e w' => e = .returned (.bool (F x y)) ∧ Below W.heap.size W w'
set_option maxHeartbeats 1000000 in
theorem ef_len {A1 A2 : Option Addr} {c1 c2 : Nat} {fv : Value} {xs ys : List S25} {w : World} (hx : xs.length ≤ 9223372036854775807) (hy : ys.length ≤ 9223372036854775807) (hl : xs.length ≠ ys.length) :
    Calls Try.prog 52 #[.slice A1 xs.length c1, .slice A2 ys.length c2, fv] w fun e w' => e = .returned (.bool false) ∧ w = w' := by
  have c3 : ((xs.length : Int) == (ys.length : Int)) = false := beq_eq_false_iff_ne.mpr (by omega)
  have c4 : ((xs.length : Int) != (ys.length : Int)) = true := bne_iff_ne.mpr (by omega)
  have c5 : (xs.length == ys.length) = false := beq_eq_false_iff_ne.mpr hl
  clear hl
  go_enter Try.func52, Try.ntmps52
  go_wp2_with fail
  go_ret
  exact ⟨rfl, rfl⟩
set_option maxHeartbeats 1000000 in
theorem ef_calls (g : Nat) (hg : g = 74 ∨ g = 53) (B : Nat) {A1 A2 : Option Addr} {c1 c2 : Nat} {F : S25 → S25 → Bool} {xs ys : List S25} {w : World} (hx : k25.C w A1 xs.length xs) (hy : k25.C w A2 ys.length ys) (hF : Gives g B F xs ys w) (hl : xs.length = ys.length) :
    Calls Try.prog 52 #[.slice A1 xs.length c1, .slice A2 ys.length c2, .func (.func g) #[] #[.pointer (some ⟨B, 0, none⟩)]] w fun e w' => e = .returned (.bool (eqL F xs ys)) ∧ Below w.heap.size w w' := by
  have c3 : ((xs.length : Int) == (ys.length : Int)) = true := beq_iff_eq.mpr (by omega)
  have c4 : ((xs.length : Int) != (ys.length : Int)) = false := bne_eq_false_iff_eq.mpr (by omega)
  have c5 : (xs.length == ys.length) = true := beq_iff_eq.mpr hl
  have hm1 : xs.length ≤ 9223372036854775807 := hx.2.1
  have HL := Aside0.mk hl
  have HX := Aside0.mk hx
  have HY := Aside0.mk hy
  have HF := Aside0.mk hF
  clear hl hx hy hF
  rcases hg with rfl | rfl
  all_goals
    go_enter Try.func52, Try.ntmps52
    go_wp2_with fail
    go_loopw [17] (fun v17 wr => ∃ k : Nat, k ≤ xs.length ∧ v17 = .int .i64 k ∧ Aside0 (Below w.heap.size w wr) ∧ Aside0 (eqL F xs ys = eqL F (xs.drop k) (ys.drop k))) (fun v17 _ => xs.length - (intOf v17).toNat)
    case atStart => exact ⟨0, Nat.zero_le _, rfl, ⟨Below.refl _ _⟩, ⟨rfl⟩⟩
    case round =>
      obtain ⟨k, hk, rfl, HB, HE⟩ := hrel
      by_cases hlt : k < xs.length
      · obtain ⟨ad1, P1, a1, P2, a2, rfl, x0, x1, x2, x3, l1, g1, l2, g2⟩ := at_T25 (Kd.C_below HX.out HB.out) (k : Int) (by omega) (by omega)
        obtain ⟨ad2, Q1, b1, Q2, b2, rfl, y0, y1, y2, y3, m1, e1, m2, e2⟩ := at_T25 (Kd.C_below HY.out HB.out) (k : Int) (by omega) (by have := HL.out; omega)
        rw [Int.toNat_natCast] at x0 x1 x2 x3 y0 y1 y2 y3
        have hl2 : k < ys.length := by have := HL.out; omega
        have t1 : TyAt wr (rd_T25 xs (k : Int)) P1 a1 P2 a2 := ⟨g1, l1, g2, l2⟩
        have t2 : TyAt wr (rd_T25 ys (k : Int)) Q1 b1 Q2 b2 := ⟨e1, m1, e2, m2⟩
        have T1 := Aside0.mk t1
        have T2 := Aside0.mk t2
        clear l1 g1 l2 g2 m1 e1 m2 e2 t1 t2
        replace y0 := fun o => (World.cell?_alloc_lt wr o _ (World.block_lt_of_cell? wr _ y0)).trans y0
        replace y1 := fun o => (World.cell?_alloc_lt wr o _ (World.block_lt_of_cell? wr _ y1)).trans y1
        replace y2 := fun o => (World.cell?_alloc_lt wr o _ (World.block_lt_of_cell? wr _ y2)).trans y2
        replace y3 := fun o => (World.cell?_alloc_lt wr o _ (World.block_lt_of_cell? wr _ y3)).trans y3
        have HS := Aside0.mk (eqL_drop_step (F := F) HL.out hlt)
        have m1 := Aside0.mk (show rd_T25 xs (k : Int) ∈ xs by rw [rdT_eq hlt]; exact List.getElem_mem hlt)
        have m2 := Aside0.mk (show rd_T25 ys (k : Int) ∈ ys by rw [rdT_eq hl2]; exact List.getElem_mem hl2)
        generalize rd_T25 xs (k : Int) = x at *
        generalize rd_T25 ys (k : Int) = y at *
        go_wp2_with fail
        refine (HF.out _ (below_alloc (below_alloc HB.out _) _) x y m1.out m2.out P1 a1 P2 a2 Q1 b1 Q2 b2 ((T1.out.below (below_alloc (Below.refl _ _) _)).below (below_alloc (Below.refl _ _) _)) ((T2.out.below (below_alloc (Below.refl _ _) _)).below (below_alloc (Below.refl _ _) _))).mono ?_
        rintro e w1 ⟨rfl, hb⟩
        have HB1 := Aside0.mk (below_step (below_alloc (below_alloc HB.out _) _) hb)
        clear hb HB y0 y1 y2 y3 x0 x1 x2 x3
        cases hFv : F x y with
        | true =>
          rw [hFv] at HS
          go_wp2_with fail
          go_roundw
          case rel => exact ⟨k + 1, by omega, by go_num, HB1, ⟨by rw [HE.out, HS.out, Bool.true_and]⟩⟩
          case measure => simp [intOf]; omega
        | false =>
          rw [hFv] at HS
          go_wp2_with fail
          go_ret
          exact ⟨by rw [HE.out, HS.out, Bool.false_and]; rfl, HB1.out⟩
      · go_wp2_with fail
        go_ret
        exact ⟨by rw [HE.out, eqL_drop_nil HL.out (by omega)]; rfl, HB.out⟩
theorem bytes_ext {a b : ByteArray} (h : a.toList = b.toList) : a = b := by
  rw [ByteArray.toList_eq, ByteArray.toList_eq] at h
  cases a with
  | mk a =>
    cases b with
    | mk b =>
      cases a; cases b
      simp_all
theorem rdB_eq {xs : List ByteArray} {k : Nat} (hk : k < xs.length) : rdOf ByteArray.empty xs (k : Int) = xs[k] := by
  simp [rdOf, List.getD, hk]
theorem drop_eq_iff {xs ys : List ByteArray} {k : Nat} (h : k < xs.length) (h' : k < ys.length) : xs.drop k = ys.drop k ↔ xs[k] = ys[k] ∧ xs.drop (k + 1) = ys.drop (k + 1) := by
  rw [List.drop_eq_getElem_cons h, List.drop_eq_getElem_cons h']
  exact ⟨fun e => by injection e with e1 e2; exact ⟨e1, e2⟩, fun e => by rw [e.1, e.2]⟩
theorem wrap_succ {k n : Nat} (h : k < n) (hn : n ≤ 9223372036854775807) : wrap64 ((k : Int) + 1) = ((k + 1 : Nat) : Int) := by
  unfold wrap64; omega
theorem eqStr_l0 (xs ys : List ByteArray) (hl : xs.length = ys.length) (hn : xs.length ≤ 9223372036854775807) : ∀ (d k : Nat), k + d = xs.length →
    slices_Equal_string_string.l0 (d + 1) xs ys (xs.length : Int) (k : Int) = some (decide (xs.drop k = ys.drop k)) := by
  intro d
  induction d with
  | zero =>
    intro k hk
    simp only [slices_Equal_string_string.l0]
    rw [if_neg (by omega), List.drop_eq_nil_of_le (by omega), List.drop_eq_nil_of_le (by omega)]
    simp
  | succ d ih =>
    intro k hk
    have h1 : k < xs.length := by omega
    have h2 : k < ys.length := by omega
    rw [slices_Equal_string_string.l0]
    rw [if_pos (by omega), if_pos (by omega), if_pos (by omega), if_pos (by omega), rdB_eq h1, rdB_eq h2, wrap_succ h1 hn, ih (k + 1) (by omega)]
    by_cases e : xs[k] = ys[k]
    · rw [if_pos (by rw [e])]
      congr 1
      rw [decide_eq_decide, drop_eq_iff h1 h2]
      exact ⟨fun h => ⟨e, h⟩, fun h => h.2⟩
    · rw [if_neg (fun h => e (bytes_ext h))]
      congr 1
      symm
      rw [decide_eq_false_iff_not, drop_eq_iff h1 h2]
      exact fun h => e h.1
theorem eqStr (xs ys : List ByteArray) (hn : xs.length ≤ 9223372036854775807) : ∃ k, slices_Equal_string_string.f k xs ys = some (decide (xs = ys)) := by
  by_cases hl : xs.length = ys.length
  · refine ⟨xs.length + 1, ?_⟩
    unfold slices_Equal_string_string.f
    rw [if_pos (by omega)]
    have := eqStr_l0 xs ys hl hn xs.length 0 (by omega)
    simpa using this
  · refine ⟨0, ?_⟩
    unfold slices_Equal_string_string.f
    rw [if_neg (by omega)]
    congr 1
    symm
    rw [decide_eq_false_iff_not]
    exact fun h => hl (by rw [h])
theorem eqS_calls {A1 A2 : Option Addr} {c1 c2 : Nat} {xs ys : List ByteArray} {w : World} (hx : Kd.string.C w A1 xs.length xs) (hc1 : xs.length ≤ c1) (hy : Kd.string.C w A2 ys.length ys) (hc2 : ys.length ≤ c2) :
    Calls Try.prog 51 #[.slice A1 xs.length c1, .slice A2 ys.length c2] w fun e w' => e = .returned (.bool (decide (xs = ys))) ∧ Drawn0 w w' := by
  obtain ⟨k, hk⟩ := eqStr xs ys hx.2.1
  exact slices_Equal_string_string.calls k A1 c1 xs A2 c2 ys _ w hx hc1 hy hc2 hk
/-- Does the resource r, of a type of kind k, stand for r'? -/
def refOk (m : List Int) (k r r' : Int) : Bool :=
  if k = 20 ∨ k = 21 then decide (0 ≤ r ∧ r < (m.length : Int) ∧ 0 ≤ rd m r ∧ rd m r = r') else decide (r = r')
mutual
def sameT (m : List Int) : S25 → S25 → Bool
  | ⟨k, ns, l, r⟩, b => decide (k = b.f0) && decide (ns = b.f1) && refOk m k r b.f3 && sameTs m l b.f2
def sameTs (m : List Int) : List S25 → List S25 → Bool
  | [], [] => true
  | x :: xs, y :: ys => sameT m x y && sameTs m xs ys
  | [], _ :: _ => false
  | _ :: _, [] => false
end
theorem sameTs_eq (m : List Int) : ∀ (xs ys : List S25), sameTs m xs ys = eqL (sameT m) xs ys
  | [], [] => by simp [sameTs, eqL]
  | x :: xs, y :: ys => by rw [sameTs, eqL, sameTs_eq m xs ys]
  | [], _ :: _ => by simp [sameTs, eqL]
  | _ :: _, [] => by simp [sameTs, eqL]
theorem sameT_eq (m : List Int) (a b : S25) : sameT m a b = (decide (a.f0 = b.f0) && decide (a.f1 = b.f1) && refOk m a.f0 a.f3 b.f3 && eqL (sameT m) a.f2 b.f2) := by
  cases a with
  | mk k ns l r => rw [sameT, sameTs_eq]
/-- The contract of subtype.same at one pair, in every later world. -/
def Same50 (m : List Int) (x y : S25) : Prop :=
  ∀ (W : World) (A1 : Option Addr) (c1 : Nat) (A2 : Option Addr) (c2 : Nat) (B1 : Option Addr) (d1 : Nat) (B2 : Option Addr) (d2 : Nat) (M : Option Addr) (cm : Nat),
    TyAt W x A1 c1 A2 c2 → TyAt W y B1 d1 B2 d2 → (Kd.int .i64).C W M m.length m → m.length ≤ cm →
    Calls Try.prog 50 #[.agg #[.int .i64 x.f0, .slice A1 x.f1.length c1, .slice A2 x.f2.length c2, .int .i64 x.f3], .agg #[.int .i64 y.f0, .slice B1 y.f1.length d1, .slice B2 y.f2.length d2, .int .i64 y.f3], .slice M m.length cm] W fun e w' => e = .returned (.bool (sameT m x y)) ∧ Below W.heap.size W w'
theorem clo_calls (g : Nat) (hg : g = 74 ∨ g = 53) {m : List Int} {x y : S25} (h50 : Same50 m x y) (W : World) {A1 : Option Addr} {c1 : Nat} {A2 : Option Addr} {c2 : Nat} {B1 : Option Addr} {d1 : Nat} {B2 : Option Addr} {d2 : Nat} {M : Option Addr} {cm B : Nat}
    (h1 : TyAt W x A1 c1 A2 c2) (h2 : TyAt W y B1 d1 B2 d2) (hm : (Kd.int .i64).C W M m.length m) (hcm : m.length ≤ cm) (hB : W.cell? ⟨B, 0, none⟩ = some (.slice M m.length cm)) :
    Calls Try.prog g #[.agg #[.int .i64 x.f0, .slice A1 x.f1.length c1, .slice A2 x.f2.length c2, .int .i64 x.f3], .agg #[.int .i64 y.f0, .slice B1 y.f1.length d1, .slice B2 y.f2.length d2, .int .i64 y.f3], .pointer (some ⟨B, 0, none⟩)] W fun e w' => e = .returned (.bool (sameT m x y)) ∧ Below W.heap.size W w' := by
  have H50 := Aside0.mk h50
  have H1 := Aside0.mk h1
  have H2 := Aside0.mk h2
  have HM := Aside0.mk hm
  have hBl := World.block_lt_of_cell? W _ hB
  have hB' := fun o o' => (World.cell?_alloc_lt (W.alloc o) o' ⟨B, 0, none⟩ (by simp; exact Nat.lt_succ_of_lt hBl)).trans ((World.cell?_alloc_lt W o ⟨B, 0, none⟩ hBl).trans hB)
  clear h50 h1 h2 hm hB
  rcases hg with rfl | rfl
  · go_enter Try.func74, Try.ntmps74
    go_wp2_with fail
    have hb0 : ∀ o o', Below W.heap.size W ((W.alloc o).alloc o') := fun o o' => below_alloc (below_alloc (Below.refl _ _) _) _
    refine (H50.out _ A1 c1 A2 c2 B1 d1 B2 d2 M cm (H1.out.below (hb0 _ _)) (H2.out.below (hb0 _ _)) (Kd.C_below HM.out (hb0 _ _)) hcm).mono ?_
    rintro e w1 ⟨rfl, hb⟩
    have HB := Aside0.mk (below_step (hb0 _ _) hb)
    clear hb hb0 hB'
    go_wp2_with fail
    go_ret
    exact ⟨rfl, HB.out⟩
  · go_enter Try.func53, Try.ntmps53
    go_wp2_with fail
    have hb0 : ∀ o o', Below W.heap.size W ((W.alloc o).alloc o') := fun o o' => below_alloc (below_alloc (Below.refl _ _) _) _
    refine (H50.out _ A1 c1 A2 c2 B1 d1 B2 d2 M cm (H1.out.below (hb0 _ _)) (H2.out.below (hb0 _ _)) (Kd.C_below HM.out (hb0 _ _)) hcm).mono ?_
    rintro e w1 ⟨rfl, hb⟩
    have HB := Aside0.mk (below_step (hb0 _ _) hb)
    clear hb hb0 hB'
    go_wp2_with fail
    go_ret
    exact ⟨rfl, HB.out⟩
/-- Kinds, or names, that differ. -/
theorem same_kind {m : List Int} {x y : S25} (h : x.f0 ≠ y.f0) : Same50 m x y := by
  intro W A1 c1 A2 c2 B1 d1 B2 d2 M cm h1 h2 hm hcm
  have hF := Aside0.mk (show sameT m x y = false by rw [sameT_eq, decide_eq_false h]; rfl)
  have e1 : (x.f0 == y.f0) = false := beq_eq_false_iff_ne.mpr h
  have e2 : (x.f0 != y.f0) = true := bne_iff_ne.mpr h
  clear h h1 h2 hm
  go_enter Try.func50, Try.ntmps50
  go_wp2_with fail
  go_ret
  exact ⟨by rw [hF.out]; rfl, by repeat (first | exact Below.refl _ _ | apply below_alloc)⟩
theorem b3 (W : World) (o o' o'' : Obj) : Below W.heap.size W (((W.alloc o).alloc o').alloc o'') := below_alloc (below_alloc (below_alloc (Below.refl _ _) _) _) _
theorem same_names {m : List Int} {x y : S25} (h0 : x.f0 = y.f0) (h : x.f1 ≠ y.f1) : Same50 m x y := by
  intro W A1 c1 A2 c2 B1 d1 B2 d2 M cm h1 h2 hm hcm
  have hF := Aside0.mk (show sameT m x y = false by rw [sameT_eq, decide_eq_false h]; simp)
  have e1 : (x.f0 == y.f0) = true := beq_iff_eq.mpr h0
  have e2 : (x.f0 != y.f0) = false := bne_eq_false_iff_eq.mpr h0
  have H1 := Aside0.mk h1
  have H2 := Aside0.mk h2
  have H := Aside0.mk (decide_eq_false h)
  clear h h0 h1 h2 hm
  go_enter Try.func50, Try.ntmps50
  go_wp2_with fail
  refine (eqS_calls (Kd.C_below H1.out.h1 (b3 _ _ _ _)) H1.out.l1 (Kd.C_below H2.out.h1 (b3 _ _ _ _)) H2.out.l1).mono ?_
  rintro e w1 ⟨rfl, ⟨n, rfl⟩⟩
  rw [H.out]
  go_wp2_with fail
  go_ret
  exact ⟨by rw [hF.out]; rfl, pw_below_drewN (b3 _ _ _ _) _⟩
theorem same_ref_no {m : List Int} {x y : S25} (h0 : x.f0 = y.f0) (h : x.f1 = y.f1) (hk : ¬ (x.f0 = 20 ∨ x.f0 = 21)) (hr : x.f3 ≠ y.f3) : Same50 m x y := by
  intro W A1 c1 A2 c2 B1 d1 B2 d2 M cm h1 h2 hm hcm
  have hF := Aside0.mk (show sameT m x y = false by rw [sameT_eq, refOk, if_neg hk, decide_eq_false hr]; simp)
  have e1 : (x.f0 == y.f0) = true := beq_iff_eq.mpr h0
  have e2 : (x.f0 != y.f0) = false := bne_eq_false_iff_eq.mpr h0
  have e3 : (x.f0 == 20) = false := beq_eq_false_iff_ne.mpr (fun e => hk (.inl e))
  have e4 : (x.f0 == 21) = false := beq_eq_false_iff_ne.mpr (fun e => hk (.inr e))
  have e5 : (x.f3 == y.f3) = false := beq_eq_false_iff_ne.mpr hr
  have e6 : (x.f3 != y.f3) = true := bne_iff_ne.mpr hr
  have H1 := Aside0.mk h1
  have H2 := Aside0.mk h2
  have H := Aside0.mk (decide_eq_true h)
  clear h h0 h1 h2 hm hk hr
  go_enter Try.func50, Try.ntmps50
  go_wp2_with fail
  refine (eqS_calls (Kd.C_below H1.out.h1 (b3 _ _ _ _)) H1.out.l1 (Kd.C_below H2.out.h1 (b3 _ _ _ _)) H2.out.l1).mono ?_
  rintro e w1 ⟨rfl, ⟨n, rfl⟩⟩
  rw [H.out]
  go_wp2_with fail
  go_ret
  exact ⟨by rw [hF.out]; rfl, pw_below_drewN (b3 _ _ _ _) _⟩
theorem cell_third (W : World) (o o' : Obj) (v : Value) (t : TypeId) (n : Nat) : ((((W.alloc o).alloc o').alloc (.cells #[v] t)).drewN n).cell? ⟨W.heap.size + 1 + 1, 0, none⟩ = some v := by
  have h := blk_new ((W.alloc o).alloc o') (.cells #[v] t)
  simp only [World.size_alloc] at h
  exact (blk_cell (blk_drewN h n) 0).trans rfl
theorem gives_of {g B : Nat} (hg : g = 74 ∨ g = 53) {m : List Int} {xs ys : List S25} {W : World} {M : Option Addr} {cm : Nat} (h50 : ∀ x ∈ xs, ∀ y, Same50 m x y) (hm : (Kd.int .i64).C W M m.length m) (hcm : m.length ≤ cm) (hB : W.cell? ⟨B, 0, none⟩ = some (.slice M m.length cm)) :
    Gives g B (sameT m) xs ys W := by
  intro W1 hb x y hx hy A1 c1 A2 c2 B1 d1 B2 d2 t1 t2
  exact clo_calls g hg (h50 x hx y) W1 t1 t2 (Kd.C_below hm hb) hcm ((hb.cell (p := ⟨B, 0, none⟩) (World.block_lt_of_cell? W _ hB)).trans hB)
set_option maxHeartbeats 1000000 in
theorem same_ref_yes {m : List Int} {x y : S25} (h50 : ∀ x' ∈ x.f2, ∀ y', Same50 m x' y') (h0 : x.f0 = y.f0) (h : x.f1 = y.f1) (hk : ¬ (x.f0 = 20 ∨ x.f0 = 21)) (hr : x.f3 = y.f3) : Same50 m x y := by
  intro W A1 c1 A2 c2 B1 d1 B2 d2 M cm h1 h2 hm hcm
  have hF := Aside0.mk (show sameT m x y = eqL (sameT m) x.f2 y.f2 by rw [sameT_eq, refOk, if_neg hk, decide_eq_true hr, decide_eq_true h, decide_eq_true h0]; simp)
  have e1 : (x.f0 == y.f0) = true := beq_iff_eq.mpr h0
  have e2 : (x.f0 != y.f0) = false := bne_eq_false_iff_eq.mpr h0
  have e3 : (x.f0 == 20) = false := beq_eq_false_iff_ne.mpr (fun e => hk (.inl e))
  have e4 : (x.f0 == 21) = false := beq_eq_false_iff_ne.mpr (fun e => hk (.inr e))
  have e5 : (x.f3 == y.f3) = true := beq_iff_eq.mpr hr
  have e6 : (x.f3 != y.f3) = false := bne_eq_false_iff_eq.mpr hr
  have H1 := Aside0.mk h1
  have H2 := Aside0.mk h2
  have HM := Aside0.mk hm
  have H50 := Aside0.mk h50
  have H := Aside0.mk (decide_eq_true h)
  clear h h0 h1 h2 hm hk hr h50
  go_enter Try.func50, Try.ntmps50
  go_wp2_with fail
  refine (eqS_calls (Kd.C_below H1.out.h1 (b3 _ _ _ _)) H1.out.l1 (Kd.C_below H2.out.h1 (b3 _ _ _ _)) H2.out.l1).mono ?_
  rintro e w1 ⟨rfl, ⟨n, rfl⟩⟩
  rw [H.out]
  go_wp2_with fail
  by_cases hl : x.f2.length = y.f2.length
  · refine (ef_calls 74 (.inl rfl) _ (Kd.C_below H1.out.h2 (pw_below_drewN (b3 _ _ _ _) _)) (Kd.C_below H2.out.h2 (pw_below_drewN (b3 _ _ _ _) _)) (gives_of (.inl rfl) H50.out (Kd.C_below HM.out (pw_below_drewN (b3 _ _ _ _) _)) hcm (cell_third _ _ _ _ _ _)) hl).mono ?_
    rintro e w1 ⟨rfl, hb⟩
    have HB := Aside0.mk (below_step (pw_below_drewN (b3 _ _ _ _) _) hb)
    clear hb
    go_wp2_with fail
    go_ret
    exact ⟨by rw [hF.out]; rfl, HB.out⟩
  · refine (ef_len H1.out.h2.2.1 H2.out.h2.2.1 hl).mono ?_
    rintro e w1 ⟨rfl, rfl⟩
    have hF2 := Aside0.mk (hF.out.trans (eqL_len hl))
    clear hl
    go_wp2_with fail
    go_ret
    exact ⟨by rw [hF2.out]; rfl, pw_below_drewN (b3 _ _ _ _) _⟩
theorem same_neg {m : List Int} {x y : S25} (h0 : x.f0 = y.f0) (h : x.f1 = y.f1) (hk : x.f0 = 20 ∨ x.f0 = 21) (hr : x.f3 < 0) : Same50 m x y := by
  intro W A1 c1 A2 c2 B1 d1 B2 d2 M cm h1 h2 hm hcm
  have hF := Aside0.mk (show sameT m x y = false by rw [sameT_eq, refOk, if_pos hk, decide_eq_false (p := 0 ≤ x.f3 ∧ _) (fun q => by omega)]; simp)
  have e1 : (x.f0 == y.f0) = true := beq_iff_eq.mpr h0
  have e2 : (x.f0 != y.f0) = false := bne_eq_false_iff_eq.mpr h0
  have e34 : (x.f0 == 20) = true ∨ ((x.f0 == 20) = false ∧ (x.f0 == 21) = true) := by
    by_cases e : x.f0 = 20
    · exact .inl (beq_iff_eq.mpr e)
    · exact .inr ⟨beq_eq_false_iff_ne.mpr e, beq_iff_eq.mpr (hk.resolve_left e)⟩
  have H1 := Aside0.mk h1
  have H2 := Aside0.mk h2
  have HM := Aside0.mk hm
  have H := Aside0.mk (decide_eq_true h)
  have f1 : decide (x.f3 < 0) = true := decide_eq_true hr
  clear h h0 h1 h2 hm hk 
  go_enter Try.func50, Try.ntmps50
  go_wp2_with fail
  refine (eqS_calls (Kd.C_below H1.out.h1 (b3 _ _ _ _)) H1.out.l1 (Kd.C_below H2.out.h1 (b3 _ _ _ _)) H2.out.l1).mono ?_
  rintro e w1 ⟨rfl, ⟨n, rfl⟩⟩
  rw [H.out]
  rcases e34 with e3 | ⟨e3, e4⟩
  all_goals
    go_wp2_with fail
    go_quiet (fail)
    go_wp2_with fail
    go_ret
    exact ⟨by rw [hF.out]; rfl, pw_below_drewN (pw_below_drewN (b3 _ _ _ _) _) _⟩
theorem same_out {m : List Int} {x y : S25} (h0 : x.f0 = y.f0) (h : x.f1 = y.f1) (hk : x.f0 = 20 ∨ x.f0 = 21) (hr : 0 ≤ x.f3) (hr2 : (m.length : Int) ≤ x.f3) : Same50 m x y := by
  intro W A1 c1 A2 c2 B1 d1 B2 d2 M cm h1 h2 hm hcm
  have hF := Aside0.mk (show sameT m x y = false by rw [sameT_eq, refOk, if_pos hk, decide_eq_false (p := 0 ≤ x.f3 ∧ _) (fun q => by omega)]; simp)
  have e1 : (x.f0 == y.f0) = true := beq_iff_eq.mpr h0
  have e2 : (x.f0 != y.f0) = false := bne_eq_false_iff_eq.mpr h0
  have e34 : (x.f0 == 20) = true ∨ ((x.f0 == 20) = false ∧ (x.f0 == 21) = true) := by
    by_cases e : x.f0 = 20
    · exact .inl (beq_iff_eq.mpr e)
    · exact .inr ⟨beq_eq_false_iff_ne.mpr e, beq_iff_eq.mpr (hk.resolve_left e)⟩
  have H1 := Aside0.mk h1
  have H2 := Aside0.mk h2
  have HM := Aside0.mk hm
  have H := Aside0.mk (decide_eq_true h)
  have f1 : decide (x.f3 < 0) = false := decide_eq_false (by omega)
  have f2 : decide ((m.length : Int) ≤ x.f3) = true := decide_eq_true hr2
  clear h h0 h1 h2 hm hk 
  go_enter Try.func50, Try.ntmps50
  go_wp2_with fail
  refine (eqS_calls (Kd.C_below H1.out.h1 (b3 _ _ _ _)) H1.out.l1 (Kd.C_below H2.out.h1 (b3 _ _ _ _)) H2.out.l1).mono ?_
  rintro e w1 ⟨rfl, ⟨n, rfl⟩⟩
  rw [H.out]
  rcases e34 with e3 | ⟨e3, e4⟩
  all_goals
    go_wp2_with fail
    go_quiet (fail)
    go_wp2_with fail
    go_ret
    exact ⟨by rw [hF.out]; rfl, pw_below_drewN (pw_below_drewN (b3 _ _ _ _) _) _⟩
theorem same_mneg {m : List Int} {x y : S25} (h0 : x.f0 = y.f0) (h : x.f1 = y.f1) (hk : x.f0 = 20 ∨ x.f0 = 21) (hr : 0 ≤ x.f3) (hr2 : x.f3 < (m.length : Int)) (hr3 : rd m x.f3 < 0) : Same50 m x y := by
  intro W A1 c1 A2 c2 B1 d1 B2 d2 M cm h1 h2 hm hcm
  have hF := Aside0.mk (show sameT m x y = false by rw [sameT_eq, refOk, if_pos hk, decide_eq_false (p := 0 ≤ x.f3 ∧ _) (fun q => by omega)]; simp)
  have e1 : (x.f0 == y.f0) = true := beq_iff_eq.mpr h0
  have e2 : (x.f0 != y.f0) = false := bne_eq_false_iff_eq.mpr h0
  have e34 : (x.f0 == 20) = true ∨ ((x.f0 == 20) = false ∧ (x.f0 == 21) = true) := by
    by_cases e : x.f0 = 20
    · exact .inl (beq_iff_eq.mpr e)
    · exact .inr ⟨beq_eq_false_iff_ne.mpr e, beq_iff_eq.mpr (hk.resolve_left e)⟩
  have H1 := Aside0.mk h1
  have H2 := Aside0.mk h2
  have HM := Aside0.mk hm
  have H := Aside0.mk (decide_eq_true h)
  have hm0 : 0 ≤ x.f3 := by omega
  have hm1 : x.f3 < (m.length : Int) := by omega
  obtain ⟨ad, rfl, z⟩ := Kd.at_int hm x.f3 hm0 hm1
  have z' := fun o o' o'' => (World.cell?_alloc_lt ((W.alloc o).alloc o') o'' _ (by have := World.block_lt_of_cell? W _ z; simp; omega)).trans ((World.cell?_alloc_lt (W.alloc o) o' _ (by have := World.block_lt_of_cell? W _ z; simp; omega)).trans ((World.cell?_alloc_lt W o _ (World.block_lt_of_cell? W _ z)).trans z))
  have f1 : decide (x.f3 < 0) = false := decide_eq_false (by omega)
  have f2 : decide ((m.length : Int) ≤ x.f3) = false := decide_eq_false (by omega)
  have f3 : decide (rd m x.f3 < 0) = true := decide_eq_true hr3
  clear h h0 h1 h2 hm hk z hr hr2
  go_enter Try.func50, Try.ntmps50
  go_wp2_with fail
  refine (eqS_calls (Kd.C_below H1.out.h1 (b3 _ _ _ _)) H1.out.l1 (Kd.C_below H2.out.h1 (b3 _ _ _ _)) H2.out.l1).mono ?_
  rintro e w1 ⟨rfl, ⟨n, rfl⟩⟩
  rw [H.out]
  rcases e34 with e3 | ⟨e3, e4⟩
  all_goals
    go_wp2_with fail
    go_quiet (fail)
    go_wp2_with fail
    go_ret
    exact ⟨by rw [hF.out]; rfl, pw_below_drewN (pw_below_drewN (b3 _ _ _ _) _) _⟩
theorem same_mne {m : List Int} {x y : S25} (h0 : x.f0 = y.f0) (h : x.f1 = y.f1) (hk : x.f0 = 20 ∨ x.f0 = 21) (hr : 0 ≤ x.f3) (hr2 : x.f3 < (m.length : Int)) (hr3 : 0 ≤ rd m x.f3) (hr4 : rd m x.f3 ≠ y.f3) : Same50 m x y := by
  intro W A1 c1 A2 c2 B1 d1 B2 d2 M cm h1 h2 hm hcm
  have hF := Aside0.mk (show sameT m x y = false by rw [sameT_eq, refOk, if_pos hk, decide_eq_false (p := 0 ≤ x.f3 ∧ _) (fun q => by omega)]; simp)
  have e1 : (x.f0 == y.f0) = true := beq_iff_eq.mpr h0
  have e2 : (x.f0 != y.f0) = false := bne_eq_false_iff_eq.mpr h0
  have e34 : (x.f0 == 20) = true ∨ ((x.f0 == 20) = false ∧ (x.f0 == 21) = true) := by
    by_cases e : x.f0 = 20
    · exact .inl (beq_iff_eq.mpr e)
    · exact .inr ⟨beq_eq_false_iff_ne.mpr e, beq_iff_eq.mpr (hk.resolve_left e)⟩
  have H1 := Aside0.mk h1
  have H2 := Aside0.mk h2
  have HM := Aside0.mk hm
  have H := Aside0.mk (decide_eq_true h)
  have hm0 : 0 ≤ x.f3 := by omega
  have hm1 : x.f3 < (m.length : Int) := by omega
  obtain ⟨ad, rfl, z⟩ := Kd.at_int hm x.f3 hm0 hm1
  have z' := fun o o' o'' => (World.cell?_alloc_lt ((W.alloc o).alloc o') o'' _ (by have := World.block_lt_of_cell? W _ z; simp; omega)).trans ((World.cell?_alloc_lt (W.alloc o) o' _ (by have := World.block_lt_of_cell? W _ z; simp; omega)).trans ((World.cell?_alloc_lt W o _ (World.block_lt_of_cell? W _ z)).trans z))
  have f1 : decide (x.f3 < 0) = false := decide_eq_false (by omega)
  have f2 : decide ((m.length : Int) ≤ x.f3) = false := decide_eq_false (by omega)
  have f3 : decide (rd m x.f3 < 0) = false := decide_eq_false (by omega)
  have f4 : (rd m x.f3 == y.f3) = false := beq_eq_false_iff_ne.mpr hr4
  have f5 : (rd m x.f3 != y.f3) = true := bne_iff_ne.mpr hr4
  clear h h0 h1 h2 hm hk z hr hr2 hr3 hr4
  go_enter Try.func50, Try.ntmps50
  go_wp2_with fail
  refine (eqS_calls (Kd.C_below H1.out.h1 (b3 _ _ _ _)) H1.out.l1 (Kd.C_below H2.out.h1 (b3 _ _ _ _)) H2.out.l1).mono ?_
  rintro e w1 ⟨rfl, ⟨n, rfl⟩⟩
  rw [H.out]
  rcases e34 with e3 | ⟨e3, e4⟩
  all_goals
    go_wp2_with fail
    go_quiet (fail)
    go_wp2_with fail
    go_ret
    exact ⟨by rw [hF.out]; rfl, pw_below_drewN (pw_below_drewN (b3 _ _ _ _) _) _⟩
set_option maxHeartbeats 2000000 in
theorem same_ok {m : List Int} {x y : S25} (h50 : ∀ x' ∈ x.f2, ∀ y', Same50 m x' y') (h0 : x.f0 = y.f0) (h : x.f1 = y.f1) (hk : x.f0 = 20 ∨ x.f0 = 21) (hr : 0 ≤ x.f3) (hr2 : x.f3 < (m.length : Int)) (hr3 : 0 ≤ rd m x.f3) (hr4 : rd m x.f3 = y.f3) : Same50 m x y := by
  intro W A1 c1 A2 c2 B1 d1 B2 d2 M cm h1 h2 hm hcm
  have hF := Aside0.mk (show sameT m x y = eqL (sameT m) x.f2 y.f2 by rw [sameT_eq, refOk, if_pos hk, decide_eq_true (p := 0 ≤ x.f3 ∧ _) ⟨hr, hr2, hr3, hr4⟩, decide_eq_true h, decide_eq_true h0]; simp)
  have e1 : (x.f0 == y.f0) = true := beq_iff_eq.mpr h0
  have e2 : (x.f0 != y.f0) = false := bne_eq_false_iff_eq.mpr h0
  have e34 : (x.f0 == 20) = true ∨ ((x.f0 == 20) = false ∧ (x.f0 == 21) = true) := by
    by_cases e : x.f0 = 20
    · exact .inl (beq_iff_eq.mpr e)
    · exact .inr ⟨beq_eq_false_iff_ne.mpr e, beq_iff_eq.mpr (hk.resolve_left e)⟩
  have H1 := Aside0.mk h1
  have H2 := Aside0.mk h2
  have HM := Aside0.mk hm
  have H := Aside0.mk (decide_eq_true h)
  have H50 := Aside0.mk h50
  have hm0 : 0 ≤ x.f3 := by omega
  have hm1 : x.f3 < (m.length : Int) := by omega
  obtain ⟨ad, rfl, z⟩ := Kd.at_int hm x.f3 hm0 hm1
  have z' := fun o o' o'' => (World.cell?_alloc_lt ((W.alloc o).alloc o') o'' _ (by have := World.block_lt_of_cell? W _ z; simp; omega)).trans ((World.cell?_alloc_lt (W.alloc o) o' _ (by have := World.block_lt_of_cell? W _ z; simp; omega)).trans ((World.cell?_alloc_lt W o _ (World.block_lt_of_cell? W _ z)).trans z))
  have f1 : decide (x.f3 < 0) = false := decide_eq_false (by omega)
  have f2 : decide ((m.length : Int) ≤ x.f3) = false := decide_eq_false (by omega)
  have f3 : decide (rd m x.f3 < 0) = false := decide_eq_false (by omega)
  have f4 : (rd m x.f3 == y.f3) = true := beq_iff_eq.mpr hr4
  have f5 : (rd m x.f3 != y.f3) = false := bne_eq_false_iff_eq.mpr hr4
  clear h h0 h1 h2 hm hk z hr hr2 hr3 hr4 h50
  go_enter Try.func50, Try.ntmps50
  go_wp2_with fail
  refine (eqS_calls (Kd.C_below H1.out.h1 (b3 _ _ _ _)) H1.out.l1 (Kd.C_below H2.out.h1 (b3 _ _ _ _)) H2.out.l1).mono ?_
  rintro e w1 ⟨rfl, ⟨n, rfl⟩⟩
  rw [H.out]
  rcases e34 with e3 | ⟨e3, e4⟩
  all_goals
    go_wp2_with fail
    go_quiet (fail)
    go_wp2_with fail
    by_cases hl : x.f2.length = y.f2.length
    · have HBn := Aside0.mk (pw_below_drewN (b3 W (.cells #[.int .i64 x.f0, .slice A1 x.f1.length c1, .slice A2 x.f2.length c2, .int .i64 x.f3] 25) (.cells #[.int .i64 y.f0, .slice B1 y.f1.length d1, .slice B2 y.f2.length d2, .int .i64 y.f3] 25) (.cells #[.slice (some ad) m.length cm] 28)) (n + nq))
      refine (ef_calls 74 (.inl rfl) _ (Kd.C_below H1.out.h2 HBn.out) (Kd.C_below H2.out.h2 HBn.out) (gives_of (.inl rfl) H50.out (Kd.C_below HM.out HBn.out) hcm (cell_third _ _ _ _ _ _)) hl).mono ?_
      rintro e w1 ⟨rfl, hb⟩
      have HB := Aside0.mk (below_step HBn.out hb)
      clear hb
      go_wp2_with fail
      go_ret
      exact ⟨by rw [hF.out]; rfl, HB.out⟩
    · refine (ef_len H1.out.h2.2.1 H2.out.h2.2.1 hl).mono ?_
      rintro e w1 ⟨rfl, rfl⟩
      have hF2 := Aside0.mk (hF.out.trans (eqL_len hl))
      clear hl
      go_wp2_with fail
      go_ret
      exact ⟨by rw [hF2.out]; rfl, by repeat (first | exact b3 _ _ _ _ | apply pw_below_drewN)⟩
theorem same50_step {m : List Int} {x y : S25} (h50 : ∀ x' ∈ x.f2, ∀ y', Same50 m x' y') : Same50 m x y := by
  by_cases h0 : x.f0 = y.f0
  · by_cases h : x.f1 = y.f1
    · by_cases hk : x.f0 = 20 ∨ x.f0 = 21
      · by_cases r1 : x.f3 < 0
        · exact same_neg h0 h hk r1
        · by_cases r2 : (m.length : Int) ≤ x.f3
          · exact same_out h0 h hk (by omega) r2
          · by_cases r3 : rd m x.f3 < 0
            · exact same_mneg h0 h hk (by omega) (by omega) r3
            · by_cases r4 : rd m x.f3 = y.f3
              · exact same_ok h50 h0 h hk (by omega) (by omega) (by omega) r4
              · exact same_mne h0 h hk (by omega) (by omega) (by omega) r4
      · by_cases hr : x.f3 = y.f3
        · exact same_ref_yes h50 h0 h hk hr
        · exact same_ref_no h0 h hk hr
    · exact same_names h0 h
  · exact same_kind h0
theorem same50 (m : List Int) : ∀ (n : Nat) (x : S25), SizeOf.sizeOf x ≤ n → ∀ y, Same50 m x y := by
  intro n
  induction n with
  | zero =>
    intro x hx
    cases x
    simp at hx
  | succ n ih =>
    intro x hx y
    refine same50_step (fun x' hx' y' => ih x' ?_ y')
    have h1 := List.sizeOf_lt_of_mem hx'
    have h2 : SizeOf.sizeOf x.f2 < SizeOf.sizeOf x := by
      cases x
      simp
      omega
    omega
theorem same_calls (m : List Int) (x y : S25) : Same50 m x y := same50 m _ x (Nat.le_refl _) y
/-- subtype.Same: function 15. -/
theorem Same_calls {m : List Int} {x y : S25} {W : World} {A1 : Option Addr} {c1 : Nat} {A2 : Option Addr} {c2 : Nat} {B1 : Option Addr} {d1 : Nat} {B2 : Option Addr} {d2 : Nat} {M : Option Addr} {cm : Nat}
    (h1 : TyAt W x A1 c1 A2 c2) (h2 : TyAt W y B1 d1 B2 d2) (hm : (Kd.int .i64).C W M m.length m) (hcm : m.length ≤ cm) :
    Calls Try.prog 15 #[.agg #[.int .i64 x.f0, .slice A1 x.f1.length c1, .slice A2 x.f2.length c2, .int .i64 x.f3], .agg #[.int .i64 y.f0, .slice B1 y.f1.length d1, .slice B2 y.f2.length d2, .int .i64 y.f3], .slice M m.length cm] W fun e w' => e = .returned (.bool (sameT m x y)) ∧ Below W.heap.size W w' := by
  have H1 := Aside0.mk h1
  have H2 := Aside0.mk h2
  have HM := Aside0.mk hm
  clear h1 h2 hm
  go_enter Try.func15, Try.ntmps15
  go_wp2_with fail
  have hb0 : ∀ o o', Below W.heap.size W ((W.alloc o).alloc o') := fun o o' => below_alloc (below_alloc (Below.refl _ _) _) _
  refine (same_calls m x y _ A1 c1 A2 c2 B1 d1 B2 d2 M cm (H1.out.below (hb0 _ _)) (H2.out.below (hb0 _ _)) (Kd.C_below HM.out (hb0 _ _)) hcm).mono ?_
  rintro e w1 ⟨rfl, hb⟩
  have HB := Aside0.mk (below_step (hb0 _ _) hb)
  clear hb hb0
  go_wp2_with fail
  go_ret
  exact ⟨rfl, HB.out⟩
end Go.Proofs.Ytmpmcffhlnlejaa.SubEq
end
section
namespace Go.Proofs.Ytmpmcffhlnlejaa.PSubFits
open Go.RowKit Go.Proofs.YtmpmcffhlnlejaaW.PrintWords Go.Proofs.YtmpmcffhlnlejaaW.PrintLast Go.Proofs.YtmpmcffhlnlejaaW.PrintMore
attribute [local go_sem] max2_int min2_int max_two min_two max_three min_three max_four min_four   -- for this text's walks alone
set_option linter.unusedVariables false
set_option linter.unusedSimpArgs false
end Go.Proofs.Ytmpmcffhlnlejaa.PSubFits
end
section
namespace Go.Proofs.Ytmpmcffhlnlejaa.PSubFits
open Go.RowKit Go.Proofs.YtmpmcffhlnlejaaW.PrintWords Go.Proofs.YtmpmcffhlnlejaaW.PrintLast Go.Proofs.YtmpmcffhlnlejaaW.PrintMore
attribute [local go_sem] max2_int min2_int max_two min_two max_three min_three max_four min_four   -- for this text's walks alone
set_option linter.unusedVariables false
set_option linter.unusedSimpArgs false
end Go.Proofs.Ytmpmcffhlnlejaa.PSubFits
end
section
namespace Go.Proofs.Ytmpmcffhlnlejaa.SubEq
open Go.RowKit Go.Proofs.YtmpmcffhlnlejaaW.PrintWords Go.Proofs.YtmpmcffhlnlejaaW.PrintLast Go.Proofs.YtmpmcffhlnlejaaW.PrintMore
open Go.Proofs.Ytmpmcffhlnlejaa.PSubFits
set_option linter.unusedVariables false
set_option linter.unusedSimpArgs false
end Go.Proofs.Ytmpmcffhlnlejaa.SubEq
end
section
namespace Go.Proofs.Ytmpmcffhlnlejaa.SubEq
open Go.RowKit Go.Proofs.YtmpmcffhlnlejaaW.PrintWords Go.Proofs.YtmpmcffhlnlejaaW.PrintLast Go.Proofs.YtmpmcffhlnlejaaW.PrintMore
open Go.Proofs.Ytmpmcffhlnlejaa.PSubFits
set_option linter.unusedVariables false
set_option linter.unusedSimpArgs false
/-- Two functions' types. -/
def sigsT (m : List Int) (a b : S27) : Bool := decide (a.f1 = b.f1) && sameT m a.f3 b.f3 && eqL (sameT m) a.f2 b.f2
/-- Where a function's value leads. -/
structure SigAt (w : World) (x : S27) (A1 : Option Addr) (c1 : Nat) (A2 : Option Addr) (c2 : Nat) (A4 : Option Addr) (c4 : Nat) (A5 : Option Addr) (c5 : Nat) : Prop where
  h1 : Kd.string.C w A1 x.f1.length x.f1
  l1 : x.f1.length ≤ c1
  h2 : k25.C w A2 x.f2.length x.f2
  l2 : x.f2.length ≤ c2
  t : TyAt w x.f3 A4 c4 A5 c5
theorem SigAt.below {w w' : World} {x : S27} {A1 : Option Addr} {c1 : Nat} {A2 : Option Addr} {c2 : Nat} {A4 : Option Addr} {c4 : Nat} {A5 : Option Addr} {c5 : Nat} (h : SigAt w x A1 c1 A2 c2 A4 c4 A5 c5) (hb : Below w.heap.size w w') : SigAt w' x A1 c1 A2 c2 A4 c4 A5 c5 :=
  ⟨Kd.C_below h.h1 hb, h.l1, Kd.C_below h.h2 hb, h.l2, h.t.below hb⟩
def Sigs17 (m : List Int) (x y : S27) : Prop :=
  ∀ (W : World) (A1 : Option Addr) (c1 : Nat) (A2 : Option Addr) (c2 : Nat) (A4 : Option Addr) (c4 : Nat) (A5 : Option Addr) (c5 : Nat) (B1 : Option Addr) (d1 : Nat) (B2 : Option Addr) (d2 : Nat) (B4 : Option Addr) (d4 : Nat) (B5 : Option Addr) (d5 : Nat) (M : Option Addr) (cm : Nat),
    SigAt W x A1 c1 A2 c2 A4 c4 A5 c5 → SigAt W y B1 d1 B2 d2 B4 d4 B5 d5 → (Kd.int .i64).C W M m.length m → m.length ≤ cm →
    Calls Try.prog 17 #[.agg #[.string x.f0, .slice A1 x.f1.length c1, .slice A2 x.f2.length c2, .int .i64 x.f3.f0, .slice A4 x.f3.f1.length c4, .slice A5 x.f3.f2.length c5, .int .i64 x.f3.f3],
      .agg #[.string y.f0, .slice B1 y.f1.length d1, .slice B2 y.f2.length d2, .int .i64 y.f3.f0, .slice B4 y.f3.f1.length d4, .slice B5 y.f3.f2.length d5, .int .i64 y.f3.f3], .slice M m.length cm] W fun e w' => e = .returned (.bool (sigsT m x y)) ∧ Below W.heap.size W w'
theorem cell_b1 (W : World) (cs : Array Value) (t : TypeId) (o' o'' : Obj) (n i : Nat) : ((((W.alloc (.cells cs t)).alloc o').alloc o'').drewN n).cell? ⟨W.heap.size, i, none⟩ = cs[i]? :=
  blk_cell (blk_drewN (blk_alloc (blk_alloc (blk_new W (.cells cs t)) o') o'') n) i
theorem cell_b2 (W : World) (o : Obj) (cs : Array Value) (t : TypeId) (o'' : Obj) (n i : Nat) : ((((W.alloc o).alloc (.cells cs t)).alloc o'').drewN n).cell? ⟨W.heap.size + 1, i, none⟩ = cs[i]? := by
  have h := blk_new (W.alloc o) (.cells cs t)
  simp only [World.size_alloc] at h
  exact blk_cell (blk_drewN (blk_alloc h o'') n) i
theorem lt_b3 (W : World) (o o' o'' : Obj) (n k : Nat) (h : k < 3) : W.heap.size + k < ((((W.alloc o).alloc o').alloc o'').drewN n).heap.size := by
  show W.heap.size + k < (((W.alloc o).alloc o').alloc o'').heap.size
  simp
  omega
set_option maxHeartbeats 2000000 in
theorem sigs_calls (m : List Int) (x y : S27) : Sigs17 m x y := by
  intro W A1 c1 A2 c2 A4 c4 A5 c5 B1 d1 B2 d2 B4 d4 B5 d5 M cm h1 h2 hm hcm
  have H1 := Aside0.mk h1
  have H2 := Aside0.mk h2
  have HM := Aside0.mk hm
  clear h1 h2 hm
  by_cases hn : x.f1 = y.f1
  · by_cases hs : sameT m x.f3 y.f3 = true
    · have HR := Aside0.mk (show sigsT m x y = eqL (sameT m) x.f2 y.f2 by rw [sigsT, hs, decide_eq_true hn]; simp)
      have HN := Aside0.mk (decide_eq_true hn)
      have HS := Aside0.mk hs
      clear hn hs
      go_enter Try.func17, Try.ntmps17
      go_wp2_with fail
      refine (eqS_calls (Kd.C_below H1.out.h1 (b3 _ _ _ _)) H1.out.l1 (Kd.C_below H2.out.h1 (b3 _ _ _ _)) H2.out.l1).mono ?_
      rintro e w1 ⟨rfl, ⟨n, rfl⟩⟩
      rw [HN.out]
      go_wp2_with fail
      have HBn := Aside0.mk (pw_below_drewN (b3 W (.cells #[.string x.f0, .slice A1 x.f1.length c1, .slice A2 x.f2.length c2, .int .i64 x.f3.f0, .slice A4 x.f3.f1.length c4, .slice A5 x.f3.f2.length c5, .int .i64 x.f3.f3] 27) (.cells #[.string y.f0, .slice B1 y.f1.length d1, .slice B2 y.f2.length d2, .int .i64 y.f3.f0, .slice B4 y.f3.f1.length d4, .slice B5 y.f3.f2.length d5, .int .i64 y.f3.f3] 27) (.cells #[.slice M m.length cm] 28)) n)
      refine (same_calls m x.f3 y.f3 _ A4 c4 A5 c5 B4 d4 B5 d5 M cm (H1.out.t.below HBn.out) (H2.out.t.below HBn.out) (Kd.C_below HM.out HBn.out) hcm).mono ?_
      rintro e w1 ⟨rfl, hb⟩
      rw [HS.out]
      have z1 := (hb.cell (p := ⟨W.heap.size, 2, none⟩) (lt_b3 W _ _ _ n 0 (by omega))).trans ((cell_b1 W _ _ _ _ n 2).trans rfl)
      have z2 := (hb.cell (p := ⟨W.heap.size + 1, 2, none⟩) (lt_b3 W _ _ _ n 1 (by omega))).trans ((cell_b2 W _ _ _ _ n 2).trans rfl)
      have z3 := (hb.cell (p := ⟨W.heap.size + 1 + 1, 0, none⟩) (lt_b3 W _ _ _ n 2 (by omega))).trans (cell_third W _ _ _ _ n)
      have HB := Aside0.mk (below_step HBn.out hb)
      clear hb HBn
      go_wp2_with fail
      have Z3 := Aside0.mk z3
      clear z1 z2 z3
      by_cases hl : x.f2.length = y.f2.length
      · refine (ef_calls 53 (.inr rfl) _ (Kd.C_below H1.out.h2 HB.out) (Kd.C_below H2.out.h2 HB.out) (gives_of (.inr rfl) (fun x' _ y' => same_calls m x' y') (Kd.C_below HM.out HB.out) hcm Z3.out) hl).mono ?_
        rintro e w2 ⟨rfl, hb⟩
        have HB2 := Aside0.mk (below_step HB.out hb)
        clear hb
        go_wp2_with fail
        go_ret
        exact ⟨by rw [HR.out]; rfl, HB2.out⟩
      · refine (ef_len H1.out.h2.2.1 H2.out.h2.2.1 hl).mono ?_
        rintro e w2 ⟨rfl, rfl⟩
        have hF2 := Aside0.mk (HR.out.trans (eqL_len hl))
        clear hl
        go_wp2_with fail
        go_ret
        exact ⟨by rw [hF2.out]; rfl, HB.out⟩
    · have hs' : sameT m x.f3 y.f3 = false := Bool.eq_false_iff.mpr hs
      have HR := Aside0.mk (show sigsT m x y = false by rw [sigsT, hs']; simp)
      have HN := Aside0.mk (decide_eq_true hn)
      have HS := Aside0.mk hs'
      clear hn hs hs'
      go_enter Try.func17, Try.ntmps17
      go_wp2_with fail
      refine (eqS_calls (Kd.C_below H1.out.h1 (b3 _ _ _ _)) H1.out.l1 (Kd.C_below H2.out.h1 (b3 _ _ _ _)) H2.out.l1).mono ?_
      rintro e w1 ⟨rfl, ⟨n, rfl⟩⟩
      rw [HN.out]
      go_wp2_with fail
      have HBn := Aside0.mk (pw_below_drewN (b3 W (.cells #[.string x.f0, .slice A1 x.f1.length c1, .slice A2 x.f2.length c2, .int .i64 x.f3.f0, .slice A4 x.f3.f1.length c4, .slice A5 x.f3.f2.length c5, .int .i64 x.f3.f3] 27) (.cells #[.string y.f0, .slice B1 y.f1.length d1, .slice B2 y.f2.length d2, .int .i64 y.f3.f0, .slice B4 y.f3.f1.length d4, .slice B5 y.f3.f2.length d5, .int .i64 y.f3.f3] 27) (.cells #[.slice M m.length cm] 28)) n)
      refine (same_calls m x.f3 y.f3 _ A4 c4 A5 c5 B4 d4 B5 d5 M cm (H1.out.t.below HBn.out) (H2.out.t.below HBn.out) (Kd.C_below HM.out HBn.out) hcm).mono ?_
      rintro e w1 ⟨rfl, hb⟩
      rw [HS.out]
      have HB := Aside0.mk (below_step HBn.out hb)
      clear hb HBn
      go_wp2_with fail
      go_ret
      exact ⟨by rw [HR.out]; rfl, HB.out⟩
  · have HR := Aside0.mk (show sigsT m x y = false by rw [sigsT, decide_eq_false hn]; simp)
    have HN := Aside0.mk (decide_eq_false hn)
    clear hn
    go_enter Try.func17, Try.ntmps17
    go_wp2_with fail
    refine (eqS_calls (Kd.C_below H1.out.h1 (b3 _ _ _ _)) H1.out.l1 (Kd.C_below H2.out.h1 (b3 _ _ _ _)) H2.out.l1).mono ?_
    rintro e w1 ⟨rfl, ⟨n, rfl⟩⟩
    rw [HN.out]
    go_wp2_with fail
    go_ret
    exact ⟨by rw [HR.out]; rfl, pw_below_drewN (b3 _ _ _ _) _⟩
end Go.Proofs.Ytmpmcffhlnlejaa.SubEq
end
