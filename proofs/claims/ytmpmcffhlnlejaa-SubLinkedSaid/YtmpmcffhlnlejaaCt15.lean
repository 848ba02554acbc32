/- A part of the proof of the law that its last file names: texts of this seat's author and of the kit's printer, cut to what the theorem uses. Part 15: Mk13s, Slf1, Mk7. -/
import Derived.Test.YtmpmcffhlnlejaaCt14
section
namespace Go.Proofs.Ytmpmcffhlnlejaa.Mkr
open Go.RowKit Go.Proofs.YtmpmcffhlnlejaaW.PrintWords Go.Proofs.YtmpmcffhlnlejaaW.PrintLast Go.Proofs.YtmpmcffhlnlejaaW.PrintMore
open Go.Proofs.Ytmpmcffhlnlejaa.PSubSelf Go.Proofs.Ytmpmcffhlnlejaa.Wld
set_option linter.unusedVariables false
set_option linter.unusedSimpArgs false
def texts (key : ByteArray) (ds : List S154) : List ByteArray := impOf key ⟨#[]⟩ :: expOf key ⟨#[]⟩ :: (ds.map (fun d => impOf key d.f1) ++ ds.map (fun d => expOf key d.f1))
def allTexts (P : List S120) (wd : S125) : List ByteArray := texts ⟨#[]⟩ wd.f2 ++ P.flatMap (fun q => q.f3.flatMap (fun x => texts (keyA q x) x.f2 ++ texts (keyV q x) x.f2))
theorem texts_has {h : Hd} {key : ByteArray} {ds : List S154} (ht : ∀ t ∈ texts key ds, t ∈ h.T) : h.Has key ds := by
  refine ⟨fun d hd => ⟨ht _ ?_, ht _ ?_⟩, ht _ ?_, ht _ ?_⟩
  · exact List.mem_cons_of_mem _ (List.mem_cons_of_mem _ (List.mem_append_left _ (List.mem_map_of_mem hd)))
  · exact List.mem_cons_of_mem _ (List.mem_cons_of_mem _ (List.mem_append_right _ (List.mem_map_of_mem hd)))
  · exact List.mem_cons_self
  · exact List.mem_cons_of_mem _ List.mem_cons_self
theorem texts_len (key : ByteArray) (ds : List S154) (hd : ds.length ≤ 64) : (texts key ds).length ≤ 130 := by
  simp [texts]
  omega
theorem flat_len {α β : Type} {n : Nat} : ∀ (l : List α) (f : α → List β), (∀ x ∈ l, (f x).length ≤ n) → (l.flatMap f).length ≤ l.length * n
  | [], f, h => by simp
  | x :: l, f, h => by
    have h1 := h x List.mem_cons_self
    have h2 := flat_len l f (fun y hy => h y (List.mem_cons_of_mem _ hy))
    rw [List.flatMap_cons, List.length_append, List.length_cons, Nat.add_mul]
    omega
/-- A resource's text. -/
def Txt (t : ByteArray) : Prop := ∃ key n : ByteArray, (t = impOf key n ∨ t = expOf key n) ∧ key.size ≤ 1000 ∧ n.size ≤ 100
theorem texts_txt {key : ByteArray} {ds : List S154} (hk : key.size ≤ 1000) (hd : ∀ d ∈ ds, d.f1.size ≤ 100) : ∀ t ∈ texts key ds, Txt t := by
  intro t ht
  rcases List.mem_cons.1 ht with rfl | ht
  · exact ⟨key, ⟨#[]⟩, .inl rfl, hk, by decide⟩
  rcases List.mem_cons.1 ht with rfl | ht
  · exact ⟨key, ⟨#[]⟩, .inr rfl, hk, by decide⟩
  rcases List.mem_append.1 ht with ht | ht
  · obtain ⟨d, hdm, rfl⟩ := List.mem_map.1 ht
    exact ⟨key, d.f1, .inl rfl, hk, hd d hdm⟩
  · obtain ⟨d, hdm, rfl⟩ := List.mem_map.1 ht
    exact ⟨key, d.f1, .inr rfl, hk, hd d hdm⟩
theorem keyA_size {q : S120} {x : S142} (hq : WfP q) (hx : WfI x) : (keyA q x).size ≤ 302 := by
  have h1 := hq.sp
  have h2 := hq.nm
  have h3 := hx.nm
  unfold keyA
  simp only [ByteArray.size_append]
  show q.f0.size + 1 + q.f1.size + 1 + x.f0.size ≤ 302
  omega
theorem keyV_size {q : S120} {x : S142} (hq : WfP q) (hx : WfI x) : (keyV q x).size ≤ 333 := by
  have h1 := keyA_size hq hx
  have h2 := hq.ve
  unfold keyV
  simp only [ByteArray.size_append]
  show (keyA q x).size + 1 + q.f2.size ≤ 333
  omega
theorem all_txt {P : List S120} {wd : S125} (hP : ∀ q ∈ P, WfP q) (hw : WfW wd) : ∀ t ∈ allTexts P wd, Txt t := by
  intro t ht
  rcases List.mem_append.1 ht with ht | ht
  · exact texts_txt (by decide) (fun d hd => (hw.h.ds d hd).nm) t ht
  · obtain ⟨q, hq, ht⟩ := List.mem_flatMap.1 ht
    obtain ⟨x, hx, ht⟩ := List.mem_flatMap.1 ht
    have wx := (hP q hq).is x hx
    rcases List.mem_append.1 ht with ht | ht
    · exact texts_txt (Nat.le_trans (keyA_size (hP q hq) wx) (by decide)) (fun d hd => (wx.h.ds d hd).nm) t ht
    · exact texts_txt (Nat.le_trans (keyV_size (hP q hq) wx) (by decide)) (fun d hd => (wx.h.ds d hd).nm) t ht
theorem all_len {P : List S120} {wd : S125} (hP : ∀ q ∈ P, WfP q) (hw : WfW wd) (n5 : P.length ≤ 5) : (allTexts P wd).length ≤ 1000000 := by
  have h1 := texts_len ⟨#[]⟩ wd.f2 hw.h.dl
  have h2 : (P.flatMap (fun q => q.f3.flatMap (fun x => texts (keyA q x) x.f2 ++ texts (keyV q x) x.f2))).length ≤ P.length * (64 * 260) := flat_len P _ (fun q hq => by
    have h3 := flat_len (n := 260) q.f3 (fun x => texts (keyA q x) x.f2 ++ texts (keyV q x) x.f2) (fun x hx => by
      rw [List.length_append]
      have a := texts_len (keyA q x) x.f2 ((hP q hq).is x hx).h.dl
      have b := texts_len (keyV q x) x.f2 ((hP q hq).is x hx).h.dl
      omega)
    have h4 := (hP q hq).il
    exact Nat.le_trans h3 (Nat.mul_le_mul_right _ h4))
  unfold allTexts
  rw [List.length_append]
  have h5 := Nat.mul_le_mul_right (64 * 260) n5
  omega
def hdOf (P : List S120) (A : Option Addr) (c pkg : Nat) (wd : S125) (U : Option Addr) (cU : Nat) (D : Option Addr) (cD : Nat) (I : Option Addr) (cI : Nat) (O : Option Addr) (cO : Nat) (w : World) : Hd :=
  ⟨P, A, c, pkg, wd, U, cU, D, cD, I, cI, O, cO, w, allTexts P wd⟩
theorem hd_ok {P : List S120} {A : Option Addr} {c pkg : Nat} {wd : S125} {U : Option Addr} {cU : Nat} {D : Option Addr} {cD : Nat} {I : Option Addr} {cI : Nat} {O : Option Addr} {cO : Nat} {w : World}
    (hP : k120.C w A P.length P) (hU : k151.C w U wd.f1.length wd.f1) (hD : k154.C w D wd.f2.length wd.f2) (hI : k157.C w I wd.f3.length wd.f3) (hO : k157.C w O wd.f4.length wd.f4)
    (right : ∀ q ∈ P, WfP q) (ww : WfW wd) (pk : pkg < P.length) (n5 : P.length ≤ 5) : (hdOf P A c pkg wd U cU D cD I cI O cO w).Ok where
  hP := hP
  hU := hU
  hD := hD
  hI := hI
  hO := hO
  right := right
  ww := ww
  pk := pk
  n5 := n5
  ti := fun q hq x hx => ⟨texts_has (fun t ht => List.mem_append_right _ (List.mem_flatMap.2 ⟨q, hq, List.mem_flatMap.2 ⟨x, hx, List.mem_append_left _ ht⟩⟩)),
    texts_has (fun t ht => List.mem_append_right _ (List.mem_flatMap.2 ⟨q, hq, List.mem_flatMap.2 ⟨x, hx, List.mem_append_right _ ht⟩⟩))⟩
  tw := texts_has (fun t ht => List.mem_append_left _ ht)
  tl := all_len right ww n5
open Go.Proofs.Ytmpmcffhlnlejaa.SubEq in
/-- What a world comes to. -/
structure GoodC (a : Con) : Prop where
  nd : a.res.Nodup
  tx : ∀ t ∈ a.res, Txt t
  gi : ∀ x ∈ a.ins, GoodS a.res.length x
  go : ∀ x ∈ a.outs, GoodS a.res.length x
  ni : (a.ins.map (·.f0)).Nodup
  no : (a.outs.map (·.f0)).Nodup
  li : a.ins.length ≤ 200
  lo : a.outs.length ≤ 200
  lr : a.res.length ≤ 1000000
open Go.Proofs.Ytmpmcffhlnlejaa.SubEq in
/-- A made contract: its rows. -/
structure ConR (w : World) (base : Nat) (a : Con) (A1 : Option Addr) (c1 : Nat) (A2 : Option Addr) (c2 : Nat) (A3 : Option Addr) (c3 : Nat) : Prop where
  r1 : Kd.string.R 9 w base (fun _ => True) (.slice A1 a.res.length c1) a.res
  r2 : PSubFits.k27.R 27 w base (fun _ => True) (.slice A2 a.ins.length c2) a.ins
  r3 : PSubFits.k27.R 27 w base (fun _ => True) (.slice A3 a.outs.length c3) a.outs
section
open Go.Proofs.Ytmpmcffhlnlejaa.SubEq
variable {w w' : World} {base : Nat} {a : Con} {A1 : Option Addr} {c1 : Nat} {A2 : Option Addr} {c2 : Nat} {A3 : Option Addr} {c3 : Nat}
theorem ConR.toAt (h : ConR w base a A1 c1 A2 c2 A3 c3) : ConAt w a A1 c1 A2 c2 A3 c3 := ⟨(Kd.R_reads' h.r1).2.2, (Kd.R_reads' h.r1).2.1, (Kd.R_reads' h.r2).2.2, (Kd.R_reads' h.r2).2.1, (Kd.R_reads' h.r3).2.2, (Kd.R_reads' h.r3).2.1⟩
theorem ConR.below (h : ConR w base a A1 c1 A2 c2 A3 c3) (hb : Below w.heap.size w w') : ConR w' base a A1 c1 A2 c2 A3 c3 := ⟨Kd.R_below h.r1 hb, Kd.R_below h.r2 hb, Kd.R_below h.r3 hb⟩
theorem ConR.lower {base' : Nat} (h : ConR w base a A1 c1 A2 c2 A3 c3) (hb : base' ≤ base) : ConR w base' a A1 c1 A2 c2 A3 c3 := ⟨Kd.R_lower h.r1 hb, Kd.R_lower h.r2 hb, Kd.R_lower h.r3 hb⟩
theorem ConR.set (h : ConR w base a A1 c1 A2 c2 A3 c3) {g : Nat} {cs : Array Value} (hb : w.heap[g]? = some (.cells cs 40 (0, 0))) (j : Nat) (u : Value) : ConR (w.setCell ⟨g, j, none⟩ u) base a A1 c1 A2 c2 A3 c3 :=
  ⟨Kd.R_set h.r1 hb (by decide) j u, Kd.R_set h.r2 hb (by decide) j u, Kd.R_set h.r3 hb (by decide) j u⟩
theorem ConR.nil (w : World) (base : Nat) : ConR w base ⟨[], [], []⟩ none 0 none 0 none 0 := ⟨Kd.R_nil _ _ _ _ _, Kd.R_nil _ _ _ _ _, Kd.R_nil _ _ _ _ _⟩
end
open Go.Proofs.Ytmpmcffhlnlejaa.SubEq in
def WorldOk (w : World) (r : Ending) (w' : World) : Prop :=
  ∃ (a : Con) (A1 : Option Addr) (c1 : Nat) (A2 : Option Addr) (c2 : Nat) (A3 : Option Addr) (c3 : Nat) (e : Int),
    r = .returned (.tuple #[.agg #[.slice A1 a.res.length c1, .slice A2 a.ins.length c2, .slice A3 a.outs.length c3], .int .i64 e]) ∧ Below w.heap.size w w' ∧ ConR w' w.heap.size a A1 c1 A2 c2 A3 c3 ∧ (e = 0 → GoodC a)
end Go.Proofs.Ytmpmcffhlnlejaa.Mkr
end
section
namespace Go.Proofs.Ytmpmcffhlnlejaa.Slf
open Go.RowKit Go.Proofs.YtmpmcffhlnlejaaW.PrintWords
open Go.Proofs.Ytmpmcffhlnlejaa.SubEq Go.Proofs.Ytmpmcffhlnlejaa.PSubFits Go.Proofs.Ytmpmcffhlnlejaa.Mkr
set_option linter.unusedVariables false
set_option linter.unusedSimpArgs false
theorem ixB_self : ∀ {a : List ByteArray}, a.Nodup → ∀ {i : Nat} (hi : i < a.length), ixB a[i] a = (i : Int)
  | x :: xs, nd, 0, hi => by simp [ixB]
  | x :: xs, nd, i + 1, hi => by
    have nd2 := List.nodup_cons.1 nd
    have hi2 : i < xs.length := by simpa using hi
    have hx : x ≠ xs[i] := fun e => nd2.1 (e ▸ List.getElem_mem hi2)
    have ih := ixB_self nd2.2 hi2
    show ixB xs[i] (x :: xs) = _
    unfold ixB
    rw [if_neg hx, ih, if_neg (by omega)]
    omega
theorem rd_map {a : List ByteArray} {T : ByteArray → Option ByteArray} {b : List ByteArray} {i : Nat} (hi : i < a.length) {t : ByteArray} (ht : T a[i] = some t) : rd (pairsF T a b) (i : Int) = ixB t b := by
  have : rd (pairsF T a b) (i : Int) = (pairsF T a b).getD i 0 := rfl
  rw [this]
  simp [pairsF, List.getD, hi, ht]
theorem pairs_len {a : List ByteArray} {T : ByteArray → Option ByteArray} {b : List ByteArray} : (pairsF T a b).length = a.length := by simp [pairsF]
/-- A type whose resources are such. -/
inductive RT (q : Int → Prop) : S25 → Prop
  | mk {x : S25} (hr : x.f0 = 20 ∨ x.f0 = 21 → q x.f3) (hs : ∀ y ∈ x.f2, RT q y) : RT q x
/-- The numbers that stand for themselves. -/
def Own (m : List Int) (q : Int → Prop) : Prop := ∀ r : Int, q r → 0 ≤ r ∧ r < (m.length : Int) ∧ rd m r = r
theorem eqL_self {F : S25 → S25 → Bool} : ∀ {l : List S25}, (∀ y ∈ l, F y y = true) → eqL F l l = true
  | [], _ => rfl
  | x :: xs, h => by
    show (F x x && eqL F xs xs) = true
    rw [h x List.mem_cons_self, eqL_self (fun y hy => h y (List.mem_cons_of_mem _ hy))]
    rfl
theorem sameT_self {m : List Int} {q : Int → Prop} (ho : Own m q) : ∀ {y : S25}, RT q y → sameT m y y = true := by
  intro y h
  induction h with
  | @mk x hr hs ih =>
    have h1 : refOk m x.f0 x.f3 x.f3 = true := by
      unfold refOk
      split
      · next hk =>
        obtain ⟨a, b, c⟩ := ho _ (hr hk)
        exact decide_eq_true ⟨a, b, by rw [c]; exact a, c⟩
      · exact decide_eq_true rfl
    rw [sameT_eq, h1, eqL_self ih]
    simp
def RS (q : Int → Prop) (x : S27) : Prop := (∀ y ∈ x.f2, RT q y) ∧ RT q x.f3
theorem sigsT_self {m : List Int} {q : Int → Prop} (ho : Own m q) {x : S27} (h : RS q x) : sigsT m x x = true := by
  unfold sigsT
  rw [sameT_self ho h.2, eqL_self (fun y hy => sameT_self ho (h.1 y hy))]
  simp
theorem find_self : ∀ {l : List S27}, (l.map (·.f0)).Nodup → ∀ {x : S27}, x ∈ l → l.find? (fun y => decide (y.f0 = x.f0)) = some x
  | a :: l, nd, x, hx => by
    have nd2 := List.nodup_cons.1 nd
    by_cases e : a.f0 = x.f0
    · rcases List.mem_cons.1 hx with rfl | hx
      · simp [List.find?]
      · exact absurd (List.mem_map.2 ⟨x, hx, e.symm⟩) nd2.1
    · rcases List.mem_cons.1 hx with rfl | hx
      · exact absurd rfl e
      · rw [List.find?_cons_of_neg (by simpa using e)]
        exact find_self nd2.2 hx
theorem allF_pre {among : List S27} {m : List Int} : ∀ {l rest : List S27}, (∀ x ∈ l, among.find? (fun y => decide (y.f0 = x.f0)) = some x ∧ sigsT m x x = true) → allF among m (l ++ rest) = allF among m rest
  | [], _, _ => rfl
  | x :: xs, rest, h => by
    obtain ⟨h1, h2⟩ := h x List.mem_cons_self
    show allF among m (x :: (xs ++ rest)) = _
    rw [allF, h1]
    simp only [h2, if_true]
    exact allF_pre (fun y hy => h y (List.mem_cons_of_mem _ hy))
theorem allF_all {among l : List S27} {m : List Int} {q : Int → Prop} (ho : Own m q) (nd : (among.map (·.f0)).Nodup) (hl : ∀ x ∈ l, x ∈ among ∧ RS q x) : allF among m l = 0 := by
  have := allF_pre (among := among) (m := m) (l := l) (rest := []) (fun x hx => ⟨find_self nd (hl x hx).1, sigsT_self ho (hl x hx).2⟩)
  rw [List.append_nil] at this
  rw [this]
  rfl
variable {k : Nat}
end Go.Proofs.Ytmpmcffhlnlejaa.Slf
end
section
namespace Go.Proofs.Ytmpmcffhlnlejaa.Mkr
open Go.RowKit Go.Proofs.YtmpmcffhlnlejaaW.PrintWords Go.Proofs.YtmpmcffhlnlejaaW.PrintLast Go.Proofs.YtmpmcffhlnlejaaW.PrintMore
open Go.Proofs.Ytmpmcffhlnlejaa.PSubSelf Go.Proofs.Ytmpmcffhlnlejaa.Wld
set_option linter.unusedVariables false
set_option linter.unusedSimpArgs false
theorem rdElF25 {l : List PSubFits.S25} {k : Nat} (hk : k < l.length) : PSubFits.rd_T25 l (k : Int) = l[k] := by simp [PSubFits.rd_T25, List.getD, hk]
theorem elF25 {w : World} {A : Option Addr} {l : List PSubFits.S25} (h : Kd.C PSubFits.k25 w A l.length l) {k : Nat} (hk : k < l.length) :
    ∃ ad A1 c1 A2 c2, A = some ad ∧ (∀ w' : World, Below w.heap.size w w' → w'.cell? (ad.add (k * 4)) = some (.int .i64 l[k].f0) ∧ w'.cell? ⟨(ad.add (k * 4)).block, (ad.add (k * 4)).off + 1, none⟩ = some (.slice A1 l[k].f1.length c1) ∧ w'.cell? ⟨(ad.add (k * 4)).block, (ad.add (k * 4)).off + 2, none⟩ = some (.slice A2 l[k].f2.length c2) ∧ w'.cell? ⟨(ad.add (k * 4)).block, (ad.add (k * 4)).off + 3, none⟩ = some (.int .i64 l[k].f3)) ∧ l[k].f1.length ≤ c1 ∧ Kd.string.C w A1 l[k].f1.length l[k].f1 ∧ l[k].f2.length ≤ c2 ∧ PSubFits.k25.C w A2 l[k].f2.length l[k].f2 := by
  obtain ⟨ad, A1, c1, A2, c2, hae, x0, x1, x2, x3, y0, y1, y2, y3⟩ := PSubFits.at_T25 h (k : Int) (by omega) (by omega)
  rw [rdElF25 hk] at x0 x1 x2 x3 y0 y1 y2 y3
  rw [Int.toNat_natCast] at x0 x1 x2 x3
  exact ⟨ad, A1, c1, A2, c2, hae, fun w' hb => ⟨cell_keep x0 hb, cell_keep x1 hb, cell_keep x2 hb, cell_keep x3 hb⟩, y0, y1, y2, y3⟩
set_option maxHeartbeats 8000000 in
set_option maxRecDepth 100000 in
theorem lends_all : ∀ (n : Nat) (y : PSubFits.S25), SizeOf.sizeOf y ≤ n → ∀ (w : World) (A1 : Option Addr) (c1 : Nat) (A2 : Option Addr) (c2 : Nat), PSubFits.k25.C w A2 y.f2.length y.f2 →
    Calls Try.prog 105 #[.agg #[.int .i64 y.f0, .slice A1 y.f1.length c1, .slice A2 y.f2.length c2, .int .i64 y.f3]] w (BoolOk w) := by
  intro n
  induction n with
  | zero =>
    intro y hy
    cases y
    simp at hy
  | succ n ih =>
    intro y hy w A1 c1 A2 c2 hl
    have HL := Aside0.mk hl
    have hm := hl.2.1
    have HIH := Aside0.mk (fun (z : PSubFits.S25) (hz : z ∈ y.f2) => ih z (by
      have h1 := List.sizeOf_lt_of_mem hz
      cases y
      simp at h1 hy ⊢
      omega))
    clear hl ih hy
    have HB0 := Aside0.mk (below_alloc (Below.refl w.heap.size w) (.cells #[.int .i64 y.f0, .slice A1 y.f1.length c1, .slice A2 y.f2.length c2, .int .i64 y.f3] 25))
    have HK0 := Aside0.mk (blk_new w (.cells #[.int .i64 y.f0, .slice A1 y.f1.length c1, .slice A2 y.f2.length c2, .int .i64 y.f3] 25))
    go_enter Try.func105, Try.ntmps105
    go_wp2_with fail
    go_loopw [3] (fun v3 wr => ∃ k : Nat, k ≤ y.f2.length ∧ v3 = .int .i64 k ∧ Aside0 (Below w.heap.size w wr) ∧ Aside0 (wr.heap[w.heap.size]? = some (.cells #[.int .i64 y.f0, .slice A1 y.f1.length c1, .slice A2 y.f2.length c2, .int .i64 y.f3] 25 (0, 0)))) (fun v3 _ => y.f2.length - (intOf v3).toNat)
    case atStart => exact ⟨0, Nat.zero_le _, rfl, HB0, HK0⟩
    case round =>
      clear HB0 HK0
      obtain ⟨k, hk, rfl, HB, HK⟩ := hrel
      have z0 : wr.cell? ⟨w.heap.size, 0, none⟩ = some (.int .i64 y.f0) := (blk_cell HK.out 0).trans rfl
      have z2 : wr.cell? ⟨w.heap.size, 2, none⟩ = some (.slice A2 y.f2.length c2) := (blk_cell HK.out 2).trans rfl
      by_cases hlt : k < y.f2.length
      · obtain ⟨ad, B1, d1, B2, d2, hae, hx, l1, g1, l2, g2⟩ := elF25 HL.out hlt
        rw [hae] at z2
        obtain ⟨x0, x1, x2, x3⟩ := hx wr HB.out
        have HI := Aside0.mk (HIH.out y.f2[k] (List.getElem_mem hlt))
        have HC := Aside0.mk (Kd.C_below g2 HB.out)
        clear hx l1 g1 l2 g2 hae
        generalize y.f2[k] = x at *
        go_wp2_with fail
        refine (HI.out wr B1 d1 B2 d2 HC.out).mono ?_
        rintro e w1 ⟨⟨b, rfl⟩, hb⟩
        have HB1 := Aside0.mk (below_step HB.out hb)
        have HK1 := Aside0.mk (blk_below HK.out hb)
        clear hb HB HK z0 z2 x0 x1 x2 x3
        cases b with
        | true =>
          go_wp2_with fail
          go_ret
          exact ⟨⟨_, rfl⟩, HB1.out⟩
        | false =>
          go_wp2_with fail
          go_roundw
          case rel => exact ⟨k + 1, by omega, by go_num, HB1, HK1⟩
          case measure => simp [intOf]; omega
      · obtain rfl : k = y.f2.length := by omega
        go_wp2_with fail
        go_ret
        exact ⟨⟨_, rfl⟩, HB.out⟩
theorem lends_any (y : PSubFits.S25) (w : World) (A1 : Option Addr) (c1 : Nat) (A2 : Option Addr) (c2 : Nat) (hl : PSubFits.k25.C w A2 y.f2.length y.f2) :
    Calls Try.prog 105 #[.agg #[.int .i64 y.f0, .slice A1 y.f1.length c1, .slice A2 y.f2.length c2, .int .i64 y.f3]] w (BoolOk w) := lends_all _ y (Nat.le_refl _) w A1 c1 A2 c2 hl
end Go.Proofs.Ytmpmcffhlnlejaa.Mkr
end
