/- Contracts of slices.EqualFunc, subtype.same, Same and Sigs: each returns what the plain Lean function says, and leaves all that lay in memory as it was. -/
import Derived.Test.YtmpmcffhlnlejaaPSubFitsx1
namespace Go.Proofs.Ytmpmcffhlnlejaa.SubEq
open Go.RowKit Go.Proofs.YtmpmcffhlnlejaaW.PrintWords Go.Proofs.YtmpmcffhlnlejaaW.PrintLast Go.Proofs.YtmpmcffhlnlejaaW.PrintMore
open Go.Proofs.Ytmpmcffhlnlejaa.PSubFits
set_option linter.unusedVariables false
set_option linter.unusedSimpArgs false

/-- The value of a type, by its cells. -/
def tyV (x : S25) (A1 : Option Addr) (c1 : Nat) (A2 : Option Addr) (c2 : Nat) : Value :=
  .agg #[.int .i64 x.f0, .slice A1 x.f1.length c1, .slice A2 x.f2.length c2, .int .i64 x.f3]

/-- What a type's value says of memory. -/
structure TyAt (w : World) (x : S25) (A1 : Option Addr) (c1 : Nat) (A2 : Option Addr) (c2 : Nat) : Prop where
  h1 : Kd.string.C w A1 x.f1.length x.f1
  l1 : x.f1.length ≤ c1
  h2 : k25.C w A2 x.f2.length x.f2
  l2 : x.f2.length ≤ c2

theorem TyAt.below {w w' : World} {x : S25} {A1 : Option Addr} {c1 : Nat} {A2 : Option Addr} {c2 : Nat} (h : TyAt w x A1 c1 A2 c2) (hb : Below w.heap.size w w') : TyAt w' x A1 c1 A2 c2 :=
  ⟨Kd.C_below h.h1 hb, h.l1, Kd.C_below h.h2 hb, h.l2⟩

/-- Are two lists the same, element by element? -/
def eqL (F : S25 → S25 → Bool) : List S25 → List S25 → Bool
  | [], [] => true
  | x :: xs, y :: ys => F x y && eqL F xs ys
  | _, _ => false

theorem eqL_len {F : S25 → S25 → Bool} : ∀ {xs ys : List S25}, xs.length ≠ ys.length → eqL F xs ys = false
  | [], [], h => absurd rfl h
  | [], _ :: _, _ => rfl
  | _ :: _, [], _ => rfl
  | x :: xs, y :: ys, h => by
    simp only [eqL]
    rw [eqL_len (xs := xs) (ys := ys) (by simpa using h)]
    simp

theorem eqL_drop_nil {F : S25 → S25 → Bool} {xs ys : List S25} (hl : xs.length = ys.length) {k : Nat} (h : xs.length ≤ k) : eqL F (xs.drop k) (ys.drop k) = true := by
  rw [List.drop_eq_nil_of_le h, List.drop_eq_nil_of_le (by omega)]
  rfl

theorem rdT_eq {xs : List S25} {k : Nat} (hk : k < xs.length) : rd_T25 xs (k : Int) = xs[k] := by
  simp [rd_T25, List.getD, hk]

theorem eqL_drop_step {F : S25 → S25 → Bool} {xs ys : List S25} (hl : xs.length = ys.length) {k : Nat} (h : k < xs.length) :
    eqL F (xs.drop k) (ys.drop k) = (F (rd_T25 xs (k : Int)) (rd_T25 ys (k : Int)) && eqL F (xs.drop (k + 1)) (ys.drop (k + 1))) := by
  have h' : k < ys.length := by omega
  rw [List.drop_eq_getElem_cons h, List.drop_eq_getElem_cons h', rdT_eq h, rdT_eq h']
  rfl

/-- What EqualFunc asks of the function that it is handed. -/
def Gives (g B : Nat) (F : S25 → S25 → Bool) (xs ys : List S25) (w : World) : Prop :=
  ∀ (W : World), Below w.heap.size w W → ∀ (x y : S25), x ∈ xs → y ∈ ys → ∀ (A1 : Option Addr) (c1 : Nat) (A2 : Option Addr) (c2 : Nat) (B1 : Option Addr) (d1 : Nat) (B2 : Option Addr) (d2 : Nat),
    TyAt W x A1 c1 A2 c2 → TyAt W y B1 d1 B2 d2 →
    Calls Try.prog g #[.agg #[.int .i64 x.f0, .slice A1 x.f1.length c1, .slice A2 x.f2.length c2, .int .i64 x.f3], .agg #[.int .i64 y.f0, .slice B1 y.f1.length d1, .slice B2 y.f2.length d2, .int .i64 y.f3], .pointer (some ⟨B, 0, none⟩)] W fun e w' => e = .returned (.bool (F x y)) ∧ Below W.heap.size W w'

set_option maxHeartbeats 1000000 in
theorem ef_len {A1 A2 : Option Addr} {c1 c2 : Nat} {fv : Value} {xs ys : List S25} {w : World} (hx : xs.length ≤ 9223372036854775807) (hy : ys.length ≤ 9223372036854775807) (hl : xs.length ≠ ys.length) :
    Calls Try.prog 52 #[.slice A1 xs.length c1, .slice A2 ys.length c2, fv] w fun e w' => e = .returned (.bool false) ∧ w = w' := by
  have c3 : ((xs.length : Int) == (ys.length : Int)) = false := beq_eq_false_iff_ne.mpr (by omega)
  have c4 : ((xs.length : Int) != (ys.length : Int)) = true := bne_iff_ne.mpr (by omega)
  have c5 : (xs.length == ys.length) = false := beq_eq_false_iff_ne.mpr hl
  clear hl
  go_enter Try.func52, Try.ntmps52
  go_wp2_with fail
  go_ret
  exact ⟨rfl, rfl⟩

set_option maxHeartbeats 1000000 in
theorem ef_calls (g : Nat) (hg : g = 74 ∨ g = 53) (B : Nat) {A1 A2 : Option Addr} {c1 c2 : Nat} {F : S25 → S25 → Bool} {xs ys : List S25} {w : World} (hx : k25.C w A1 xs.length xs) (hy : k25.C w A2 ys.length ys) (hF : Gives g B F xs ys w) (hl : xs.length = ys.length) :
    Calls Try.prog 52 #[.slice A1 xs.length c1, .slice A2 ys.length c2, .func (.func g) #[] #[.pointer (some ⟨B, 0, none⟩)]] w fun e w' => e = .returned (.bool (eqL F xs ys)) ∧ Below w.heap.size w w' := by
  have c3 : ((xs.length : Int) == (ys.length : Int)) = true := beq_iff_eq.mpr (by omega)
  have c4 : ((xs.length : Int) != (ys.length : Int)) = false := bne_eq_false_iff_eq.mpr (by omega)
  have c5 : (xs.length == ys.length) = true := beq_iff_eq.mpr hl
  have hm1 : xs.length ≤ 9223372036854775807 := hx.2.1
  have HL := Aside0.mk hl
  have HX := Aside0.mk hx
  have HY := Aside0.mk hy
  have HF := Aside0.mk hF
  clear hl hx hy hF
  rcases hg with rfl | rfl
  all_goals
    go_enter Try.func52, Try.ntmps52
    go_wp2_with fail
    go_loopw [17] (fun v17 wr => ∃ k : Nat, k ≤ xs.length ∧ v17 = .int .i64 k ∧ Aside0 (Below w.heap.size w wr) ∧ Aside0 (eqL F xs ys = eqL F (xs.drop k) (ys.drop k))) (fun v17 _ => xs.length - (intOf v17).toNat)
    case atStart => exact ⟨0, Nat.zero_le _, rfl, ⟨Below.refl _ _⟩, ⟨rfl⟩⟩
    case round =>
      obtain ⟨k, hk, rfl, HB, HE⟩ := hrel
      by_cases hlt : k < xs.length
      · obtain ⟨ad1, P1, a1, P2, a2, rfl, x0, x1, x2, x3, l1, g1, l2, g2⟩ := at_T25 (Kd.C_below HX.out HB.out) (k : Int) (by omega) (by omega)
        obtain ⟨ad2, Q1, b1, Q2, b2, rfl, y0, y1, y2, y3, m1, e1, m2, e2⟩ := at_T25 (Kd.C_below HY.out HB.out) (k : Int) (by omega) (by have := HL.out; omega)
        rw [Int.toNat_natCast] at x0 x1 x2 x3 y0 y1 y2 y3
        have hl2 : k < ys.length := by have := HL.out; omega
        have t1 : TyAt wr (rd_T25 xs (k : Int)) P1 a1 P2 a2 := ⟨g1, l1, g2, l2⟩
        have t2 : TyAt wr (rd_T25 ys (k : Int)) Q1 b1 Q2 b2 := ⟨e1, m1, e2, m2⟩
        have T1 := Aside0.mk t1
        have T2 := Aside0.mk t2
        clear l1 g1 l2 g2 m1 e1 m2 e2 t1 t2
        replace y0 := fun o => (World.cell?_alloc_lt wr o _ (World.block_lt_of_cell? wr _ y0)).trans y0
        replace y1 := fun o => (World.cell?_alloc_lt wr o _ (World.block_lt_of_cell? wr _ y1)).trans y1
        replace y2 := fun o => (World.cell?_alloc_lt wr o _ (World.block_lt_of_cell? wr _ y2)).trans y2
        replace y3 := fun o => (World.cell?_alloc_lt wr o _ (World.block_lt_of_cell? wr _ y3)).trans y3
        have HS := Aside0.mk (eqL_drop_step (F := F) HL.out hlt)
        have m1 := Aside0.mk (show rd_T25 xs (k : Int) ∈ xs by rw [rdT_eq hlt]; exact List.getElem_mem hlt)
        have m2 := Aside0.mk (show rd_T25 ys (k : Int) ∈ ys by rw [rdT_eq hl2]; exact List.getElem_mem hl2)
        generalize rd_T25 xs (k : Int) = x at *
        generalize rd_T25 ys (k : Int) = y at *
        go_wp2_with fail
        refine (HF.out _ (below_alloc (below_alloc HB.out _) _) x y m1.out m2.out P1 a1 P2 a2 Q1 b1 Q2 b2 ((T1.out.below (below_alloc (Below.refl _ _) _)).below (below_alloc (Below.refl _ _) _)) ((T2.out.below (below_alloc (Below.refl _ _) _)).below (below_alloc (Below.refl _ _) _))).mono ?_
        rintro e w1 ⟨rfl, hb⟩
        have HB1 := Aside0.mk (below_step (below_alloc (below_alloc HB.out _) _) hb)
        clear hb HB y0 y1 y2 y3 x0 x1 x2 x3
        cases hFv : F x y with
        | true =>
          rw [hFv] at HS
          go_wp2_with fail
          go_roundw
          case rel => exact ⟨k + 1, by omega, by go_num, HB1, ⟨by rw [HE.out, HS.out, Bool.true_and]⟩⟩
          case measure => simp [intOf]; omega
        | false =>
          rw [hFv] at HS
          go_wp2_with fail
          go_ret
          exact ⟨by rw [HE.out, HS.out, Bool.false_and]; rfl, HB1.out⟩
      · go_wp2_with fail
        go_ret
        exact ⟨by rw [HE.out, eqL_drop_nil HL.out (by omega)]; rfl, HB.out⟩

/-! ### slices.Equal at strings -/
theorem bytes_ext {a b : ByteArray} (h : a.toList = b.toList) : a = b := by
  rw [ByteArray.toList_eq, ByteArray.toList_eq] at h
  cases a with
  | mk a =>
    cases b with
    | mk b =>
      cases a; cases b
      simp_all

theorem rdB_eq {xs : List ByteArray} {k : Nat} (hk : k < xs.length) : rdOf ByteArray.empty xs (k : Int) = xs[k] := by
  simp [rdOf, List.getD, hk]

theorem drop_eq_iff {xs ys : List ByteArray} {k : Nat} (h : k < xs.length) (h' : k < ys.length) : xs.drop k = ys.drop k ↔ xs[k] = ys[k] ∧ xs.drop (k + 1) = ys.drop (k + 1) := by
  rw [List.drop_eq_getElem_cons h, List.drop_eq_getElem_cons h']
  exact ⟨fun e => by injection e with e1 e2; exact ⟨e1, e2⟩, fun e => by rw [e.1, e.2]⟩

theorem wrap_succ {k n : Nat} (h : k < n) (hn : n ≤ 9223372036854775807) : wrap64 ((k : Int) + 1) = ((k + 1 : Nat) : Int) := by
  unfold wrap64; omega

theorem eqStr_l0 (xs ys : List ByteArray) (hl : xs.length = ys.length) (hn : xs.length ≤ 9223372036854775807) : ∀ (d k : Nat), k + d = xs.length →
    slices_Equal_string_string.l0 (d + 1) xs ys (xs.length : Int) (k : Int) = some (decide (xs.drop k = ys.drop k)) := by
  intro d
  induction d with
  | zero =>
    intro k hk
    simp only [slices_Equal_string_string.l0]
    rw [if_neg (by omega), List.drop_eq_nil_of_le (by omega), List.drop_eq_nil_of_le (by omega)]
    simp
  | succ d ih =>
    intro k hk
    have h1 : k < xs.length := by omega
    have h2 : k < ys.length := by omega
    rw [slices_Equal_string_string.l0]
    rw [if_pos (by omega), if_pos (by omega), if_pos (by omega), if_pos (by omega), rdB_eq h1, rdB_eq h2, wrap_succ h1 hn, ih (k + 1) (by omega)]
    by_cases e : xs[k] = ys[k]
    · rw [if_pos (by rw [e])]
      congr 1
      rw [decide_eq_decide, drop_eq_iff h1 h2]
      exact ⟨fun h => ⟨e, h⟩, fun h => h.2⟩
    · rw [if_neg (fun h => e (bytes_ext h))]
      congr 1
      symm
      rw [decide_eq_false_iff_not, drop_eq_iff h1 h2]
      exact fun h => e h.1

theorem eqStr (xs ys : List ByteArray) (hn : xs.length ≤ 9223372036854775807) : ∃ k, slices_Equal_string_string.f k xs ys = some (decide (xs = ys)) := by
  by_cases hl : xs.length = ys.length
  · refine ⟨xs.length + 1, ?_⟩
    unfold slices_Equal_string_string.f
    rw [if_pos (by omega)]
    have := eqStr_l0 xs ys hl hn xs.length 0 (by omega)
    simpa using this
  · refine ⟨0, ?_⟩
    unfold slices_Equal_string_string.f
    rw [if_neg (by omega)]
    congr 1
    symm
    rw [decide_eq_false_iff_not]
    exact fun h => hl (by rw [h])

theorem eqS_calls {A1 A2 : Option Addr} {c1 c2 : Nat} {xs ys : List ByteArray} {w : World} (hx : Kd.string.C w A1 xs.length xs) (hc1 : xs.length ≤ c1) (hy : Kd.string.C w A2 ys.length ys) (hc2 : ys.length ≤ c2) :
    Calls Try.prog 51 #[.slice A1 xs.length c1, .slice A2 ys.length c2] w fun e w' => e = .returned (.bool (decide (xs = ys))) ∧ Drawn0 w w' := by
  obtain ⟨k, hk⟩ := eqStr xs ys hx.2.1
  exact slices_Equal_string_string.calls k A1 c1 xs A2 c2 ys _ w hx hc1 hy hc2 hk

/-! ### the same type -/
/-- Does the resource r, of a type of kind k, stand for r'? -/
def refOk (m : List Int) (k r r' : Int) : Bool :=
  if k = 20 ∨ k = 21 then decide (0 ≤ r ∧ r < (m.length : Int) ∧ 0 ≤ rd m r ∧ rd m r = r') else decide (r = r')

mutual
def sameT (m : List Int) : S25 → S25 → Bool
  | ⟨k, ns, l, r⟩, b => decide (k = b.f0) && decide (ns = b.f1) && refOk m k r b.f3 && sameTs m l b.f2
def sameTs (m : List Int) : List S25 → List S25 → Bool
  | [], [] => true
  | x :: xs, y :: ys => sameT m x y && sameTs m xs ys
  | [], _ :: _ => false
  | _ :: _, [] => false
end

theorem sameTs_eq (m : List Int) : ∀ (xs ys : List S25), sameTs m xs ys = eqL (sameT m) xs ys
  | [], [] => by simp [sameTs, eqL]
  | x :: xs, y :: ys => by rw [sameTs, eqL, sameTs_eq m xs ys]
  | [], _ :: _ => by simp [sameTs, eqL]
  | _ :: _, [] => by simp [sameTs, eqL]

theorem sameT_eq (m : List Int) (a b : S25) : sameT m a b = (decide (a.f0 = b.f0) && decide (a.f1 = b.f1) && refOk m a.f0 a.f3 b.f3 && eqL (sameT m) a.f2 b.f2) := by
  cases a with
  | mk k ns l r => rw [sameT, sameTs_eq]

/-- The contract of subtype.same at one pair, in every later world. -/
def Same50 (m : List Int) (x y : S25) : Prop :=
  ∀ (W : World) (A1 : Option Addr) (c1 : Nat) (A2 : Option Addr) (c2 : Nat) (B1 : Option Addr) (d1 : Nat) (B2 : Option Addr) (d2 : Nat) (M : Option Addr) (cm : Nat),
    TyAt W x A1 c1 A2 c2 → TyAt W y B1 d1 B2 d2 → (Kd.int .i64).C W M m.length m → m.length ≤ cm →
    Calls Try.prog 50 #[.agg #[.int .i64 x.f0, .slice A1 x.f1.length c1, .slice A2 x.f2.length c2, .int .i64 x.f3], .agg #[.int .i64 y.f0, .slice B1 y.f1.length d1, .slice B2 y.f2.length d2, .int .i64 y.f3], .slice M m.length cm] W fun e w' => e = .returned (.bool (sameT m x y)) ∧ Below W.heap.size W w'

theorem clo_calls (g : Nat) (hg : g = 74 ∨ g = 53) {m : List Int} {x y : S25} (h50 : Same50 m x y) (W : World) {A1 : Option Addr} {c1 : Nat} {A2 : Option Addr} {c2 : Nat} {B1 : Option Addr} {d1 : Nat} {B2 : Option Addr} {d2 : Nat} {M : Option Addr} {cm B : Nat}
    (h1 : TyAt W x A1 c1 A2 c2) (h2 : TyAt W y B1 d1 B2 d2) (hm : (Kd.int .i64).C W M m.length m) (hcm : m.length ≤ cm) (hB : W.cell? ⟨B, 0, none⟩ = some (.slice M m.length cm)) :
    Calls Try.prog g #[.agg #[.int .i64 x.f0, .slice A1 x.f1.length c1, .slice A2 x.f2.length c2, .int .i64 x.f3], .agg #[.int .i64 y.f0, .slice B1 y.f1.length d1, .slice B2 y.f2.length d2, .int .i64 y.f3], .pointer (some ⟨B, 0, none⟩)] W fun e w' => e = .returned (.bool (sameT m x y)) ∧ Below W.heap.size W w' := by
  have H50 := Aside0.mk h50
  have H1 := Aside0.mk h1
  have H2 := Aside0.mk h2
  have HM := Aside0.mk hm
  have hBl := World.block_lt_of_cell? W _ hB
  have hB' := fun o o' => (World.cell?_alloc_lt (W.alloc o) o' ⟨B, 0, none⟩ (by simp; exact Nat.lt_succ_of_lt hBl)).trans ((World.cell?_alloc_lt W o ⟨B, 0, none⟩ hBl).trans hB)
  clear h50 h1 h2 hm hB
  rcases hg with rfl | rfl
  · go_enter Try.func74, Try.ntmps74
    go_wp2_with fail
    have hb0 : ∀ o o', Below W.heap.size W ((W.alloc o).alloc o') := fun o o' => below_alloc (below_alloc (Below.refl _ _) _) _
    refine (H50.out _ A1 c1 A2 c2 B1 d1 B2 d2 M cm (H1.out.below (hb0 _ _)) (H2.out.below (hb0 _ _)) (Kd.C_below HM.out (hb0 _ _)) hcm).mono ?_
    rintro e w1 ⟨rfl, hb⟩
    have HB := Aside0.mk (below_step (hb0 _ _) hb)
    clear hb hb0 hB'
    go_wp2_with fail
    go_ret
    exact ⟨rfl, HB.out⟩
  · go_enter Try.func53, Try.ntmps53
    go_wp2_with fail
    have hb0 : ∀ o o', Below W.heap.size W ((W.alloc o).alloc o') := fun o o' => below_alloc (below_alloc (Below.refl _ _) _) _
    refine (H50.out _ A1 c1 A2 c2 B1 d1 B2 d2 M cm (H1.out.below (hb0 _ _)) (H2.out.below (hb0 _ _)) (Kd.C_below HM.out (hb0 _ _)) hcm).mono ?_
    rintro e w1 ⟨rfl, hb⟩
    have HB := Aside0.mk (below_step (hb0 _ _) hb)
    clear hb hb0 hB'
    go_wp2_with fail
    go_ret
    exact ⟨rfl, HB.out⟩

/-- Kinds, or names, that differ. -/
theorem same_kind {m : List Int} {x y : S25} (h : x.f0 ≠ y.f0) : Same50 m x y := by
  intro W A1 c1 A2 c2 B1 d1 B2 d2 M cm h1 h2 hm hcm
  have hF := Aside0.mk (show sameT m x y = false by rw [sameT_eq, decide_eq_false h]; rfl)
  have e1 : (x.f0 == y.f0) = false := beq_eq_false_iff_ne.mpr h
  have e2 : (x.f0 != y.f0) = true := bne_iff_ne.mpr h
  clear h h1 h2 hm
  go_enter Try.func50, Try.ntmps50
  go_wp2_with fail
  go_ret
  exact ⟨by rw [hF.out]; rfl, by repeat (first | exact Below.refl _ _ | apply below_alloc)⟩

theorem b3 (W : World) (o o' o'' : Obj) : Below W.heap.size W (((W.alloc o).alloc o').alloc o'') := below_alloc (below_alloc (below_alloc (Below.refl _ _) _) _) _

theorem same_names {m : List Int} {x y : S25} (h0 : x.f0 = y.f0) (h : x.f1 ≠ y.f1) : Same50 m x y := by
  intro W A1 c1 A2 c2 B1 d1 B2 d2 M cm h1 h2 hm hcm
  have hF := Aside0.mk (show sameT m x y = false by rw [sameT_eq, decide_eq_false h]; simp)
  have e1 : (x.f0 == y.f0) = true := beq_iff_eq.mpr h0
  have e2 : (x.f0 != y.f0) = false := bne_eq_false_iff_eq.mpr h0
  have H1 := Aside0.mk h1
  have H2 := Aside0.mk h2
  have H := Aside0.mk (decide_eq_false h)
  clear h h0 h1 h2 hm
  go_enter Try.func50, Try.ntmps50
  go_wp2_with fail
  refine (eqS_calls (Kd.C_below H1.out.h1 (b3 _ _ _ _)) H1.out.l1 (Kd.C_below H2.out.h1 (b3 _ _ _ _)) H2.out.l1).mono ?_
  rintro e w1 ⟨rfl, ⟨n, rfl⟩⟩
  rw [H.out]
  go_wp2_with fail
  go_ret
  exact ⟨by rw [hF.out]; rfl, pw_below_drewN (b3 _ _ _ _) _⟩

theorem same_ref_no {m : List Int} {x y : S25} (h0 : x.f0 = y.f0) (h : x.f1 = y.f1) (hk : ¬ (x.f0 = 20 ∨ x.f0 = 21)) (hr : x.f3 ≠ y.f3) : Same50 m x y := by
  intro W A1 c1 A2 c2 B1 d1 B2 d2 M cm h1 h2 hm hcm
  have hF := Aside0.mk (show sameT m x y = false by rw [sameT_eq, refOk, if_neg hk, decide_eq_false hr]; simp)
  have e1 : (x.f0 == y.f0) = true := beq_iff_eq.mpr h0
  have e2 : (x.f0 != y.f0) = false := bne_eq_false_iff_eq.mpr h0
  have e3 : (x.f0 == 20) = false := beq_eq_false_iff_ne.mpr (fun e => hk (.inl e))
  have e4 : (x.f0 == 21) = false := beq_eq_false_iff_ne.mpr (fun e => hk (.inr e))
  have e5 : (x.f3 == y.f3) = false := beq_eq_false_iff_ne.mpr hr
  have e6 : (x.f3 != y.f3) = true := bne_iff_ne.mpr hr
  have H1 := Aside0.mk h1
  have H2 := Aside0.mk h2
  have H := Aside0.mk (decide_eq_true h)
  clear h h0 h1 h2 hm hk hr
  go_enter Try.func50, Try.ntmps50
  go_wp2_with fail
  refine (eqS_calls (Kd.C_below H1.out.h1 (b3 _ _ _ _)) H1.out.l1 (Kd.C_below H2.out.h1 (b3 _ _ _ _)) H2.out.l1).mono ?_
  rintro e w1 ⟨rfl, ⟨n, rfl⟩⟩
  rw [H.out]
  go_wp2_with fail
  go_ret
  exact ⟨by rw [hF.out]; rfl, pw_below_drewN (b3 _ _ _ _) _⟩

theorem cell_third (W : World) (o o' : Obj) (v : Value) (t : TypeId) (n : Nat) : ((((W.alloc o).alloc o').alloc (.cells #[v] t)).drewN n).cell? ⟨W.heap.size + 1 + 1, 0, none⟩ = some v := by
  have h := blk_new ((W.alloc o).alloc o') (.cells #[v] t)
  simp only [World.size_alloc] at h
  exact (blk_cell (blk_drewN h n) 0).trans rfl

theorem gives_of {g B : Nat} (hg : g = 74 ∨ g = 53) {m : List Int} {xs ys : List S25} {W : World} {M : Option Addr} {cm : Nat} (h50 : ∀ x ∈ xs, ∀ y, Same50 m x y) (hm : (Kd.int .i64).C W M m.length m) (hcm : m.length ≤ cm) (hB : W.cell? ⟨B, 0, none⟩ = some (.slice M m.length cm)) :
    Gives g B (sameT m) xs ys W := by
  intro W1 hb x y hx hy A1 c1 A2 c2 B1 d1 B2 d2 t1 t2
  exact clo_calls g hg (h50 x hx y) W1 t1 t2 (Kd.C_below hm hb) hcm ((hb.cell (p := ⟨B, 0, none⟩) (World.block_lt_of_cell? W _ hB)).trans hB)

set_option maxHeartbeats 1000000 in
theorem same_ref_yes {m : List Int} {x y : S25} (h50 : ∀ x' ∈ x.f2, ∀ y', Same50 m x' y') (h0 : x.f0 = y.f0) (h : x.f1 = y.f1) (hk : ¬ (x.f0 = 20 ∨ x.f0 = 21)) (hr : x.f3 = y.f3) : Same50 m x y := by
  intro W A1 c1 A2 c2 B1 d1 B2 d2 M cm h1 h2 hm hcm
  have hF := Aside0.mk (show sameT m x y = eqL (sameT m) x.f2 y.f2 by rw [sameT_eq, refOk, if_neg hk, decide_eq_true hr, decide_eq_true h, decide_eq_true h0]; simp)
  have e1 : (x.f0 == y.f0) = true := beq_iff_eq.mpr h0
  have e2 : (x.f0 != y.f0) = false := bne_eq_false_iff_eq.mpr h0
  have e3 : (x.f0 == 20) = false := beq_eq_false_iff_ne.mpr (fun e => hk (.inl e))
  have e4 : (x.f0 == 21) = false := beq_eq_false_iff_ne.mpr (fun e => hk (.inr e))
  have e5 : (x.f3 == y.f3) = true := beq_iff_eq.mpr hr
  have e6 : (x.f3 != y.f3) = false := bne_eq_false_iff_eq.mpr hr
  have H1 := Aside0.mk h1
  have H2 := Aside0.mk h2
  have HM := Aside0.mk hm
  have H50 := Aside0.mk h50
  have H := Aside0.mk (decide_eq_true h)
  clear h h0 h1 h2 hm hk hr h50
  go_enter Try.func50, Try.ntmps50
  go_wp2_with fail
  refine (eqS_calls (Kd.C_below H1.out.h1 (b3 _ _ _ _)) H1.out.l1 (Kd.C_below H2.out.h1 (b3 _ _ _ _)) H2.out.l1).mono ?_
  rintro e w1 ⟨rfl, ⟨n, rfl⟩⟩
  rw [H.out]
  go_wp2_with fail
  by_cases hl : x.f2.length = y.f2.length
  · refine (ef_calls 74 (.inl rfl) _ (Kd.C_below H1.out.h2 (pw_below_drewN (b3 _ _ _ _) _)) (Kd.C_below H2.out.h2 (pw_below_drewN (b3 _ _ _ _) _)) (gives_of (.inl rfl) H50.out (Kd.C_below HM.out (pw_below_drewN (b3 _ _ _ _) _)) hcm (cell_third _ _ _ _ _ _)) hl).mono ?_
    rintro e w1 ⟨rfl, hb⟩
    have HB := Aside0.mk (below_step (pw_below_drewN (b3 _ _ _ _) _) hb)
    clear hb
    go_wp2_with fail
    go_ret
    exact ⟨by rw [hF.out]; rfl, HB.out⟩
  · refine (ef_len H1.out.h2.2.1 H2.out.h2.2.1 hl).mono ?_
    rintro e w1 ⟨rfl, rfl⟩
    have hF2 := Aside0.mk (hF.out.trans (eqL_len hl))
    clear hl
    go_wp2_with fail
    go_ret
    exact ⟨by rw [hF2.out]; rfl, pw_below_drewN (b3 _ _ _ _) _⟩

theorem same_neg {m : List Int} {x y : S25} (h0 : x.f0 = y.f0) (h : x.f1 = y.f1) (hk : x.f0 = 20 ∨ x.f0 = 21) (hr : x.f3 < 0) : Same50 m x y := by
  intro W A1 c1 A2 c2 B1 d1 B2 d2 M cm h1 h2 hm hcm
  have hF := Aside0.mk (show sameT m x y = false by rw [sameT_eq, refOk, if_pos hk, decide_eq_false (p := 0 ≤ x.f3 ∧ _) (fun q => by omega)]; simp)
  have e1 : (x.f0 == y.f0) = true := beq_iff_eq.mpr h0
  have e2 : (x.f0 != y.f0) = false := bne_eq_false_iff_eq.mpr h0
  have e34 : (x.f0 == 20) = true ∨ ((x.f0 == 20) = false ∧ (x.f0 == 21) = true) := by
    by_cases e : x.f0 = 20
    · exact .inl (beq_iff_eq.mpr e)
    · exact .inr ⟨beq_eq_false_iff_ne.mpr e, beq_iff_eq.mpr (hk.resolve_left e)⟩
  have H1 := Aside0.mk h1
  have H2 := Aside0.mk h2
  have HM := Aside0.mk hm
  have H := Aside0.mk (decide_eq_true h)
  have f1 : decide (x.f3 < 0) = true := decide_eq_true hr
  clear h h0 h1 h2 hm hk 
  go_enter Try.func50, Try.ntmps50
  go_wp2_with fail
  refine (eqS_calls (Kd.C_below H1.out.h1 (b3 _ _ _ _)) H1.out.l1 (Kd.C_below H2.out.h1 (b3 _ _ _ _)) H2.out.l1).mono ?_
  rintro e w1 ⟨rfl, ⟨n, rfl⟩⟩
  rw [H.out]
  rcases e34 with e3 | ⟨e3, e4⟩
  all_goals
    go_wp2_with fail
    go_quiet (fail)
    go_wp2_with fail
    go_ret
    exact ⟨by rw [hF.out]; rfl, pw_below_drewN (pw_below_drewN (b3 _ _ _ _) _) _⟩

theorem same_out {m : List Int} {x y : S25} (h0 : x.f0 = y.f0) (h : x.f1 = y.f1) (hk : x.f0 = 20 ∨ x.f0 = 21) (hr : 0 ≤ x.f3) (hr2 : (m.length : Int) ≤ x.f3) : Same50 m x y := by
  intro W A1 c1 A2 c2 B1 d1 B2 d2 M cm h1 h2 hm hcm
  have hF := Aside0.mk (show sameT m x y = false by rw [sameT_eq, refOk, if_pos hk, decide_eq_false (p := 0 ≤ x.f3 ∧ _) (fun q => by omega)]; simp)
  have e1 : (x.f0 == y.f0) = true := beq_iff_eq.mpr h0
  have e2 : (x.f0 != y.f0) = false := bne_eq_false_iff_eq.mpr h0
  have e34 : (x.f0 == 20) = true ∨ ((x.f0 == 20) = false ∧ (x.f0 == 21) = true) := by
    by_cases e : x.f0 = 20
    · exact .inl (beq_iff_eq.mpr e)
    · exact .inr ⟨beq_eq_false_iff_ne.mpr e, beq_iff_eq.mpr (hk.resolve_left e)⟩
  have H1 := Aside0.mk h1
  have H2 := Aside0.mk h2
  have HM := Aside0.mk hm
  have H := Aside0.mk (decide_eq_true h)
  have f1 : decide (x.f3 < 0) = false := decide_eq_false (by omega)
  have f2 : decide ((m.length : Int) ≤ x.f3) = true := decide_eq_true hr2
  clear h h0 h1 h2 hm hk 
  go_enter Try.func50, Try.ntmps50
  go_wp2_with fail
  refine (eqS_calls (Kd.C_below H1.out.h1 (b3 _ _ _ _)) H1.out.l1 (Kd.C_below H2.out.h1 (b3 _ _ _ _)) H2.out.l1).mono ?_
  rintro e w1 ⟨rfl, ⟨n, rfl⟩⟩
  rw [H.out]
  rcases e34 with e3 | ⟨e3, e4⟩
  all_goals
    go_wp2_with fail
    go_quiet (fail)
    go_wp2_with fail
    go_ret
    exact ⟨by rw [hF.out]; rfl, pw_below_drewN (pw_below_drewN (b3 _ _ _ _) _) _⟩

theorem same_mneg {m : List Int} {x y : S25} (h0 : x.f0 = y.f0) (h : x.f1 = y.f1) (hk : x.f0 = 20 ∨ x.f0 = 21) (hr : 0 ≤ x.f3) (hr2 : x.f3 < (m.length : Int)) (hr3 : rd m x.f3 < 0) : Same50 m x y := by
  intro W A1 c1 A2 c2 B1 d1 B2 d2 M cm h1 h2 hm hcm
  have hF := Aside0.mk (show sameT m x y = false by rw [sameT_eq, refOk, if_pos hk, decide_eq_false (p := 0 ≤ x.f3 ∧ _) (fun q => by omega)]; simp)
  have e1 : (x.f0 == y.f0) = true := beq_iff_eq.mpr h0
  have e2 : (x.f0 != y.f0) = false := bne_eq_false_iff_eq.mpr h0
  have e34 : (x.f0 == 20) = true ∨ ((x.f0 == 20) = false ∧ (x.f0 == 21) = true) := by
    by_cases e : x.f0 = 20
    · exact .inl (beq_iff_eq.mpr e)
    · exact .inr ⟨beq_eq_false_iff_ne.mpr e, beq_iff_eq.mpr (hk.resolve_left e)⟩
  have H1 := Aside0.mk h1
  have H2 := Aside0.mk h2
  have HM := Aside0.mk hm
  have H := Aside0.mk (decide_eq_true h)
  have hm0 : 0 ≤ x.f3 := by omega
  have hm1 : x.f3 < (m.length : Int) := by omega
  obtain ⟨ad, rfl, z⟩ := Kd.at_int hm x.f3 hm0 hm1
  have z' := fun o o' o'' => (World.cell?_alloc_lt ((W.alloc o).alloc o') o'' _ (by have := World.block_lt_of_cell? W _ z; simp; omega)).trans ((World.cell?_alloc_lt (W.alloc o) o' _ (by have := World.block_lt_of_cell? W _ z; simp; omega)).trans ((World.cell?_alloc_lt W o _ (World.block_lt_of_cell? W _ z)).trans z))
  have f1 : decide (x.f3 < 0) = false := decide_eq_false (by omega)
  have f2 : decide ((m.length : Int) ≤ x.f3) = false := decide_eq_false (by omega)
  have f3 : decide (rd m x.f3 < 0) = true := decide_eq_true hr3
  clear h h0 h1 h2 hm hk z hr hr2
  go_enter Try.func50, Try.ntmps50
  go_wp2_with fail
  refine (eqS_calls (Kd.C_below H1.out.h1 (b3 _ _ _ _)) H1.out.l1 (Kd.C_below H2.out.h1 (b3 _ _ _ _)) H2.out.l1).mono ?_
  rintro e w1 ⟨rfl, ⟨n, rfl⟩⟩
  rw [H.out]
  rcases e34 with e3 | ⟨e3, e4⟩
  all_goals
    go_wp2_with fail
    go_quiet (fail)
    go_wp2_with fail
    go_ret
    exact ⟨by rw [hF.out]; rfl, pw_below_drewN (pw_below_drewN (b3 _ _ _ _) _) _⟩

theorem same_mne {m : List Int} {x y : S25} (h0 : x.f0 = y.f0) (h : x.f1 = y.f1) (hk : x.f0 = 20 ∨ x.f0 = 21) (hr : 0 ≤ x.f3) (hr2 : x.f3 < (m.length : Int)) (hr3 : 0 ≤ rd m x.f3) (hr4 : rd m x.f3 ≠ y.f3) : Same50 m x y := by
  intro W A1 c1 A2 c2 B1 d1 B2 d2 M cm h1 h2 hm hcm
  have hF := Aside0.mk (show sameT m x y = false by rw [sameT_eq, refOk, if_pos hk, decide_eq_false (p := 0 ≤ x.f3 ∧ _) (fun q => by omega)]; simp)
  have e1 : (x.f0 == y.f0) = true := beq_iff_eq.mpr h0
  have e2 : (x.f0 != y.f0) = false := bne_eq_false_iff_eq.mpr h0
  have e34 : (x.f0 == 20) = true ∨ ((x.f0 == 20) = false ∧ (x.f0 == 21) = true) := by
    by_cases e : x.f0 = 20
    · exact .inl (beq_iff_eq.mpr e)
    · exact .inr ⟨beq_eq_false_iff_ne.mpr e, beq_iff_eq.mpr (hk.resolve_left e)⟩
  have H1 := Aside0.mk h1
  have H2 := Aside0.mk h2
  have HM := Aside0.mk hm
  have H := Aside0.mk (decide_eq_true h)
  have hm0 : 0 ≤ x.f3 := by omega
  have hm1 : x.f3 < (m.length : Int) := by omega
  obtain ⟨ad, rfl, z⟩ := Kd.at_int hm x.f3 hm0 hm1
  have z' := fun o o' o'' => (World.cell?_alloc_lt ((W.alloc o).alloc o') o'' _ (by have := World.block_lt_of_cell? W _ z; simp; omega)).trans ((World.cell?_alloc_lt (W.alloc o) o' _ (by have := World.block_lt_of_cell? W _ z; simp; omega)).trans ((World.cell?_alloc_lt W o _ (World.block_lt_of_cell? W _ z)).trans z))
  have f1 : decide (x.f3 < 0) = false := decide_eq_false (by omega)
  have f2 : decide ((m.length : Int) ≤ x.f3) = false := decide_eq_false (by omega)
  have f3 : decide (rd m x.f3 < 0) = false := decide_eq_false (by omega)
  have f4 : (rd m x.f3 == y.f3) = false := beq_eq_false_iff_ne.mpr hr4
  have f5 : (rd m x.f3 != y.f3) = true := bne_iff_ne.mpr hr4
  clear h h0 h1 h2 hm hk z hr hr2 hr3 hr4
  go_enter Try.func50, Try.ntmps50
  go_wp2_with fail
  refine (eqS_calls (Kd.C_below H1.out.h1 (b3 _ _ _ _)) H1.out.l1 (Kd.C_below H2.out.h1 (b3 _ _ _ _)) H2.out.l1).mono ?_
  rintro e w1 ⟨rfl, ⟨n, rfl⟩⟩
  rw [H.out]
  rcases e34 with e3 | ⟨e3, e4⟩
  all_goals
    go_wp2_with fail
    go_quiet (fail)
    go_wp2_with fail
    go_ret
    exact ⟨by rw [hF.out]; rfl, pw_below_drewN (pw_below_drewN (b3 _ _ _ _) _) _⟩

set_option maxHeartbeats 2000000 in
theorem same_ok {m : List Int} {x y : S25} (h50 : ∀ x' ∈ x.f2, ∀ y', Same50 m x' y') (h0 : x.f0 = y.f0) (h : x.f1 = y.f1) (hk : x.f0 = 20 ∨ x.f0 = 21) (hr : 0 ≤ x.f3) (hr2 : x.f3 < (m.length : Int)) (hr3 : 0 ≤ rd m x.f3) (hr4 : rd m x.f3 = y.f3) : Same50 m x y := by
  intro W A1 c1 A2 c2 B1 d1 B2 d2 M cm h1 h2 hm hcm
  have hF := Aside0.mk (show sameT m x y = eqL (sameT m) x.f2 y.f2 by rw [sameT_eq, refOk, if_pos hk, decide_eq_true (p := 0 ≤ x.f3 ∧ _) ⟨hr, hr2, hr3, hr4⟩, decide_eq_true h, decide_eq_true h0]; simp)
  have e1 : (x.f0 == y.f0) = true := beq_iff_eq.mpr h0
  have e2 : (x.f0 != y.f0) = false := bne_eq_false_iff_eq.mpr h0
  have e34 : (x.f0 == 20) = true ∨ ((x.f0 == 20) = false ∧ (x.f0 == 21) = true) := by
    by_cases e : x.f0 = 20
    · exact .inl (beq_iff_eq.mpr e)
    · exact .inr ⟨beq_eq_false_iff_ne.mpr e, beq_iff_eq.mpr (hk.resolve_left e)⟩
  have H1 := Aside0.mk h1
  have H2 := Aside0.mk h2
  have HM := Aside0.mk hm
  have H := Aside0.mk (decide_eq_true h)
  have H50 := Aside0.mk h50
  have hm0 : 0 ≤ x.f3 := by omega
  have hm1 : x.f3 < (m.length : Int) := by omega
  obtain ⟨ad, rfl, z⟩ := Kd.at_int hm x.f3 hm0 hm1
  have z' := fun o o' o'' => (World.cell?_alloc_lt ((W.alloc o).alloc o') o'' _ (by have := World.block_lt_of_cell? W _ z; simp; omega)).trans ((World.cell?_alloc_lt (W.alloc o) o' _ (by have := World.block_lt_of_cell? W _ z; simp; omega)).trans ((World.cell?_alloc_lt W o _ (World.block_lt_of_cell? W _ z)).trans z))
  have f1 : decide (x.f3 < 0) = false := decide_eq_false (by omega)
  have f2 : decide ((m.length : Int) ≤ x.f3) = false := decide_eq_false (by omega)
  have f3 : decide (rd m x.f3 < 0) = false := decide_eq_false (by omega)
  have f4 : (rd m x.f3 == y.f3) = true := beq_iff_eq.mpr hr4
  have f5 : (rd m x.f3 != y.f3) = false := bne_eq_false_iff_eq.mpr hr4
  clear h h0 h1 h2 hm hk z hr hr2 hr3 hr4 h50
  go_enter Try.func50, Try.ntmps50
  go_wp2_with fail
  refine (eqS_calls (Kd.C_below H1.out.h1 (b3 _ _ _ _)) H1.out.l1 (Kd.C_below H2.out.h1 (b3 _ _ _ _)) H2.out.l1).mono ?_
  rintro e w1 ⟨rfl, ⟨n, rfl⟩⟩
  rw [H.out]
  rcases e34 with e3 | ⟨e3, e4⟩
  all_goals
    go_wp2_with fail
    go_quiet (fail)
    go_wp2_with fail
    by_cases hl : x.f2.length = y.f2.length
    · have HBn := Aside0.mk (pw_below_drewN (b3 W (.cells #[.int .i64 x.f0, .slice A1 x.f1.length c1, .slice A2 x.f2.length c2, .int .i64 x.f3] 25) (.cells #[.int .i64 y.f0, .slice B1 y.f1.length d1, .slice B2 y.f2.length d2, .int .i64 y.f3] 25) (.cells #[.slice (some ad) m.length cm] 28)) (n + nq))
      refine (ef_calls 74 (.inl rfl) _ (Kd.C_below H1.out.h2 HBn.out) (Kd.C_below H2.out.h2 HBn.out) (gives_of (.inl rfl) H50.out (Kd.C_below HM.out HBn.out) hcm (cell_third _ _ _ _ _ _)) hl).mono ?_
      rintro e w1 ⟨rfl, hb⟩
      have HB := Aside0.mk (below_step HBn.out hb)
      clear hb
      go_wp2_with fail
      go_ret
      exact ⟨by rw [hF.out]; rfl, HB.out⟩
    · refine (ef_len H1.out.h2.2.1 H2.out.h2.2.1 hl).mono ?_
      rintro e w1 ⟨rfl, rfl⟩
      have hF2 := Aside0.mk (hF.out.trans (eqL_len hl))
      clear hl
      go_wp2_with fail
      go_ret
      exact ⟨by rw [hF2.out]; rfl, by repeat (first | exact b3 _ _ _ _ | apply pw_below_drewN)⟩

theorem same50_step {m : List Int} {x y : S25} (h50 : ∀ x' ∈ x.f2, ∀ y', Same50 m x' y') : Same50 m x y := by
  by_cases h0 : x.f0 = y.f0
  · by_cases h : x.f1 = y.f1
    · by_cases hk : x.f0 = 20 ∨ x.f0 = 21
      · by_cases r1 : x.f3 < 0
        · exact same_neg h0 h hk r1
        · by_cases r2 : (m.length : Int) ≤ x.f3
          · exact same_out h0 h hk (by omega) r2
          · by_cases r3 : rd m x.f3 < 0
            · exact same_mneg h0 h hk (by omega) (by omega) r3
            · by_cases r4 : rd m x.f3 = y.f3
              · exact same_ok h50 h0 h hk (by omega) (by omega) (by omega) r4
              · exact same_mne h0 h hk (by omega) (by omega) (by omega) r4
      · by_cases hr : x.f3 = y.f3
        · exact same_ref_yes h50 h0 h hk hr
        · exact same_ref_no h0 h hk hr
    · exact same_names h0 h
  · exact same_kind h0

theorem same50 (m : List Int) : ∀ (n : Nat) (x : S25), SizeOf.sizeOf x ≤ n → ∀ y, Same50 m x y := by
  intro n
  induction n with
  | zero =>
    intro x hx
    cases x
    simp at hx
  | succ n ih =>
    intro x hx y
    refine same50_step (fun x' hx' y' => ih x' ?_ y')
    have h1 := List.sizeOf_lt_of_mem hx'
    have h2 : SizeOf.sizeOf x.f2 < SizeOf.sizeOf x := by
      cases x
      simp
      omega
    omega

theorem same_calls (m : List Int) (x y : S25) : Same50 m x y := same50 m _ x (Nat.le_refl _) y

/-- subtype.Same: function 15. -/
theorem Same_calls {m : List Int} {x y : S25} {W : World} {A1 : Option Addr} {c1 : Nat} {A2 : Option Addr} {c2 : Nat} {B1 : Option Addr} {d1 : Nat} {B2 : Option Addr} {d2 : Nat} {M : Option Addr} {cm : Nat}
    (h1 : TyAt W x A1 c1 A2 c2) (h2 : TyAt W y B1 d1 B2 d2) (hm : (Kd.int .i64).C W M m.length m) (hcm : m.length ≤ cm) :
    Calls Try.prog 15 #[.agg #[.int .i64 x.f0, .slice A1 x.f1.length c1, .slice A2 x.f2.length c2, .int .i64 x.f3], .agg #[.int .i64 y.f0, .slice B1 y.f1.length d1, .slice B2 y.f2.length d2, .int .i64 y.f3], .slice M m.length cm] W fun e w' => e = .returned (.bool (sameT m x y)) ∧ Below W.heap.size W w' := by
  have H1 := Aside0.mk h1
  have H2 := Aside0.mk h2
  have HM := Aside0.mk hm
  clear h1 h2 hm
  go_enter Try.func15, Try.ntmps15
  go_wp2_with fail
  have hb0 : ∀ o o', Below W.heap.size W ((W.alloc o).alloc o') := fun o o' => below_alloc (below_alloc (Below.refl _ _) _) _
  refine (same_calls m x y _ A1 c1 A2 c2 B1 d1 B2 d2 M cm (H1.out.below (hb0 _ _)) (H2.out.below (hb0 _ _)) (Kd.C_below HM.out (hb0 _ _)) hcm).mono ?_
  rintro e w1 ⟨rfl, hb⟩
  have HB := Aside0.mk (below_step (hb0 _ _) hb)
  clear hb hb0
  go_wp2_with fail
  go_ret
  exact ⟨rfl, HB.out⟩
end Go.Proofs.Ytmpmcffhlnlejaa.SubEq
