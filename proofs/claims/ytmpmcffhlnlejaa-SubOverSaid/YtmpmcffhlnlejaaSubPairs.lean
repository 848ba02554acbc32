/- The contract of subtype.pairs: which resource is which, by what turns a text. -/
import Derived.Test.YtmpmcffhlnlejaaSubAll
import Derived.Test.YtmpmcffhlnlejaaSubNamesW
namespace Go.Proofs.Ytmpmcffhlnlejaa.SubEq
open Go.RowKit Go.Proofs.YtmpmcffhlnlejaaW.PrintWords Go.Proofs.YtmpmcffhlnlejaaW.PrintLast Go.Proofs.YtmpmcffhlnlejaaW.PrintMore
open Go.Proofs.Ytmpmcffhlnlejaa.PSubFits
set_option linter.unusedVariables false
set_option linter.unusedSimpArgs false

/-- The place of a text; -1: it is not there. -/
def ixB (t : ByteArray) : List ByteArray → Int
  | [] => -1
  | x :: xs => if x = t then 0 else if ixB t xs < 0 then -1 else ixB t xs + 1
theorem ixB_ge (t : ByteArray) : ∀ l : List ByteArray, -1 ≤ ixB t l
  | [] => by simp [ixB]
  | x :: xs => by
    have := ixB_ge t xs
    unfold ixB
    split
    · omega
    · split <;> omega
def ixBFrom (t : ByteArray) (l : List ByteArray) (k : Nat) : Int := if ixB t (l.drop k) < 0 then -1 else ixB t (l.drop k) + k
theorem ixBFrom_zero (t : ByteArray) (l : List ByteArray) : ixBFrom t l 0 = ixB t l := by
  have := ixB_ge t l
  unfold ixBFrom
  rw [List.drop_zero]
  split <;> omega
theorem ixBFrom_hit {t : ByteArray} {l : List ByteArray} {k : Nat} (h : k < l.length) (he : l[k] = t) : ixBFrom t l k = (k : Int) := by
  unfold ixBFrom
  rw [List.drop_eq_getElem_cons h]
  simp [ixB, he]
theorem ixBFrom_miss {t : ByteArray} {l : List ByteArray} {k : Nat} (h : k < l.length) (he : l[k] ≠ t) : ixBFrom t l k = ixBFrom t l (k + 1) := by
  unfold ixBFrom
  rw [List.drop_eq_getElem_cons h]
  have e : ixB t (l[k] :: l.drop (k + 1)) = if ixB t (l.drop (k + 1)) < 0 then -1 else ixB t (l.drop (k + 1)) + 1 := by
    rw [ixB, if_neg he]
  rw [e]
  by_cases hs : ixB t (l.drop (k + 1)) < 0
  · rw [if_pos hs, if_pos (by omega), if_pos hs]
  · rw [if_neg hs, if_neg (by omega), if_neg hs]
    omega
theorem ixBFrom_end {t : ByteArray} {l : List ByteArray} {k : Nat} (h : l.length ≤ k) : ixBFrom t l k = -1 := by
  unfold ixBFrom
  rw [List.drop_eq_nil_of_le h]
  simp [ixB]

theorem index_l0 (xs : List ByteArray) (t : ByteArray) (hn : xs.length ≤ 9223372036854775807) : ∀ (d k : Nat), k + d = xs.length →
    slices_Index_string_string.l0 (d + 1) xs t (xs.length : Int) (k : Int) = some (ixBFrom t xs k) := by
  intro d
  induction d with
  | zero =>
    intro k hk
    simp only [slices_Index_string_string.l0]
    rw [if_neg (by omega), ixBFrom_end (by omega)]
  | succ d ih =>
    intro k hk
    have h1 : k < xs.length := by omega
    rw [slices_Index_string_string.l0]
    rw [if_pos (by omega), if_pos (by omega), if_pos (by omega), rdB_eq h1, wrap_succ h1 hn, ih (k + 1) (by omega)]
    by_cases e : xs[k] = t
    · rw [if_pos (by rw [e]), ixBFrom_hit h1 e]
    · rw [if_neg (fun h => e (bytes_ext h).symm), ixBFrom_miss h1 e]

theorem index_calls {A : Option Addr} {c : Nat} {xs : List ByteArray} {t : ByteArray} {w : World} (hx : Kd.string.C w A xs.length xs) (hc : xs.length ≤ c) :
    Calls Try.prog 79 #[.slice A xs.length c, .string t] w fun e w' => e = .returned (.int .i64 (ixB t xs)) ∧ Drawn0 w w' := by
  have h := index_l0 xs t hx.2.1 xs.length 0 (by omega)
  rw [ixBFrom_zero] at h
  exact slices_Index_string_string.calls _ A c xs t _ w hx hc h

/-- A text itself. -/
def selfT (s : ByteArray) : Option ByteArray := some s
/-- Import as export. -/
def impT (s : ByteArray) : Option ByteArray :=
  if 7 ≤ s.size ∧ (s.extract 0 7).toList = ([105, 109, 112, 111, 114, 116, 32] : List UInt8) then some ((⟨#[101, 120, 112, 111, 114, 116, 32]⟩ : ByteArray) ++ s.extract 7 s.size) else none

/-- What pairs asks of the function that it is handed. -/
def Turns (g : Nat) (T : ByteArray → Option ByteArray) (a : List ByteArray) : Prop :=
  ∀ s ∈ a, ∃ t, ((T s = some t ∧ ∀ W : World, Calls Try.prog g #[.string s] W fun e w' => e = .returned (.tuple #[.string t, .bool true]) ∧ Drawn0 W w') ∨ (T s = none ∧ ∀ W : World, Calls Try.prog g #[.string s] W fun e w' => e = .returned (.tuple #[.string t, .bool false]) ∧ Drawn0 W w'))

theorem self_turns (a : List ByteArray) : Turns 57 selfT a := fun s _ => ⟨s, .inl ⟨rfl, fun W => subtype_self.calls s s true W rfl⟩⟩

theorem exported_turns (a : List ByteArray) (ha : ∀ s ∈ a, s.size ≤ 140737488351232) : Turns 59 impT a := by
  intro s hs
  have hz := ha s hs
  have pre : (⟨#[105, 109, 112, 111, 114, 116, 32]⟩ : ByteArray).size = 7 := rfl
  have prel : (⟨#[105, 109, 112, 111, 114, 116, 32]⟩ : ByteArray).toList = ([105, 109, 112, 111, 114, 116, 32] : List UInt8) := by rw [ByteArray.toList_eq]
  by_cases h : 7 ≤ s.size ∧ (s.extract 0 7).toList = ([105, 109, 112, 111, 114, 116, 32] : List UInt8)
  · refine ⟨(⟨#[101, 120, 112, 111, 114, 116, 32]⟩ : ByteArray) ++ s.extract 7 s.size, .inl ⟨by rw [impT, if_pos h], fun W => subtype_exported.calls s _ true W ?_⟩⟩
    unfold subtype_exported.f strings_CutPrefix.f stringslite_CutPrefix.f stringslite_HasPrefix.f
    rw [pre, prel]
    have e : ((s.extract 0 ((7 : Nat) : Int).toNat).toList == ([105, 109, 112, 111, 114, 116, 32] : List UInt8)) = true := beq_iff_eq.mpr h.2
    rw [if_pos (by omega), if_pos (by omega), if_pos (by omega), e]
    simp only [Option.bind_some, if_true]
    rw [if_pos (by omega), if_pos (by omega)]
    simp only [Option.bind_some]
    have hx : (s.extract ((7 : Nat) : Int).toNat s.size).size = s.size - 7 := by
      show (s.extract 7 s.size).size = _
      rw [ByteArray.size_extract]
      omega
    rw [if_pos (by rw [hx]; omega)]
    rfl
  · refine ⟨(⟨#[101, 120, 112, 111, 114, 116, 32]⟩ : ByteArray) ++ s, .inr ⟨by rw [impT, if_neg h], fun W => subtype_exported.calls s _ false W ?_⟩⟩
    unfold subtype_exported.f strings_CutPrefix.f stringslite_CutPrefix.f stringslite_HasPrefix.f
    rw [pre, prel]
    by_cases h7 : 7 ≤ s.size
    · have e : ((s.extract 0 ((7 : Nat) : Int).toNat).toList == ([105, 109, 112, 111, 114, 116, 32] : List UInt8)) = false := beq_eq_false_iff_ne.mpr (fun e => h ⟨h7, e⟩)
      rw [if_pos (by omega), if_pos (by omega), if_pos (by omega), e]
      simp only [Option.bind_some, Bool.false_eq_true, if_false]
      rw [if_pos (by omega)]
    · rw [if_neg (by omega)]
      simp only [Option.bind_some, Bool.false_eq_true, if_false]
      rw [if_pos (by omega)]

/-- Which resource is which. -/
def pairsF (T : ByteArray → Option ByteArray) (a b : List ByteArray) : List Int := a.map fun s => match T s with
  | some t => ixB t b
  | none => -1

theorem info3' : (Try.prog.info? 3).map (fun i => (i.zero, i.size, i.bytes)) = some (some (.int .i64 0), 1, 8) := by kernel_rfl

theorem pairs_take {T : ByteArray → Option ByteArray} {a b : List ByteArray} {k : Nat} (h : k < a.length) :
    (pairsF T a b).take (k + 1) = (pairsF T a b).take k ++ [match T a[k] with | some t => ixB t b | none => -1] := by
  rw [List.take_succ_eq_append_getElem (by simpa [pairsF] using h)]
  simp [pairsF]

theorem C_of_ownI {w : World} {base : Nat} {v : Value} {xs : List Int} (h : w.ownsRow base 3 1 v xs.length (nums .i64 xs)) : ∃ (A : Option Addr) (cap : Nat), v = .slice A xs.length cap ∧ xs.length ≤ cap ∧ (Kd.int .i64).C w A xs.length xs := by
  rcases Nat.eq_zero_or_pos xs.length with h0 | h0
  · have hx : xs = [] := List.eq_nil_of_length_eq_zero h0
    subst hx
    rcases h.2 with ⟨rfl, _⟩ | ⟨g, cap, cur, rfl, _⟩
    · exact ⟨none, 0, rfl, Nat.le_refl _, rfl, by simp, fun h => absurd h (by simp)⟩
    · exact ⟨_, cap, rfl, by simp, rfl, by simp, fun h => absurd h (by simp)⟩
  · obtain ⟨g, cap, rfl, _, _⟩ := h.form h0
    have hc : xs.length ≤ cap ∧ cap ≤ maxLen := by
      rcases h.2 with ⟨h1, _⟩ | ⟨g', cap', cur, h1, _, _, hc, hm, _⟩
      · cases h1
      · injection h1 with _ _ h3
        omega
    refine ⟨_, cap, rfl, hc.1, rfl, by have := hc.2; simp only [maxLen] at this; omega, fun _ => ⟨_, rfl, fun j p hj => ⟨[.int .i64 p], rfl, rfl, fun i u hu => ?_⟩⟩⟩
    match i, hu with
    | 0, hu =>
      obtain rfl : Value.int .i64 p = u := by simpa using hu
      have := h.cells (g := g) rfl j (.int .i64 p) (by simp [nums, hj])
      simpa [Kd.int, Kd.scalar] using this

theorem own_ne {w : World} {base : Nat} {e : TypeId} {size n : Nat} {v : Value} {xs : List Value} (h : w.ownsRow base e size v n xs) {g : Nat} {t : TypeId} {cs : Array Value} (hb : w.heap[g]? = some (.cells cs t (0, 0))) (ht : e ≠ t) : some g ≠ v.ownBlock := by
  intro he
  obtain ⟨cells, hc⟩ := own_typed h g he.symm
  rw [hb] at hc
  injection hc with hc
  injection hc with _ hc
  exact ht hc.symm

/-- What one round leaves. -/
theorem pairs_round {w wr w2 : World} {v v' : Value} {k n : Nat} {xs ys : List Int} {z : Int} {cs : Array Value} (hys : ys = xs ++ [z]) (HO : wr.ownsRow w.heap.size 3 1 v k (nums .i64 xs)) (HB : Below w.heap.size w wr) (HK : wr.heap[w.heap.size + 1]? = some (.cells cs 40 (0, 0)))
    (hown : w2.ownsRow w.heap.size 3 1 v' (k + 1) (nums .i64 xs ++ [.int .i64 z])) (hg : ((wr.drewN n).alloc (.cells #[.int .i64 z] 3)).grownBy w2 v.ownBlock) :
    Aside0 (w2.ownsRow w.heap.size 3 1 v' (k + 1) (nums .i64 ys)) ∧ Aside0 (Below w.heap.size w w2) ∧ Aside0 (w2.heap[w.heap.size + 1]? = some (.cells cs 40 (0, 0))) := by
  refine ⟨⟨?_⟩, ⟨?_⟩, ⟨?_⟩⟩
  · rw [hys]
    simpa [nums] using hown
  · exact Below.grown (below_alloc (pw_below_drewN HB n) _) hg (below_alloc (pw_below_drewN HB n) _).size (fun q hq => own_base HO q hq)
  · exact blk_grown (blk_alloc (blk_drewN HK n) _) hg (own_ne HO HK (by decide))

set_option maxHeartbeats 8000000 in
theorem pairs_calls (g : Nat) (hg : g = 57 ∨ g = 59) {T : ByteArray → Option ByteArray} {a b : List ByteArray} {A1 B1 : Option Addr} {c1 d1 : Nat} {vA2 vA3 vB2 vB3 : Value} {w : World}
    (ha : Kd.string.C w A1 a.length a) (hb : Kd.string.C w B1 b.length b) (hd : b.length ≤ d1) (hT : Turns g T a) (hsz : a.length * 16 ≤ 140737488351232)
    (h2 : vA2.oneCell' = true) (h3 : vA3.oneCell' = true) (h4 : vB2.oneCell' = true) (h5 : vB3.oneCell' = true) :
    Calls Try.prog 56 #[.agg #[.slice A1 a.length c1, vA2, vA3], .agg #[.slice B1 b.length d1, vB2, vB3], .func (.func g) #[] #[]] w
      fun e w' => ∃ (A : Option Addr) (cap : Nat), e = .returned (.slice A (pairsF T a b).length cap) ∧ (pairsF T a b).length ≤ cap ∧ (Kd.int .i64).C w' A (pairsF T a b).length (pairsF T a b) ∧ Below w.heap.size w w' := by
  have HA := Aside0.mk ha
  have HB0 := Aside0.mk hb
  have HT := Aside0.mk hT
  have hm1 : a.length ≤ 9223372036854775807 := ha.2.1
  obtain ⟨i0, hi, hz0, hz1, hz2⟩ := info_parts info3'
  clear ha hb hT
  have KB : Aside0 (((w.alloc (.cells #[.slice A1 a.length c1, vA2, vA3] 40)).alloc (.cells #[.slice B1 b.length d1, vB2, vB3] 40)).heap[w.heap.size + 1]? = some (.cells #[.slice B1 b.length d1, vB2, vB3] 40 (0, 0))) := by
    have h := blk_new (w.alloc (.cells #[.slice A1 a.length c1, vA2, vA3] 40)) (.cells #[.slice B1 b.length d1, vB2, vB3] 40)
    simp only [World.size_alloc] at h
    exact ⟨h⟩
  have HW0 := Aside0.mk (below_alloc (below_alloc (Below.refl w.heap.size w) (.cells #[.slice A1 a.length c1, vA2, vA3] 40)) (.cells #[.slice B1 b.length d1, vB2, vB3] 40))
  rcases hg with rfl | rfl
  · go_enter Try.func56, Try.ntmps56
    go_wp2_with fail
    go_loopw [7, 16] (fun v7 v16 wr => ∃ k : Nat, k ≤ a.length ∧ v16 = .int .i64 k ∧ Aside0 (wr.ownsRow w.heap.size 3 1 v7 k (nums .i64 ((pairsF T a b).take k))) ∧ Aside0 (Below w.heap.size w wr) ∧ Aside0 (wr.heap[w.heap.size + 1]? = some (.cells #[.slice B1 b.length d1, vB2, vB3] 40 (0, 0)))) (fun _ v16 _ => a.length - (intOf v16).toNat)
    case atStart => exact ⟨0, Nat.zero_le _, rfl, ⟨World.ownsRow_nil _ _ _ _⟩, HW0, KB⟩
    case round =>
      clear KB HW0
      obtain ⟨k, hk, rfl, HO, HB, HK⟩ := hrel
      by_cases hlt : k < a.length
      · obtain ⟨ad, rfl, _⟩ := HA.out.2.2 (by omega)
        have x0 : wr.cell? (ad.add k) = some (.string a[k]) := strs_cells (Kd.C_below HA.out HB.out) k (.string a[k]) (by simp [pw_strs, hlt])
        obtain ⟨t, ht⟩ := HT.out a[k] (List.getElem_mem hlt)
        have HP := Aside0.mk (pairs_take (T := T) (b := b) hlt)
        rcases ht with ⟨ht, hc⟩ | ⟨ht, hc⟩
        · rw [ht] at HP
          have HC := Aside0.mk hc
          clear ht hc
          generalize a[k] = s at *
          go_wp2_with fail
          refine (HC.out _).mono ?_
          rintro e w1 ⟨rfl, ⟨n1, rfl⟩⟩
          have z0 : wr.cell? ⟨w.heap.size + 1, 0, none⟩ = some (.slice B1 b.length d1) := (blk_cell HK.out 0).trans rfl
          go_wp2_with fail
          refine (index_calls (Kd.C_below HB0.out (pw_below_drewN HB.out _)) hd).mono ?_
          rintro e w1 ⟨rfl, ⟨n2, rfl⟩⟩
          clear z0
          have hw2 := hlt
          go_wp2_with (at_builtin; refine wpList_append_own _ rfl (.tmp 31) (.tmp 33) 28 rfl w.heap.size 3 i0 (.int .i64 0) 1 8 Try.underlying28 hi hz0 hz1 hz2 rfl (by decide) _ k (nums .i64 ((pairsF T a b).take k)) rfl (World.ownsRow.alloc (show (wr.drewN (n1 + n2)).ownsRow w.heap.size 3 1 _ k (nums .i64 ((pairsF T a b).take k)) from HO.out) _) ⟨wr.heap.size, 0, none⟩ 1 1 [.int .i64 (ixB t b)] rfl rfl ?ap1 ?ap2 ?ap3 ?ap4 ?ap5 ?_)
          case ap1 =>
            intro j u hj
            match j, hj with
            | 0, hj =>
              obtain rfl : Value.int .i64 (ixB t b) = u := by simpa using hj
              exact (blk_cell (blk_new (wr.drewN (n1 + n2)) (.cells #[.int .i64 (ixB t b)] 3)) 0).trans rfl
          case ap2 =>
            intro u hu
            obtain rfl : u = Value.int .i64 (ixB t b) := by simpa using hu
            rfl
          case ap3 => simp only [maxLen]; omega
          case ap4 => omega
          case ap5 => exact (below_alloc (pw_below_drewN HB.out _) _).size
          intro v' w2 hown hgrow _
          obtain ⟨R1, R2, R3⟩ := pairs_round HP.out HO.out HB.out HK.out hown hgrow
          clear hown hgrow HO HB HK HP
          go_wp2_with fail
          go_roundw
          case rel => exact ⟨k + 1, by omega, by go_num, R1, R2, R3⟩
          case measure => simp [intOf]; omega
        · rw [ht] at HP
          have HC := Aside0.mk hc
          clear ht hc
          generalize a[k] = s at *
          go_wp2_with fail
          refine (HC.out _).mono ?_
          rintro e w1 ⟨rfl, ⟨n1, rfl⟩⟩
          have hw2 := hlt
          go_wp2_with (at_builtin; refine wpList_append_own _ rfl (.tmp 31) (.tmp 33) 28 rfl w.heap.size 3 i0 (.int .i64 0) 1 8 Try.underlying28 hi hz0 hz1 hz2 rfl (by decide) _ k (nums .i64 ((pairsF T a b).take k)) rfl (World.ownsRow.alloc (show (wr.drewN (n1)).ownsRow w.heap.size 3 1 _ k (nums .i64 ((pairsF T a b).take k)) from HO.out) _) ⟨wr.heap.size, 0, none⟩ 1 1 [.int .i64 (-1)] rfl rfl ?aq1 ?aq2 ?aq3 ?aq4 ?aq5 ?_)
          case aq1 =>
            intro j u hj
            match j, hj with
            | 0, hj =>
              obtain rfl : Value.int .i64 (-1) = u := by simpa using hj
              exact (blk_cell (blk_new (wr.drewN (n1)) (.cells #[.int .i64 (-1)] 3)) 0).trans rfl
          case aq2 =>
            intro u hu
            obtain rfl : u = Value.int .i64 (-1) := by simpa using hu
            rfl
          case aq3 => simp only [maxLen]; omega
          case aq4 => omega
          case aq5 => exact (below_alloc (pw_below_drewN HB.out _) _).size
          intro v' w2 hown hgrow _
          obtain ⟨R1, R2, R3⟩ := pairs_round HP.out HO.out HB.out HK.out hown hgrow
          clear hown hgrow HO HB HK HP
          go_wp2_with fail
          go_roundw
          case rel => exact ⟨k + 1, by omega, by go_num, R1, R2, R3⟩
          case measure => simp [intOf]; omega
      · have HE := Aside0.mk (show (pairsF T a b).take k = pairsF T a b from List.take_of_length_le (by simp [pairsF]; omega))
        have HL2 := Aside0.mk (show k = (pairsF T a b).length by simp [pairsF]; omega)
        have HO2 := HO.out
        rw [HE.out] at HO2
        rw [HL2.out] at HO2
        obtain ⟨A, cap, hv, hc1, hc2⟩ := C_of_ownI HO2
        have HV := Aside0.mk hv
        have HC := Aside0.mk hc2
        clear HO2 hv hc2
        go_wp2_with fail
        go_ret
        exact ⟨A, cap, by rw [← HV.out]; rfl, hc1, HC.out, HB.out⟩

  · go_enter Try.func56, Try.ntmps56
    go_wp2_with fail
    go_loopw [7, 16] (fun v7 v16 wr => ∃ k : Nat, k ≤ a.length ∧ v16 = .int .i64 k ∧ Aside0 (wr.ownsRow w.heap.size 3 1 v7 k (nums .i64 ((pairsF T a b).take k))) ∧ Aside0 (Below w.heap.size w wr) ∧ Aside0 (wr.heap[w.heap.size + 1]? = some (.cells #[.slice B1 b.length d1, vB2, vB3] 40 (0, 0)))) (fun _ v16 _ => a.length - (intOf v16).toNat)
    case atStart => exact ⟨0, Nat.zero_le _, rfl, ⟨World.ownsRow_nil _ _ _ _⟩, HW0, KB⟩
    case round =>
      clear KB HW0
      obtain ⟨k, hk, rfl, HO, HB, HK⟩ := hrel
      by_cases hlt : k < a.length
      · obtain ⟨ad, rfl, _⟩ := HA.out.2.2 (by omega)
        have x0 : wr.cell? (ad.add k) = some (.string a[k]) := strs_cells (Kd.C_below HA.out HB.out) k (.string a[k]) (by simp [pw_strs, hlt])
        obtain ⟨t, ht⟩ := HT.out a[k] (List.getElem_mem hlt)
        have HP := Aside0.mk (pairs_take (T := T) (b := b) hlt)
        rcases ht with ⟨ht, hc⟩ | ⟨ht, hc⟩
        · rw [ht] at HP
          have HC := Aside0.mk hc
          clear ht hc
          generalize a[k] = s at *
          go_wp2_with fail
          refine (HC.out _).mono ?_
          rintro e w1 ⟨rfl, ⟨n1, rfl⟩⟩
          have z0 : wr.cell? ⟨w.heap.size + 1, 0, none⟩ = some (.slice B1 b.length d1) := (blk_cell HK.out 0).trans rfl
          go_wp2_with fail
          refine (index_calls (Kd.C_below HB0.out (pw_below_drewN HB.out _)) hd).mono ?_
          rintro e w1 ⟨rfl, ⟨n2, rfl⟩⟩
          clear z0
          have hw2 := hlt
          go_wp2_with (at_builtin; refine wpList_append_own _ rfl (.tmp 31) (.tmp 33) 28 rfl w.heap.size 3 i0 (.int .i64 0) 1 8 Try.underlying28 hi hz0 hz1 hz2 rfl (by decide) _ k (nums .i64 ((pairsF T a b).take k)) rfl (World.ownsRow.alloc (show (wr.drewN (n1 + n2)).ownsRow w.heap.size 3 1 _ k (nums .i64 ((pairsF T a b).take k)) from HO.out) _) ⟨wr.heap.size, 0, none⟩ 1 1 [.int .i64 (ixB t b)] rfl rfl ?bp1 ?bp2 ?bp3 ?bp4 ?bp5 ?_)
          case bp1 =>
            intro j u hj
            match j, hj with
            | 0, hj =>
              obtain rfl : Value.int .i64 (ixB t b) = u := by simpa using hj
              exact (blk_cell (blk_new (wr.drewN (n1 + n2)) (.cells #[.int .i64 (ixB t b)] 3)) 0).trans rfl
          case bp2 =>
            intro u hu
            obtain rfl : u = Value.int .i64 (ixB t b) := by simpa using hu
            rfl
          case bp3 => simp only [maxLen]; omega
          case bp4 => omega
          case bp5 => exact (below_alloc (pw_below_drewN HB.out _) _).size
          intro v' w2 hown hgrow _
          obtain ⟨R1, R2, R3⟩ := pairs_round HP.out HO.out HB.out HK.out hown hgrow
          clear hown hgrow HO HB HK HP
          go_wp2_with fail
          go_roundw
          case rel => exact ⟨k + 1, by omega, by go_num, R1, R2, R3⟩
          case measure => simp [intOf]; omega
        · rw [ht] at HP
          have HC := Aside0.mk hc
          clear ht hc
          generalize a[k] = s at *
          go_wp2_with fail
          refine (HC.out _).mono ?_
          rintro e w1 ⟨rfl, ⟨n1, rfl⟩⟩
          have hw2 := hlt
          go_wp2_with (at_builtin; refine wpList_append_own _ rfl (.tmp 31) (.tmp 33) 28 rfl w.heap.size 3 i0 (.int .i64 0) 1 8 Try.underlying28 hi hz0 hz1 hz2 rfl (by decide) _ k (nums .i64 ((pairsF T a b).take k)) rfl (World.ownsRow.alloc (show (wr.drewN (n1)).ownsRow w.heap.size 3 1 _ k (nums .i64 ((pairsF T a b).take k)) from HO.out) _) ⟨wr.heap.size, 0, none⟩ 1 1 [.int .i64 (-1)] rfl rfl ?bq1 ?bq2 ?bq3 ?bq4 ?bq5 ?_)
          case bq1 =>
            intro j u hj
            match j, hj with
            | 0, hj =>
              obtain rfl : Value.int .i64 (-1) = u := by simpa using hj
              exact (blk_cell (blk_new (wr.drewN (n1)) (.cells #[.int .i64 (-1)] 3)) 0).trans rfl
          case bq2 =>
            intro u hu
            obtain rfl : u = Value.int .i64 (-1) := by simpa using hu
            rfl
          case bq3 => simp only [maxLen]; omega
          case bq4 => omega
          case bq5 => exact (below_alloc (pw_below_drewN HB.out _) _).size
          intro v' w2 hown hgrow _
          obtain ⟨R1, R2, R3⟩ := pairs_round HP.out HO.out HB.out HK.out hown hgrow
          clear hown hgrow HO HB HK HP
          go_wp2_with fail
          go_roundw
          case rel => exact ⟨k + 1, by omega, by go_num, R1, R2, R3⟩
          case measure => simp [intOf]; omega
      · have HE := Aside0.mk (show (pairsF T a b).take k = pairsF T a b from List.take_of_length_le (by simp [pairsF]; omega))
        have HL2 := Aside0.mk (show k = (pairsF T a b).length by simp [pairsF]; omega)
        have HO2 := HO.out
        rw [HE.out] at HO2
        rw [HL2.out] at HO2
        obtain ⟨A, cap, hv, hc1, hc2⟩ := C_of_ownI HO2
        have HV := Aside0.mk hv
        have HC := Aside0.mk hc2
        clear HO2 hv hc2
        go_wp2_with fail
        go_ret
        exact ⟨A, cap, by rw [← HV.out]; rfl, hc1, HC.out, HB.out⟩

end Go.Proofs.Ytmpmcffhlnlejaa.SubEq
