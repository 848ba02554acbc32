/- Contracts of scarfref14's turned, place, pairs and each: the same plain functions as the program's. -/
import Derived.Test.YtmpmcffhlnlejaaSubPairs
import Derived.Test.YtmpmcffhlnlejaaPSubFitsx4
namespace Go.Proofs.Ytmpmcffhlnlejaa.SubEq
open Go.RowKit Go.Proofs.YtmpmcffhlnlejaaW.PrintWords Go.Proofs.YtmpmcffhlnlejaaW.PrintLast Go.Proofs.YtmpmcffhlnlejaaW.PrintMore
open Go.Proofs.Ytmpmcffhlnlejaa.PSubFits
set_option linter.unusedVariables false
set_option linter.unusedSimpArgs false

theorem str_cell {w : World} {A : Option Addr} {xs : List ByteArray} (h : Kd.string.C w A xs.length xs) {k : Nat} (hk : k < xs.length) : ∃ ad, A = some ad ∧ w.cell? (ad.add k) = some (.string xs[k]) := by
  obtain ⟨ad, rfl, _⟩ := h.2.2 (by omega)
  exact ⟨ad, rfl, strs_cells h k (.string xs[k]) (by simp [pw_strs, hk])⟩

set_option maxHeartbeats 1000000 in
theorem place_calls {A : Option Addr} {c : Nat} {xs : List ByteArray} {t : ByteArray} {w : World} (hx : Kd.string.C w A xs.length xs) :
    Calls Try.prog 82 #[.slice A xs.length c, .string t] w fun e w' => e = .returned (.int .i64 (ixB t xs)) ∧ w = w' := by
  have hm1 : xs.length ≤ 9223372036854775807 := hx.2.1
  have HX := Aside0.mk hx
  clear hx
  go_enter Try.func82, Try.ntmps82
  go_wp2_with fail
  go_loop [5] (fun v5 => ∃ k : Nat, k ≤ xs.length ∧ v5 = .int .i64 k ∧ Aside0 (ixB t xs = ixBFrom t xs k)) (fun v5 => xs.length - (intOf v5).toNat)
  case atStart => exact ⟨0, Nat.zero_le _, rfl, ⟨(ixBFrom_zero t xs).symm⟩⟩
  case round =>
    obtain ⟨k, hk, rfl, HE⟩ := hrel
    by_cases hlt : k < xs.length
    · obtain ⟨ad, rfl, x0⟩ := str_cell HX.out hlt
      have M1 := Aside0.mk (fun h => ixBFrom_hit (t := t) (l := xs) (k := k) hlt h)
      have M2 := Aside0.mk (fun h => ixBFrom_miss (t := t) (l := xs) (k := k) hlt h)
      have he := names_beq xs[k] t
      generalize xs[k] = s at *
      by_cases hs : s = t
      · rw [decide_eq_true hs] at he
        have HR := Aside0.mk (HE.out.trans (M1.out hs))
        clear hs M1 M2 HE
        go_wp2_with fail
        go_ret
        exact ⟨by rw [HR.out]; rfl, rfl⟩
      · rw [decide_eq_false hs] at he
        have HR := Aside0.mk (HE.out.trans (M2.out hs))
        clear hs M1 M2 HE
        go_wp2_with fail
        go_round
        case rel => exact ⟨k + 1, by omega, by go_num, HR⟩
        case measure => simp [intOf]; omega
    · have HR := Aside0.mk (HE.out.trans (ixBFrom_end (by omega)))
      go_wp2_with fail
      go_ret
      exact ⟨by rw [HR.out]; rfl, rfl⟩

/-- What scarfref14.turned gives. -/
def turnedV (s : ByteArray) : ByteArray := match impT s with
  | some t => t
  | none => ⟨#[]⟩

theorem turned_calls {s : ByteArray} {w : World} (hs : s.size ≤ 140737488351232) :
    Calls Try.prog 81 #[.string s] w fun e w' => e = .returned (.string (turnedV s)) ∧ w = w' := by
  by_cases h7 : 7 ≤ s.size
  · by_cases hp : (s.extract 0 7).toList = ([105, 109, 112, 111, 114, 116, 32] : List UInt8)
    · have HR := Aside0.mk (show turnedV s = (⟨#[101, 120, 112, 111, 114, 116, 32]⟩ : ByteArray) ++ s.extract 7 s.size by unfold turnedV impT; rw [if_pos ⟨h7, hp⟩])
      have e1 : ((s.extract 0 7).toList == ([105, 109, 112, 111, 114, 116, 32] : List UInt8)) = true := beq_iff_eq.mpr hp
      have e2 : decide ((7 : Int) ≤ (s.size : Int)) = true := decide_eq_true (by omega)
      have e3 : (7 : Int) ≤ (s.size : Int) := by omega
      clear hp
      go_enter Try.func81, Try.ntmps81
      go_wp2_with fail
      go_ret
      exact ⟨by rw [HR.out]; rfl, rfl⟩
    · have HR := Aside0.mk (show turnedV s = ⟨#[]⟩ by unfold turnedV impT; rw [if_neg (fun h => hp h.2)])
      have e1 : ((s.extract 0 7).toList == ([105, 109, 112, 111, 114, 116, 32] : List UInt8)) = false := beq_eq_false_iff_ne.mpr hp
      have e2 : decide ((7 : Int) ≤ (s.size : Int)) = true := decide_eq_true (by omega)
      have e3 : (7 : Int) ≤ (s.size : Int) := by omega
      clear hp
      go_enter Try.func81, Try.ntmps81
      go_wp2_with fail
      go_ret
      exact ⟨by rw [HR.out]; rfl, rfl⟩
  · have HR := Aside0.mk (show turnedV s = ⟨#[]⟩ by unfold turnedV impT; rw [if_neg (fun h => h7 h.1)])
    have e2 : decide ((7 : Int) ≤ (s.size : Int)) = false := decide_eq_false (by omega)
    go_enter Try.func81, Try.ntmps81
    go_wp2_with fail
    go_ret
    exact ⟨by rw [HR.out]; rfl, rfl⟩

theorem impT_ne {s t : ByteArray} (h : impT s = some t) : ¬ t.toList = [] := by
  unfold impT at h
  split at h
  · injection h with h
    subst h
    intro e
    rw [ByteArray.toList_eq] at e
    have := congrArg List.length e
    simp [ByteArray.data_append] at this
  · cases h

def turnT (turn : Bool) : ByteArray → Option ByteArray := if turn = true then impT else selfT

/-- What one round of the reference's pairs leaves. -/
theorem rpairs_round {w wr w2 : World} {v v' : Value} {k : Nat} {xs ys : List Int} {z : Int} (hys : ys = xs ++ [z]) (HO : wr.ownsRow w.heap.size 3 1 v k (nums .i64 xs)) (HB : Below w.heap.size w wr)
    (hown : w2.ownsRow w.heap.size 3 1 v' (k + 1) (nums .i64 xs ++ [.int .i64 z])) (hg : (wr.alloc (.cells #[.int .i64 z] 3)).grownBy w2 v.ownBlock) :
    Aside0 (w2.ownsRow w.heap.size 3 1 v' (k + 1) (nums .i64 ys)) ∧ Aside0 (Below w.heap.size w w2) := by
  refine ⟨⟨?_⟩, ⟨?_⟩⟩
  · rw [hys]
    simpa [nums] using hown
  · exact Below.grown (below_alloc HB _) hg (below_alloc HB _).size (fun q hq => own_base HO q hq)

set_option maxHeartbeats 8000000 in
theorem rpairs_calls (turn : Bool) {a b : List ByteArray} {A1 B1 : Option Addr} {c1 d1 : Nat} {w : World}
    (ha : Kd.string.C w A1 a.length a) (hb : Kd.string.C w B1 b.length b) (hsz : a.length * 16 ≤ 140737488351232) (hss : ∀ s ∈ a, s.size ≤ 140737488351232) :
    Calls Try.prog 61 #[.slice A1 a.length c1, .slice B1 b.length d1, .bool turn] w
      fun e w' => ∃ (A : Option Addr) (cap : Nat), e = .returned (.slice A (pairsF (turnT turn) a b).length cap) ∧ (pairsF (turnT turn) a b).length ≤ cap ∧ (Kd.int .i64).C w' A (pairsF (turnT turn) a b).length (pairsF (turnT turn) a b) ∧ Below w.heap.size w w' := by
  have HA := Aside0.mk ha
  have HB0 := Aside0.mk hb
  have HS := Aside0.mk hss
  have hm1 : a.length ≤ 9223372036854775807 := ha.2.1
  obtain ⟨i0, hi, hz0, hz1, hz2⟩ := info_parts info3'
  clear ha hb hss
  go_enter Try.func61, Try.ntmps61
  go_wp2_with fail
  go_loopw [7, 8] (fun v7 v8 wr => ∃ k : Nat, k ≤ a.length ∧ v8 = .int .i64 k ∧ Aside0 (wr.ownsRow w.heap.size 3 1 v7 k (nums .i64 ((pairsF (turnT turn) a b).take k))) ∧ Aside0 (Below w.heap.size w wr)) (fun _ v8 _ => a.length - (intOf v8).toNat)
  case atStart => exact ⟨0, Nat.zero_le _, rfl, ⟨World.ownsRow_nil _ _ _ _⟩, ⟨Below.refl _ _⟩⟩
  case round =>
    obtain ⟨k, hk, rfl, HO, HB⟩ := hrel
    by_cases hlt : k < a.length
    · obtain ⟨ad, rfl, x0⟩ := str_cell (Kd.C_below HA.out HB.out) hlt
      have HP := Aside0.mk (pairs_take (T := turnT turn) (b := b) hlt)
      have HZ := Aside0.mk (HS.out a[k] (List.getElem_mem hlt))
      generalize a[k] = s at *
      cases turn with
      | false =>
        have HP2 := Aside0.mk (show (pairsF (turnT false) a b).take (k + 1) = (pairsF (turnT false) a b).take k ++ [ixB s b] from HP.out)
        clear HP
        go_wp2_with fail
        refine (place_calls (Kd.C_below HB0.out HB.out)).mono ?_
        rintro e w1 ⟨rfl, rfl⟩
        go_wp2_with (at_builtin; refine wpList_append_own _ rfl (.tmp 31) (.tmp 35) 28 rfl w.heap.size 3 i0 (.int .i64 0) 1 8 Try.underlying28 hi hz0 hz1 hz2 rfl (by decide) _ k (nums .i64 ((pairsF (turnT false) a b).take k)) rfl (World.ownsRow.alloc HO.out _) ⟨wr.heap.size, 0, none⟩ 1 1 [.int .i64 (ixB s b)] rfl rfl ?pa1 ?pa2 ?pa3 ?pa4 ?pa5 ?_)
        case pa1 =>
          intro j u hj
          match j, hj with
          | 0, hj =>
            obtain rfl : Value.int .i64 (ixB s b) = u := by simpa using hj
            exact (blk_cell (blk_new wr (.cells #[.int .i64 (ixB s b)] 3)) 0).trans rfl
        case pa2 =>
          intro u hu
          obtain rfl : u = Value.int .i64 (ixB s b) := by simpa using hu
          rfl
        case pa3 => simp only [maxLen]; omega
        case pa4 => omega
        case pa5 => exact (below_alloc HB.out _).size
        intro v' w2 hown hgrow _
        obtain ⟨R1, R2⟩ := rpairs_round HP2.out HO.out HB.out hown hgrow
        clear hown hgrow HO HB HP2
        go_wp2_with fail
        go_roundw
        case rel => exact ⟨k + 1, by omega, by go_num, R1, R2⟩
        case measure => simp [intOf]; omega
      | true =>
        cases ht : impT s with
        | none =>
          have HP2 := Aside0.mk (show (pairsF (turnT true) a b).take (k + 1) = (pairsF (turnT true) a b).take k ++ [-1] by rw [HP.out]; simp only [turnT, if_true, ht])
          have HT := Aside0.mk (show turnedV s = ⟨#[]⟩ by rw [turnedV, ht])
          clear HP ht
          go_wp2_with fail
          refine (turned_calls HZ.out).mono ?_
          rintro e w1 ⟨rfl, rfl⟩
          rw [HT.out]
          go_wp2_with (at_builtin; refine wpList_append_own _ rfl (.tmp 28) (.tmp 29) 28 rfl w.heap.size 3 i0 (.int .i64 0) 1 8 Try.underlying28 hi hz0 hz1 hz2 rfl (by decide) _ k (nums .i64 ((pairsF (turnT true) a b).take k)) rfl (World.ownsRow.alloc HO.out _) ⟨wr.heap.size, 0, none⟩ 1 1 [.int .i64 (-1)] rfl rfl ?pb1 ?pb2 ?pb3 ?pb4 ?pb5 ?_)
          case pb1 =>
            intro j u hj
            match j, hj with
            | 0, hj =>
              obtain rfl : Value.int .i64 (-1) = u := by simpa using hj
              exact (blk_cell (blk_new wr (.cells #[.int .i64 (-1)] 3)) 0).trans rfl
          case pb2 =>
            intro u hu
            obtain rfl : u = Value.int .i64 (-1) := by simpa using hu
            rfl
          case pb3 => simp only [maxLen]; omega
          case pb4 => omega
          case pb5 => exact (below_alloc HB.out _).size
          intro v' w2 hown hgrow _
          obtain ⟨R1, R2⟩ := rpairs_round HP2.out HO.out HB.out hown hgrow
          clear hown hgrow HO HB HP2
          go_wp2_with fail
          go_roundw
          case rel => exact ⟨k + 1, by omega, by go_num, R1, R2⟩
          case measure => simp [intOf]; omega
        | some t =>
          have HP2 := Aside0.mk (show (pairsF (turnT true) a b).take (k + 1) = (pairsF (turnT true) a b).take k ++ [ixB t b] by rw [HP.out]; simp only [turnT, if_true, ht])
          have HT := Aside0.mk (show turnedV s = t by rw [turnedV, ht])
          have hne : ¬ t.toList = [] := impT_ne ht
          have hne2 : t.toList.isEmpty = false := by cases h : t.toList; exact absurd h hne; rfl
          have hne3 : (t.toList == []) = false := beq_eq_false_iff_ne.mpr hne
          clear HP ht
          go_wp2_with fail
          refine (turned_calls HZ.out).mono ?_
          rintro e w1 ⟨rfl, rfl⟩
          rw [HT.out]
          go_wp2_with fail
          refine (place_calls (Kd.C_below HB0.out HB.out)).mono ?_
          rintro e w1 ⟨rfl, rfl⟩
          clear hne hne2 hne3
          go_wp2_with (at_builtin; refine wpList_append_own _ rfl (.tmp 31) (.tmp 35) 28 rfl w.heap.size 3 i0 (.int .i64 0) 1 8 Try.underlying28 hi hz0 hz1 hz2 rfl (by decide) _ k (nums .i64 ((pairsF (turnT true) a b).take k)) rfl (World.ownsRow.alloc HO.out _) ⟨wr.heap.size, 0, none⟩ 1 1 [.int .i64 (ixB t b)] rfl rfl ?pc1 ?pc2 ?pc3 ?pc4 ?pc5 ?_)
          case pc1 =>
            intro j u hj
            match j, hj with
            | 0, hj =>
              obtain rfl : Value.int .i64 (ixB t b) = u := by simpa using hj
              exact (blk_cell (blk_new wr (.cells #[.int .i64 (ixB t b)] 3)) 0).trans rfl
          case pc2 =>
            intro u hu
            obtain rfl : u = Value.int .i64 (ixB t b) := by simpa using hu
            rfl
          case pc3 => simp only [maxLen]; omega
          case pc4 => omega
          case pc5 => exact (below_alloc HB.out _).size
          intro v' w2 hown hgrow _
          obtain ⟨R1, R2⟩ := rpairs_round HP2.out HO.out HB.out hown hgrow
          clear hown hgrow HO HB HP2
          go_wp2_with fail
          go_roundw
          case rel => exact ⟨k + 1, by omega, by go_num, R1, R2⟩
          case measure => simp [intOf]; omega
    · have HE := Aside0.mk (show (pairsF (turnT turn) a b).take k = pairsF (turnT turn) a b from List.take_of_length_le (by simp [pairsF]; omega))
      have HL2 := Aside0.mk (show k = (pairsF (turnT turn) a b).length by simp [pairsF]; omega)
      have HO2 := HO.out
      rw [HE.out] at HO2
      rw [HL2.out] at HO2
      obtain ⟨A, cap, hv, hc1, hc2⟩ := C_of_ownI HO2
      have HV := Aside0.mk hv
      have HC := Aside0.mk hc2
      clear HO2 hv hc2
      go_wp2_with fail
      go_ret
      exact ⟨A, cap, by rw [← HV.out]; rfl, hc1, HC.out, HB.out⟩
end Go.Proofs.Ytmpmcffhlnlejaa.SubEq
