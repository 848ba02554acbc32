/- A part of the proof of the law that its last file names: texts of this seat's author and of the kit's printer, cut to what the theorem uses. Part 9: PSubFitsx1, Mk1, Mk2, Mk3. -/
import Derived.Test.YtmpmcffhlnlejaaCt08
section
namespace Go.Proofs.Ytmpmcffhlnlejaa.PSubFits
open Go.RowKit Go.Proofs.YtmpmcffhlnlejaaW.PrintWords Go.Proofs.YtmpmcffhlnlejaaW.PrintLast Go.Proofs.YtmpmcffhlnlejaaW.PrintMore
attribute [local go_sem] max2_int min2_int max_two min_two max_three min_three max_four min_four   -- for this text's walks alone
set_option linter.unusedVariables false
set_option linter.unusedSimpArgs false
def slices_Equal_string_string.l0 : Nat → List ByteArray → List ByteArray → Int → Int → Option (Bool)
  | 0, _, _, _, _ => none
  | k + 1, x0, x1, x12, x13 => if x13 < x12 then (if 0 ≤ x13 then (if x13 < (x0.length : Int) then (if x13 < (x1.length : Int) then (if (rdOf ByteArray.empty x0 x13).toList = (rdOf ByteArray.empty x1 x13).toList then (slices_Equal_string_string.l0 k x0 x1 x12 (wrap64 (x13 + 1))) else (some false)) else (none)) else (none)) else (none)) else (some true)
def slices_Equal_string_string.f (k : Nat) (l0 : List ByteArray) (l1 : List ByteArray) : Option (Bool) := if (l0.length : Int) = (l1.length : Int) then (slices_Equal_string_string.l0 k l0 l1 (l0.length : Int) 0) else (some false)
set_option maxHeartbeats 8000000 in
set_option maxRecDepth 100000 in
theorem slices_Equal_string_string.calls (k : Nat) (A0 : Option Addr) (c0 : Nat) (l0 : List ByteArray) (A1 : Option Addr) (c1 : Nat) (l1 : List ByteArray) (r : Bool) (w : World) (hr0 : Kd.C Kd.string w A0 l0.length l0) (hc0 : l0.length ≤ c0) (hr1 : Kd.C Kd.string w A1 l1.length l1) (hc1 : l1.length ≤ c1) (h : slices_Equal_string_string.f k l0 l1 = some r) :
    Calls Try.prog 51 #[.slice A0 l0.length c0, .slice A1 l1.length c1] w fun e w' => e = .returned (.bool r) ∧ Drawn0 w w' := by
  have HR0 := Aside0.mk hr0
  have HC0 := Aside0.mk hc0
  clear hr0 hc0
  have HR1 := Aside0.mk hr1
  have HC1 := Aside0.mk hc1
  clear hr1 hc1
  have H : (if (l0.length : Int) = (l1.length : Int) then (slices_Equal_string_string.l0 k l0 l1 (l0.length : Int) 0) else (some false)) = some r := h
  clear h
  by_cases c3 : (l0.length : Int) = (l1.length : Int)
  · rw [if_pos c3] at H
    have c3b0 : ((l0.length : Int) == (l1.length : Int)) = true := beq_iff_eq.mpr c3
    have c3b1 : ((l0.length : Int) != (l1.length : Int)) = false := bne_eq_false_iff_eq.mpr c3
    have c3b2 : (l0.length == l1.length) = true := by first | simpa using c3 | (simp at c3 ⊢; omega)
    clear c3
    have H' := Aside0.mk H
    clear H
    go_enter Try.func51, Try.ntmps51
    go_wp2
    repeat (go_quiet (fail); try go_wp2)
    go_loopg [13] k (fun kq v13 w' => ∃ (x13_1 : Int), v13 = .int .i64 x13_1 ∧ Aside0 (slices_Equal_string_string.l0 kq l0 l1 (l0.length : Int) x13_1 = some r) ∧ Aside0 (kq ≤ k) ∧ Drawn0 w w')
    case atStart => exact ⟨(0), (by first | rfl | (simp; done) | (simp [*]; done)), H', ⟨Nat.le_refl _⟩, by repeat (first | exact Drawn0.refl _ | apply Drawn0.step)⟩
    case round =>
      clear H'
      try clear c1
      try clear p2
      try clear c3
      try clear c3b0
      try clear c3b1
      try clear c3b2
      obtain ⟨x13_1, rfl, HA, HK1, ⟨m1, rfl⟩⟩ := hrel
      cases gk with
      | zero => exact absurd HA.out (by simp [slices_Equal_string_string.l0])
      | succ k1 =>
        have H := HA.out
        clear HA
        simp only [slices_Equal_string_string.l0] at H
        by_cases c4 : x13_1 < (l0.length : Int)
        · rw [if_pos c4] at H
          have c4b0 : decide (x13_1 < (l0.length : Int)) = true := decide_eq_true c4
          clear c4
          by_cases c5 : 0 ≤ x13_1
          · rw [if_pos c5] at H
            have c5b0 : decide (0 ≤ x13_1) = true := decide_eq_true c5
            clear c5
            by_cases c6 : x13_1 < (l0.length : Int)
            · rw [if_pos c6] at H
              have c6b0 : decide (x13_1 < (l0.length : Int)) = true := decide_eq_true c6
              clear c6
              by_cases c7 : x13_1 < (l1.length : Int)
              · rw [if_pos c7] at H
                have c7b0 : decide (x13_1 < (l1.length : Int)) = true := decide_eq_true c7
                clear c7
                by_cases c8 : (rdOf ByteArray.empty l0 x13_1).toList = (rdOf ByteArray.empty l1 x13_1).toList
                · rw [if_pos c8] at H
                  have c8b0 : ((rdOf ByteArray.empty l0 x13_1).toList == (rdOf ByteArray.empty l1 x13_1).toList) = true := beq_iff_eq.mpr c8
                  have c8b1 : ((rdOf ByteArray.empty l0 x13_1).toList != (rdOf ByteArray.empty l1 x13_1).toList) = false := bne_eq_false_iff_eq.mpr c8
                  clear c8
                  have H' := Aside0.mk H
                  clear H
                  have p101 : 0 ≤ (x13_1 : Int) := of_decide_eq_true (by first | (with_reducible assumption) | assumption)
                  have q101 : x13_1 < (l0.length : Int) := of_decide_eq_true (by first | (with_reducible assumption) | assumption)
                  obtain ⟨ad101, e101, hx101_0⟩ := Kd.at_string HR0.out x13_1 p101 q101
                  cases e101
                  replace p101 := eq_true p101
                  replace q101 := eq_true q101
                  have p102 : 0 ≤ (x13_1 : Int) := of_decide_eq_true (by first | (with_reducible assumption) | assumption)
                  have q102 : x13_1 < (l1.length : Int) := of_decide_eq_true (by first | (with_reducible assumption) | assumption)
                  obtain ⟨ad102, e102, hx102_0⟩ := Kd.at_string HR1.out x13_1 p102 q102
                  cases e102
                  replace p102 := eq_true p102
                  replace q102 := eq_true q102
                  go_wp2
                  repeat (go_quiet (fail); try go_wp2)
                  go_roundg k1
                  case measure => have := HK1.out; omega
                  case rel => exact ⟨(wrap64 (x13_1 + 1)), (by first | rfl | (simp; done) | (simp [*]; done)), H', ⟨by have := HK1.out; omega⟩, by repeat (first | exact Drawn0.refl _ | apply Drawn0.step)⟩
                · rw [if_neg c8] at H
                  have c8b0 : ((rdOf ByteArray.empty l0 x13_1).toList == (rdOf ByteArray.empty l1 x13_1).toList) = false := beq_eq_false_iff_ne.mpr c8
                  have c8b1 : ((rdOf ByteArray.empty l0 x13_1).toList != (rdOf ByteArray.empty l1 x13_1).toList) = true := bne_iff_ne.mpr c8
                  obtain rfl := Option.some.inj H
                  have p101 : 0 ≤ (x13_1 : Int) := of_decide_eq_true (by first | (with_reducible assumption) | assumption)
                  have q101 : x13_1 < (l0.length : Int) := of_decide_eq_true (by first | (with_reducible assumption) | assumption)
                  obtain ⟨ad101, e101, hx101_0⟩ := Kd.at_string HR0.out x13_1 p101 q101
                  cases e101
                  replace p101 := eq_true p101
                  replace q101 := eq_true q101
                  have p102 : 0 ≤ (x13_1 : Int) := of_decide_eq_true (by first | (with_reducible assumption) | assumption)
                  have q102 : x13_1 < (l1.length : Int) := of_decide_eq_true (by first | (with_reducible assumption) | assumption)
                  obtain ⟨ad102, e102, hx102_0⟩ := Kd.at_string HR1.out x13_1 p102 q102
                  cases e102
                  replace p102 := eq_true p102
                  replace q102 := eq_true q102
                  go_wp2
                  repeat (go_quiet (fail); try go_wp2)
                  go_ret
                  exact ⟨by first | rfl | (simp; done) | (simp [*]; done), by repeat (first | exact Drawn0.refl _ | apply Drawn0.step)⟩
              · rw [if_neg c7] at H
                exact absurd H (by simp)
            · rw [if_neg c6] at H
              exact absurd H (by simp)
          · rw [if_neg c5] at H
            exact absurd H (by simp)
        · rw [if_neg c4] at H
          have c4b0 : decide (x13_1 < (l0.length : Int)) = false := decide_eq_false c4
          clear c4
          obtain rfl := Option.some.inj H
          go_wp2
          repeat (go_quiet (fail); try go_wp2)
          go_ret
          exact ⟨by first | rfl | (simp; done) | (simp [*]; done), by repeat (first | exact Drawn0.refl _ | apply Drawn0.step)⟩
  · rw [if_neg c3] at H
    have c3b0 : ((l0.length : Int) == (l1.length : Int)) = false := beq_eq_false_iff_ne.mpr c3
    have c3b1 : ((l0.length : Int) != (l1.length : Int)) = true := bne_iff_ne.mpr c3
    have c3b2 : (l0.length == l1.length) = false := by first | simpa using c3 | (simp at c3 ⊢; omega)
    obtain rfl := Option.some.inj H
    go_enter Try.func51, Try.ntmps51
    go_wp2
    repeat (go_quiet (fail); try go_wp2)
    go_ret
    exact ⟨by first | rfl | (simp; done) | (simp [*]; done), by repeat (first | exact Drawn0.refl _ | apply Drawn0.step)⟩
-- NOT PRINTED: function 52 (api_Type)
-- NOT PRINTED: function 50 (subtype_same)
-- NOT PRINTED: function 15 (subtype_Same)
-- NOT PRINTED: function 19 (scarflaw14_awake)
-- NOT PRINTED: function 17 (subtype_Sigs)
-- NOT PRINTED: function 94 (api_Sig)
-- NOT PRINTED: function 78 (subtype_find)
-- NOT PRINTED: function 55 (subtype_all)
def slices_Index_string_string.l0 : Nat → List ByteArray → ByteArray → Int → Int → Option (Int)
  | 0, _, _, _, _ => none
  | k + 1, x0, x1, x7, x8 => if x8 < x7 then (if 0 ≤ x8 then (if x8 < (x0.length : Int) then (if x1.toList = (rdOf ByteArray.empty x0 x8).toList then (some x8) else (slices_Index_string_string.l0 k x0 x1 x7 (wrap64 (x8 + 1)))) else (none)) else (none)) else (some (-1))
def slices_Index_string_string.f (k : Nat) (l0 : List ByteArray) (a1 : ByteArray) : Option (Int) := slices_Index_string_string.l0 k l0 a1 (l0.length : Int) 0
set_option maxHeartbeats 8000000 in
set_option maxRecDepth 100000 in
theorem slices_Index_string_string.calls (k : Nat) (A0 : Option Addr) (c0 : Nat) (l0 : List ByteArray) (a1 : ByteArray) (r : Int) (w : World) (hr0 : Kd.C Kd.string w A0 l0.length l0) (hc0 : l0.length ≤ c0) (h : slices_Index_string_string.f k l0 a1 = some r) :
    Calls Try.prog 79 #[.slice A0 l0.length c0, .string a1] w fun e w' => e = .returned (.int .i64 r) ∧ Drawn0 w w' := by
  have HR0 := Aside0.mk hr0
  have HC0 := Aside0.mk hc0
  clear hr0 hc0
  have H : (slices_Index_string_string.l0 k l0 a1 (l0.length : Int) 0) = some r := h
  clear h
  have H' := Aside0.mk H
  clear H
  go_enter Try.func79, Try.ntmps79
  go_wp2
  go_loopg [8] k (fun kq v8 w' => ∃ (x8_1 : Int), v8 = .int .i64 x8_1 ∧ Aside0 (slices_Index_string_string.l0 kq l0 a1 (l0.length : Int) x8_1 = some r) ∧ Aside0 (kq ≤ k) ∧ Drawn0 w w')
  case atStart => exact ⟨(0), (by first | rfl | (simp; done) | (simp [*]; done)), H', ⟨Nat.le_refl _⟩, by repeat (first | exact Drawn0.refl _ | apply Drawn0.step)⟩
  case round =>
    clear H'
    try clear p2
    obtain ⟨x8_1, rfl, HA, HK1, ⟨m1, rfl⟩⟩ := hrel
    cases gk with
    | zero => exact absurd HA.out (by simp [slices_Index_string_string.l0])
    | succ k1 =>
      have H := HA.out
      clear HA
      simp only [slices_Index_string_string.l0] at H
      by_cases c3 : x8_1 < (l0.length : Int)
      · rw [if_pos c3] at H
        have c3b0 : decide (x8_1 < (l0.length : Int)) = true := decide_eq_true c3
        clear c3
        by_cases c4 : 0 ≤ x8_1
        · rw [if_pos c4] at H
          have c4b0 : decide (0 ≤ x8_1) = true := decide_eq_true c4
          clear c4
          by_cases c5 : x8_1 < (l0.length : Int)
          · rw [if_pos c5] at H
            have c5b0 : decide (x8_1 < (l0.length : Int)) = true := decide_eq_true c5
            clear c5
            by_cases c6 : a1.toList = (rdOf ByteArray.empty l0 x8_1).toList
            · rw [if_pos c6] at H
              have c6b0 : (a1.toList == (rdOf ByteArray.empty l0 x8_1).toList) = true := beq_iff_eq.mpr c6
              have c6b1 : (a1.toList != (rdOf ByteArray.empty l0 x8_1).toList) = false := bne_eq_false_iff_eq.mpr c6
              clear c6
              obtain rfl := Option.some.inj H
              have p116 : 0 ≤ (x8_1 : Int) := of_decide_eq_true (by first | (with_reducible assumption) | assumption)
              have q116 : x8_1 < (l0.length : Int) := of_decide_eq_true (by first | (with_reducible assumption) | assumption)
              obtain ⟨ad116, e116, hx116_0⟩ := Kd.at_string HR0.out x8_1 p116 q116
              cases e116
              replace p116 := eq_true p116
              replace q116 := eq_true q116
              go_wp2
              go_ret
              exact ⟨by first | rfl | (simp; done) | (simp [*]; done), by repeat (first | exact Drawn0.refl _ | apply Drawn0.step)⟩
            · rw [if_neg c6] at H
              have c6b0 : (a1.toList == (rdOf ByteArray.empty l0 x8_1).toList) = false := beq_eq_false_iff_ne.mpr c6
              have c6b1 : (a1.toList != (rdOf ByteArray.empty l0 x8_1).toList) = true := bne_iff_ne.mpr c6
              have H' := Aside0.mk H
              clear H
              have p116 : 0 ≤ (x8_1 : Int) := of_decide_eq_true (by first | (with_reducible assumption) | assumption)
              have q116 : x8_1 < (l0.length : Int) := of_decide_eq_true (by first | (with_reducible assumption) | assumption)
              obtain ⟨ad116, e116, hx116_0⟩ := Kd.at_string HR0.out x8_1 p116 q116
              cases e116
              replace p116 := eq_true p116
              replace q116 := eq_true q116
              go_wp2
              go_roundg k1
              case measure => have := HK1.out; omega
              case rel => exact ⟨(wrap64 (x8_1 + 1)), (by first | rfl | (simp; done) | (simp [*]; done)), H', ⟨by have := HK1.out; omega⟩, by repeat (first | exact Drawn0.refl _ | apply Drawn0.step)⟩
          · rw [if_neg c5] at H
            exact absurd H (by simp)
        · rw [if_neg c4] at H
          exact absurd H (by simp)
      · rw [if_neg c3] at H
        have c3b0 : decide (x8_1 < (l0.length : Int)) = false := decide_eq_false c3
        clear c3
        obtain rfl := Option.some.inj H
        go_wp2
        go_ret
        exact ⟨by first | rfl | (simp; done) | (simp [*]; done), by repeat (first | exact Drawn0.refl _ | apply Drawn0.step)⟩
-- NOT PRINTED: function 56 (subtype_pairs)
-- NOT PRINTED: function 22 (subtype_Fits)
def stringslite_HasPrefix.f (a0 : ByteArray) (a1 : ByteArray) : Option (Bool) := if (a0.size : Int) ≥ (a1.size : Int) then (if 0 ≤ (a1.size : Int) then (if (a1.size : Int) ≤ (a0.size : Int) then (some ((a0.extract 0 ((a1.size : Int) : Int).toNat).toList == a1.toList)) else (none)) else (none)) else (some false)
set_option maxHeartbeats 8000000 in
set_option maxRecDepth 100000 in
theorem stringslite_HasPrefix.calls (a0 : ByteArray) (a1 : ByteArray) (r : Bool) (w : World) (h : stringslite_HasPrefix.f a0 a1 = some r) :
    Calls Try.prog 109 #[.string a0, .string a1] w fun e w' => e = .returned (.bool r) ∧ Drawn0 w w' := by
  have H : (if (a0.size : Int) ≥ (a1.size : Int) then (if 0 ≤ (a1.size : Int) then (if (a1.size : Int) ≤ (a0.size : Int) then (some ((a0.extract 0 ((a1.size : Int) : Int).toNat).toList == a1.toList)) else (none)) else (none)) else (some false)) = some r := h
  clear h
  by_cases c3 : (a0.size : Int) ≥ (a1.size : Int)
  · rw [if_pos c3] at H
    have c3b0 : decide ((a1.size : Int) ≤ (a0.size : Int)) = true := decide_eq_true c3
    have c3b1 : decide (a1.size ≤ a0.size) = true := decide_eq_true (Int.ofNat_le.mp c3)
    clear c3
    by_cases c4 : 0 ≤ (a1.size : Int)
    · rw [if_pos c4] at H
      have c4b0 := eq_true c4
      have c4b1 : decide (0 ≤ (a1.size : Int)) = true := decide_eq_true c4
      clear c4
      by_cases c5 : (a1.size : Int) ≤ (a0.size : Int)
      · rw [if_pos c5] at H
        have c5b0 := eq_true c5
        have c5b1 : decide ((a1.size : Int) ≤ (a0.size : Int)) = true := decide_eq_true c5
        clear c5
        obtain rfl := Option.some.inj H
        go_enter Try.func109, Try.ntmps109
        go_wp2
        go_ret
        exact ⟨by first | rfl | (simp; done) | (simp [*]; done), by repeat (first | exact Drawn0.refl _ | apply Drawn0.step)⟩
      · rw [if_neg c5] at H
        exact absurd H (by simp)
    · rw [if_neg c4] at H
      exact absurd H (by simp)
  · rw [if_neg c3] at H
    have c3b0 : decide ((a1.size : Int) ≤ (a0.size : Int)) = false := decide_eq_false c3
    have c3b1 : decide (a1.size ≤ a0.size) = false := decide_eq_false (fun h => c3 (Int.ofNat_le.mpr h))
    clear c3
    obtain rfl := Option.some.inj H
    go_enter Try.func109, Try.ntmps109
    go_wp2
    go_ret
    exact ⟨by first | rfl | (simp; done) | (simp [*]; done), by repeat (first | exact Drawn0.refl _ | apply Drawn0.step)⟩
def stringslite_CutPrefix.f (a0 : ByteArray) (a1 : ByteArray) : Option (ByteArray × Bool) := (stringslite_HasPrefix.f a0 a1).bind fun t120 => (if t120 = true then (if 0 ≤ (a1.size : Int) then (if (a1.size : Int) ≤ (a0.size : Int) then (some (a0.extract ((a1.size : Int) : Int).toNat a0.size, true)) else (none)) else (none)) else (some (a0, false)))
set_option maxHeartbeats 8000000 in
set_option maxRecDepth 100000 in
theorem stringslite_CutPrefix.calls (a0 : ByteArray) (a1 : ByteArray) (r1 : ByteArray) (r2 : Bool) (w : World) (h : stringslite_CutPrefix.f a0 a1 = some (r1, r2)) :
    Calls Try.prog 96 #[.string a0, .string a1] w fun e w' => e = .returned (.tuple #[.string r1, .bool r2]) ∧ Drawn0 w w' := by
  have H : ((stringslite_HasPrefix.f a0 a1).bind fun t120 => (if t120 = true then (if 0 ≤ (a1.size : Int) then (if (a1.size : Int) ≤ (a0.size : Int) then (some (a0.extract ((a1.size : Int) : Int).toNat a0.size, true)) else (none)) else (none)) else (some (a0, false)))) = some (r1, r2) := h
  clear h
  replace H := Option.bind_eq_some_iff.mp H
  obtain ⟨t120, A30, H⟩ := H
  replace H : (if t120 = true then (if 0 ≤ (a1.size : Int) then (if (a1.size : Int) ≤ (a0.size : Int) then (some (a0.extract ((a1.size : Int) : Int).toNat a0.size, true)) else (none)) else (none)) else (some (a0, false))) = some (r1, r2) := H
  have A3 := Aside0.mk A30
  clear A30
  by_cases c4 : t120 = true
  · subst c4
    have H1 : (if 0 ≤ (a1.size : Int) then (if (a1.size : Int) ≤ (a0.size : Int) then (some (a0.extract ((a1.size : Int) : Int).toNat a0.size, true)) else (none)) else (none)) = some (r1, r2) := by rw [if_pos rfl] at H; exact H
    clear H
    have H := H1
    clear H1
    by_cases c5 : 0 ≤ (a1.size : Int)
    · rw [if_pos c5] at H
      have c5b0 := eq_true c5
      have c5b1 : decide (0 ≤ (a1.size : Int)) = true := decide_eq_true c5
      clear c5
      by_cases c6 : (a1.size : Int) ≤ (a0.size : Int)
      · rw [if_pos c6] at H
        have c6b0 := eq_true c6
        have c6b1 : decide ((a1.size : Int) ≤ (a0.size : Int)) = true := decide_eq_true c6
        clear c6
        simp only [Option.some.injEq, Prod.mk.injEq] at H
        obtain ⟨rfl, rfl⟩ := H
        go_enter Try.func96, Try.ntmps96
        go_wp2_with (first | ((with_reducible refine gate_callee (f := 109) rfl ?_); refine goesL_ (some 8) rfl rfl Try.func109 (by kernel_rfl) rfl #[.string a0, .string a1] rfl (by (try simp only [List.map_toArray, List.map_cons, List.map_nil]); first | done | rfl | (simp only [List.length_drop, List.length_take]; rfl)) ?_; (with_reducible refine (stringslite_HasPrefix.calls a0 a1 true _ A3.out).mono ?_); rintro e w' ⟨rfl, ⟨nd, rfl⟩⟩; refine ⟨_, rfl, ?_⟩))
        go_ret2
        exact ⟨by first | rfl | (simp; done) | (simp [*]; done), by repeat (first | exact Drawn0.refl _ | apply Drawn0.step)⟩
      · rw [if_neg c6] at H
        exact absurd H (by simp)
    · rw [if_neg c5] at H
      exact absurd H (by simp)
  · replace c4 := Bool.eq_false_iff.mpr c4
    subst c4
    have H1 : (some (a0, false)) = some (r1, r2) := by rw [if_neg (show ¬ (false = true) by decide)] at H; exact H
    clear H
    have H := H1
    clear H1
    simp only [Option.some.injEq, Prod.mk.injEq] at H
    obtain ⟨rfl, rfl⟩ := H
    go_enter Try.func96, Try.ntmps96
    go_wp2_with (first | ((with_reducible refine gate_callee (f := 109) rfl ?_); refine goesL_ (some 8) rfl rfl Try.func109 (by kernel_rfl) rfl #[.string a0, .string a1] rfl (by (try simp only [List.map_toArray, List.map_cons, List.map_nil]); first | done | rfl | (simp only [List.length_drop, List.length_take]; rfl)) ?_; (with_reducible refine (stringslite_HasPrefix.calls a0 a1 false _ A3.out).mono ?_); rintro e w' ⟨rfl, ⟨nd, rfl⟩⟩; refine ⟨_, rfl, ?_⟩))
    go_ret2
    exact ⟨by first | rfl | (simp; done) | (simp [*]; done), by repeat (first | exact Drawn0.refl _ | apply Drawn0.step)⟩
def strings_CutPrefix.f (a0 : ByteArray) (a1 : ByteArray) : Option (ByteArray × Bool) := (stringslite_CutPrefix.f a0 a1).bind fun bt121 => (some (bt121.1, bt121.2))
set_option maxHeartbeats 8000000 in
set_option maxRecDepth 100000 in
theorem strings_CutPrefix.calls (a0 : ByteArray) (a1 : ByteArray) (r1 : ByteArray) (r2 : Bool) (w : World) (h : strings_CutPrefix.f a0 a1 = some (r1, r2)) :
    Calls Try.prog 80 #[.string a0, .string a1] w fun e w' => e = .returned (.tuple #[.string r1, .bool r2]) ∧ Drawn0 w w' := by
  have H : ((stringslite_CutPrefix.f a0 a1).bind fun bt121 => (some (bt121.1, bt121.2))) = some (r1, r2) := h
  clear h
  replace H := Option.bind_eq_some_iff.mp H
  obtain ⟨⟨t121, t122⟩, A30, H⟩ := H
  replace H : (some (t121, t122)) = some (r1, r2) := H
  have A3 := Aside0.mk A30
  clear A30
  simp only [Option.some.injEq, Prod.mk.injEq] at H
  obtain ⟨rfl, rfl⟩ := H
  go_enter Try.func80, Try.ntmps80
  go_wp2_with (first | ((with_reducible refine gate_callee (f := 96) rfl ?_); refine goesL_ (some 8) rfl rfl Try.func96 (by kernel_rfl) rfl #[.string a0, .string a1] rfl (by (try simp only [List.map_toArray, List.map_cons, List.map_nil]); first | done | rfl | (simp only [List.length_drop, List.length_take]; rfl)) ?_; (with_reducible refine (stringslite_CutPrefix.calls a0 a1 t121 t122 _ A3.out).mono ?_); rintro e w' ⟨rfl, ⟨nd, rfl⟩⟩; refine ⟨_, rfl, ?_⟩))
  go_ret2
  exact ⟨by first | rfl | (simp; done) | (simp [*]; done), by repeat (first | exact Drawn0.refl _ | apply Drawn0.step)⟩
def subtype_exported.f (a0 : ByteArray) : Option (ByteArray × Bool) := (strings_CutPrefix.f a0 (⟨#[105, 109, 112, 111, 114, 116, 32]⟩ : ByteArray)).bind fun bt123 => (if 7 + bt123.1.size ≤ 9223372036854775807 then (some ((⟨#[101, 120, 112, 111, 114, 116, 32]⟩ : ByteArray) ++ bt123.1, bt123.2)) else (none))
set_option maxHeartbeats 8000000 in
set_option maxRecDepth 100000 in
theorem subtype_exported.calls (a0 : ByteArray) (r1 : ByteArray) (r2 : Bool) (w : World) (h : subtype_exported.f a0 = some (r1, r2)) :
    Calls Try.prog 59 #[.string a0] w fun e w' => e = .returned (.tuple #[.string r1, .bool r2]) ∧ Drawn0 w w' := by
  have H : ((strings_CutPrefix.f a0 (⟨#[105, 109, 112, 111, 114, 116, 32]⟩ : ByteArray)).bind fun bt123 => (if 7 + bt123.1.size ≤ 9223372036854775807 then (some ((⟨#[101, 120, 112, 111, 114, 116, 32]⟩ : ByteArray) ++ bt123.1, bt123.2)) else (none))) = some (r1, r2) := h
  clear h
  replace H := Option.bind_eq_some_iff.mp H
  obtain ⟨⟨t123, t124⟩, A20, H⟩ := H
  replace H : (if 7 + t123.size ≤ 9223372036854775807 then (some ((⟨#[101, 120, 112, 111, 114, 116, 32]⟩ : ByteArray) ++ t123, t124)) else (none)) = some (r1, r2) := H
  have A2 := Aside0.mk A20
  clear A20
  by_cases c3 : 7 + t123.size ≤ 9223372036854775807
  · rw [if_pos c3] at H
    have c3b0 := eq_true c3
    have c3b1 : decide (7 + t123.size ≤ 9223372036854775807) = true := decide_eq_true c3
    try have c3b2 : (9223372036854775807 < 7 + t123.size) = False := eq_false (Nat.not_lt.2 c3)
    simp only [Option.some.injEq, Prod.mk.injEq] at H
    obtain ⟨rfl, rfl⟩ := H
    go_enter Try.func59, Try.ntmps59
    go_wp2_with (first | ((with_reducible refine gate_callee (f := 80) rfl ?_); refine goesL_ (some 8) rfl rfl Try.func80 (by kernel_rfl) rfl #[.string a0, .string (⟨#[105, 109, 112, 111, 114, 116, 32]⟩ : ByteArray)] rfl (by (try simp only [List.map_toArray, List.map_cons, List.map_nil]); first | done | rfl | (simp only [List.length_drop, List.length_take]; rfl)) ?_; (with_reducible refine (strings_CutPrefix.calls a0 (⟨#[105, 109, 112, 111, 114, 116, 32]⟩ : ByteArray) t123 t124 _ A2.out).mono ?_); rintro e w' ⟨rfl, ⟨nd, rfl⟩⟩; refine ⟨_, rfl, ?_⟩))
    go_ret2
    exact ⟨by first | rfl | (simp; done) | (simp [*]; done), by repeat (first | exact Drawn0.refl _ | apply Drawn0.step)⟩
  · rw [if_neg c3] at H
    exact absurd H (by simp)
-- NOT PRINTED: function 26 (subtype_Links)
end Go.Proofs.Ytmpmcffhlnlejaa.PSubFits
end
section
namespace Go.Proofs.Ytmpmcffhlnlejaa.Mkr
open Go.RowKit Go.Proofs.YtmpmcffhlnlejaaW.PrintWords Go.Proofs.YtmpmcffhlnlejaaW.PrintLast Go.Proofs.YtmpmcffhlnlejaaW.PrintMore
open Go.Proofs.Ytmpmcffhlnlejaa.PSubSelf Go.Proofs.Ytmpmcffhlnlejaa.Wld
set_option linter.unusedVariables false
set_option linter.unusedSimpArgs false
/-- An interface's key. -/
def keyA (q : S120) (x : S142) : ByteArray := q.f0 ++ (⟨#[58]⟩ : ByteArray) ++ q.f1 ++ (⟨#[47]⟩ : ByteArray) ++ x.f0
def keyV (q : S120) (x : S142) : ByteArray := keyA q x ++ (⟨#[64]⟩ : ByteArray) ++ q.f2
def impOf (key n : ByteArray) : ByteArray := (⟨#[105, 109, 112, 111, 114, 116, 32]⟩ : ByteArray) ++ key ++ (⟨#[35]⟩ : ByteArray) ++ n
def expOf (key n : ByteArray) : ByteArray := (⟨#[101, 120, 112, 111, 114, 116, 32]⟩ : ByteArray) ++ key ++ (⟨#[35]⟩ : ByteArray) ++ n
/-- What a maker is made of: packages, a world, where they lie; the texts that resources may have. -/
structure Hd where
  P : List S120
  A : Option Addr
  c : Nat
  pkg : Nat
  wd : S125
  U : Option Addr
  cU : Nat
  D : Option Addr
  cD : Nat
  I : Option Addr
  cI : Nat
  O : Option Addr
  cO : Nat
  W0 : World
  T : List ByteArray
/-- All definitions' resources are among the texts. -/
def Hd.Has (h : Hd) (key : ByteArray) (ds : List S154) : Prop := (∀ d ∈ ds, impOf key d.f1 ∈ h.T ∧ expOf key d.f1 ∈ h.T) ∧ impOf key ⟨#[]⟩ ∈ h.T ∧ expOf key ⟨#[]⟩ ∈ h.T
structure Hd.Ok (h : Hd) : Prop where
  hP : k120.C h.W0 h.A h.P.length h.P
  hU : k151.C h.W0 h.U h.wd.f1.length h.wd.f1
  hD : k154.C h.W0 h.D h.wd.f2.length h.wd.f2
  hI : k157.C h.W0 h.I h.wd.f3.length h.wd.f3
  hO : k157.C h.W0 h.O h.wd.f4.length h.wd.f4
  right : ∀ q ∈ h.P, WfP q
  ww : WfW h.wd
  pk : h.pkg < h.P.length
  n5 : h.P.length ≤ 5
  ti : ∀ q ∈ h.P, ∀ x ∈ q.f3, h.Has (keyA q x) x.f2 ∧ h.Has (keyV q x) x.f2
  tw : h.Has ⟨#[]⟩ h.wd.f2
  tl : h.T.length ≤ 1000000
/-- A maker's cells. -/
def Hd.cells (h : Hd) (v vi vo : Value) (dp : Nat) (sz E : Int) : Array Value :=
  #[.slice h.A h.P.length h.c, .int .i64 (h.pkg : Int), .string h.wd.f0, .slice h.U h.wd.f1.length h.cU, .slice h.D h.wd.f2.length h.cD, .slice h.I h.wd.f3.length h.cI, .slice h.O h.wd.f4.length h.cO, v, vi, vo, .int .i64 (dp : Int), .int .i64 sz, .int .i64 E]
/-- A maker at block p. -/
structure Mk (h : Hd) (p : Nat) (w : World) (v vi vo : Value) (dp : Nat) (sz E : Int) (res : List ByteArray) : Prop where
  bl : Below h.W0.heap.size h.W0 w
  hp : w.heap[p]? = some (.cells (h.cells v vi vo dp sz E) 128 (0, 0))
  p0 : h.W0.heap.size ≤ p
  hr : Kd.string.R 9 w h.W0.heap.size (fun _ => True) v res
  nd : res.Nodup
  sub : ∀ t ∈ res, t ∈ h.T
/-- All but the maker and its row of texts is as it was. -/
structure Go (p : Nat) (w : World) (v : Value) (w' : World) (v' : Value) : Prop where
  os : w'.os = w.os
  tape : w'.tape = w.tape
  output : w'.output = w.output
  keep : KeepBut w w' p v.ownBlock
  own : v'.ownBlock = v.ownBlock ∨ ∃ b, v'.ownBlock = some b ∧ w.heap.size ≤ b
section
variable {h : Hd} {p : Nat} {w w' w2 : World} {v v' v2 vi vo : Value} {dp : Nat} {sz E : Int} {res : List ByteArray}
theorem Go.refl (p : Nat) (w : World) (v : Value) : Go p w v w v := ⟨rfl, rfl, rfl, KeepBut.refl _ _ _, .inl rfl⟩
theorem Go.trans (a : Go p w v w' v') (b : Go p w' v' w2 v2) : Go p w v w2 v2 :=
  ⟨b.os.trans a.os, b.tape.trans a.tape, b.output.trans a.output, a.keep.trans b.keep a.own, by
    rcases b.own with e | ⟨k, e, hk⟩
    · rw [e]
      exact a.own
    · exact .inr ⟨k, e, Nat.le_trans a.keep.1 hk⟩⟩
theorem Go.below (v : Value) (p : Nat) (hb : Below w.heap.size w w') : Go p w v w' v := ⟨hb.os, hb.tape, hb.output, KeepBut.of_below hb _ _, .inl rfl⟩
theorem Mk.lt (m : Mk h p w v vi vo dp sz E res) : p < w.heap.size := blk_lt m.hp
theorem Mk.notp (m : Mk h p w v vi vo dp sz E res) : v.ownBlock ≠ some p := fun e => Kd.R_ne m.hr m.hp (by decide) e.symm
theorem Mk.below (m : Mk h p w v vi vo dp sz E res) (hb : Below w.heap.size w w') : Mk h p w' v vi vo dp sz E res :=
  ⟨below_step m.bl hb, blk_below m.hp hb, m.p0, Kd.R_below m.hr hb, m.nd, m.sub⟩
/-- Another block, of another type than texts and makers. -/
theorem Go.blk (a : Go p w v w' v') (m : Mk h p w v vi vo dp sz E res) {g t : Nat} {cs : Array Value} (hb : w.heap[g]? = some (.cells cs t (0, 0))) (h9 : 9 ≠ t) (h128 : 128 ≠ t) : w'.heap[g]? = some (.cells cs t (0, 0)) :=
  a.keep.blk hb (fun e => blk_ne m.hp hb h128 e.symm) (Kd.R_ne m.hr hb h9)
/-- A row of the caller's. -/
theorem Go.row {α : Type} {d : Kd α} {e base : Nat} {u : Value} {xs : List α} (a : Go p w v w' v') (hr : d.R e w base (fun k => k ≠ p ∧ some k ≠ v.ownBlock) u xs) : d.R e w' base (fun k => k ≠ p ∧ some k ≠ v'.ownBlock) u xs := by
    have h2 := Kd.R_step (Kd.R_bound hr) (fun k hk hl => a.keep.2 k hl hk.1.1 hk.1.2)
    refine Kd.R_mono h2 (fun k hk => ⟨hk.1.1, fun e => ?_⟩)
    rcases a.own with e2 | ⟨b, e2, hb⟩
    · exact hk.1.2 (e.trans e2)
    · have := hk.2.2.1
      have : k = b := Option.some.inj (e.trans e2)
      omega
theorem Mk.z0 (m : Mk h p w v vi vo dp sz E res) : w.cell? ⟨p, 0, none⟩ = some (.slice h.A h.P.length h.c) := (blk_cell m.hp 0).trans rfl
theorem Mk.z1 (m : Mk h p w v vi vo dp sz E res) : w.cell? ⟨p, 1, none⟩ = some (.int .i64 (h.pkg : Int)) := (blk_cell m.hp 1).trans rfl
theorem Mk.z6 (m : Mk h p w v vi vo dp sz E res) : w.cell? ⟨p, 6, none⟩ = some (.slice h.O h.wd.f4.length h.cO) := (blk_cell m.hp 6).trans rfl
theorem Mk.z7 (m : Mk h p w v vi vo dp sz E res) : w.cell? ⟨p, 7, none⟩ = some (v) := (blk_cell m.hp 7).trans rfl
theorem Mk.z8 (m : Mk h p w v vi vo dp sz E res) : w.cell? ⟨p, 8, none⟩ = some (vi) := (blk_cell m.hp 8).trans rfl
theorem Mk.z9 (m : Mk h p w v vi vo dp sz E res) : w.cell? ⟨p, 9, none⟩ = some (vo) := (blk_cell m.hp 9).trans rfl
theorem Mk.z10 (m : Mk h p w v vi vo dp sz E res) : w.cell? ⟨p, 10, none⟩ = some (.int .i64 (dp : Int)) := (blk_cell m.hp 10).trans rfl
theorem Mk.z11 (m : Mk h p w v vi vo dp sz E res) : w.cell? ⟨p, 11, none⟩ = some (.int .i64 sz) := (blk_cell m.hp 11).trans rfl
theorem Mk.z12 (m : Mk h p w v vi vo dp sz E res) : w.cell? ⟨p, 12, none⟩ = some (.int .i64 E) := (blk_cell m.hp 12).trans rfl
theorem Mk.fz (m : Mk h p w v vi vo dp sz E res) (i : Nat) : w.frozen? ⟨p, i, none⟩ = false := blk_frozen m.hp i
theorem Mk.set_ins (m : Mk h p w v vi vo dp sz E res) (u : Value) : Mk h p (w.setCell ⟨p, 8, none⟩ u) v u vo dp sz E res ∧ Go p w v (w.setCell ⟨p, 8, none⟩ u) v :=
  ⟨⟨m.bl.setCell (p := ⟨p, 8, none⟩) m.p0 _, blk_put m.hp 8 _ rfl, m.p0, Kd.R_set m.hr m.hp (by decide) 8 _, m.nd, m.sub⟩, ⟨rfl, rfl, rfl, (KeepBut.refl w p _).set_ 8 _, .inl rfl⟩⟩
theorem Mk.set_outs (m : Mk h p w v vi vo dp sz E res) (u : Value) : Mk h p (w.setCell ⟨p, 9, none⟩ u) v vi u dp sz E res ∧ Go p w v (w.setCell ⟨p, 9, none⟩ u) v :=
  ⟨⟨m.bl.setCell (p := ⟨p, 9, none⟩) m.p0 _, blk_put m.hp 9 _ rfl, m.p0, Kd.R_set m.hr m.hp (by decide) 9 _, m.nd, m.sub⟩, ⟨rfl, rfl, rfl, (KeepBut.refl w p _).set_ 9 _, .inl rfl⟩⟩
theorem Mk.set_deep (m : Mk h p w v vi vo dp sz E res) (u : Nat) : Mk h p (w.setCell ⟨p, 10, none⟩ (.int .i64 (u : Int))) v vi vo u sz E res ∧ Go p w v (w.setCell ⟨p, 10, none⟩ (.int .i64 (u : Int))) v :=
  ⟨⟨m.bl.setCell (p := ⟨p, 10, none⟩) m.p0 _, blk_put m.hp 10 _ rfl, m.p0, Kd.R_set m.hr m.hp (by decide) 10 _, m.nd, m.sub⟩, ⟨rfl, rfl, rfl, (KeepBut.refl w p _).set_ 10 _, .inl rfl⟩⟩
theorem Mk.set_size (m : Mk h p w v vi vo dp sz E res) (u : Int) : Mk h p (w.setCell ⟨p, 11, none⟩ (.int .i64 u)) v vi vo dp u E res ∧ Go p w v (w.setCell ⟨p, 11, none⟩ (.int .i64 u)) v :=
  ⟨⟨m.bl.setCell (p := ⟨p, 11, none⟩) m.p0 _, blk_put m.hp 11 _ rfl, m.p0, Kd.R_set m.hr m.hp (by decide) 11 _, m.nd, m.sub⟩, ⟨rfl, rfl, rfl, (KeepBut.refl w p _).set_ 11 _, .inl rfl⟩⟩
theorem Mk.set_err (m : Mk h p w v vi vo dp sz E res) (u : Int) : Mk h p (w.setCell ⟨p, 12, none⟩ (.int .i64 u)) v vi vo dp sz u res ∧ Go p w v (w.setCell ⟨p, 12, none⟩ (.int .i64 u)) v :=
  ⟨⟨m.bl.setCell (p := ⟨p, 12, none⟩) m.p0 _, blk_put m.hp 12 _ rfl, m.p0, Kd.R_set m.hr m.hp (by decide) 12 _, m.nd, m.sub⟩, ⟨rfl, rfl, rfl, (KeepBut.refl w p _).set_ 12 _, .inl rfl⟩⟩
end
/-- What a method leaves: the maker, at both ends. -/
structure Nx (h : Hd) (p : Nat) (vi vo : Value) (dp : Nat) (w : World) (v : Value) (E : Int) (res : List ByteArray) (w' : World) (v' : Value) (E' : Int) (res' : List ByteArray) : Prop where
  m0 : ∃ sz, Mk h p w v vi vo dp sz E res
  m1 : ∃ sz, Mk h p w' v' vi vo dp sz E' res'
  go : Go p w v w' v'
  le : res.length ≤ res'.length
  er : E' = 0 → E = 0
section
variable {h : Hd} {p : Nat} {w w' w2 : World} {v v' v2 vi vo : Value} {dp : Nat} {sz sz' E E' E2 : Int} {res res' res2 : List ByteArray}
theorem Nx.refl (m : Mk h p w v vi vo dp sz E res) : Nx h p vi vo dp w v E res w v E res := ⟨⟨sz, m⟩, ⟨sz, m⟩, Go.refl _ _ _, Nat.le_refl _, id⟩
theorem Nx.trans (a : Nx h p vi vo dp w v E res w' v' E' res') (b : Nx h p vi vo dp w' v' E' res' w2 v2 E2 res2) : Nx h p vi vo dp w v E res w2 v2 E2 res2 :=
  ⟨a.m0, b.m1, a.go.trans b.go, Nat.le_trans a.le b.le, fun e => a.er (b.er e)⟩
theorem Nx.below (a : Nx h p vi vo dp w v E res w' v' E' res') (hb : Below w'.heap.size w' w2) : Nx h p vi vo dp w v E res w2 v' E' res' := by
  obtain ⟨sz, m⟩ := a.m1
  exact ⟨a.m0, ⟨sz, m.below hb⟩, a.go.trans (Go.below _ _ hb), a.le, a.er⟩
theorem Nx.blk (a : Nx h p vi vo dp w v E res w' v' E' res') {g t : Nat} {cs : Array Value} (hb : w.heap[g]? = some (.cells cs t (0, 0))) (h9 : 9 ≠ t) (h128 : 128 ≠ t) : w'.heap[g]? = some (.cells cs t (0, 0)) := by
  obtain ⟨sz, m⟩ := a.m0
  exact a.go.blk m hb h9 h128
theorem Nx.bl (a : Nx h p vi vo dp w v E res w' v' E' res') : Below h.W0.heap.size h.W0 w' := by
  obtain ⟨sz, m⟩ := a.m1
  exact m.bl
end
end Go.Proofs.Ytmpmcffhlnlejaa.Mkr
end
section
namespace Go.Proofs.Ytmpmcffhlnlejaa.Mkr
open Go.RowKit Go.Proofs.YtmpmcffhlnlejaaW.PrintWords Go.Proofs.YtmpmcffhlnlejaaW.PrintLast Go.Proofs.YtmpmcffhlnlejaaW.PrintMore
open Go.Proofs.Ytmpmcffhlnlejaa.PSubSelf Go.Proofs.Ytmpmcffhlnlejaa.Wld
set_option linter.unusedVariables false
set_option linter.unusedSimpArgs false
def FaultOk (h : Hd) (p : Nat) (vi vo : Value) (dp : Nat) (w : World) (v : Value) (E : Int) (res : List ByteArray) (b : Bool) (r : Ending) (w' : World) : Prop :=
  r = .returned (.tuple #[]) ∧ ∃ E', (E' = 0 → b = false) ∧ Nx h p vi vo dp w v E res w' v E' res
theorem fault_any {h : Hd} {p : Nat} {w : World} {v vi vo : Value} {dp : Nat} {E : Int} {res : List ByteArray} (m : ∃ sz, Mk h p w v vi vo dp sz E res) (b : Bool) (e : Int) (he : e ≠ 0) :
    Calls Try.prog 89 #[.pointer (some ⟨p, 0, none⟩), .bool b, .int .i64 e] w (FaultOk h p vi vo dp w v E res b) := by
  obtain ⟨sz, m⟩ := m
  have M := Aside0.mk m
  have z12 := m.z12
  have f12 := m.fz 12
  clear m
  by_cases hE : E = 0
  · have e1 : decide (E = 0) = true := decide_eq_true hE
    cases b with
    | false =>
      go_enter Try.func89, Try.ntmps89
      go_wp2_with fail
      first | go_end0 | ((try simp only [Exit.inBlock, Exit.then]); refine bodyPost_ret (results_none rfl _ _ _) rfl ?_)
      exact ⟨rfl, E, fun _ => rfl, Nx.refl M.out⟩
    | true =>
      have S := Aside0.mk (M.out.set_err e)
      go_enter Try.func89, Try.ntmps89
      go_wp2_with fail
      first | go_end0 | ((try simp only [Exit.inBlock, Exit.then]); refine bodyPost_ret (results_none rfl _ _ _) rfl ?_)
      exact ⟨rfl, e, fun h => absurd h he, ⟨⟨sz, M.out⟩, ⟨sz, S.out.1⟩, S.out.2, Nat.le_refl _, fun _ => hE⟩⟩
  · have e1 : decide (E = 0) = false := decide_eq_false hE
    cases b with
    | false =>
      go_enter Try.func89, Try.ntmps89
      go_wp2_with fail
      first | go_end0 | ((try simp only [Exit.inBlock, Exit.then]); refine bodyPost_ret (results_none rfl _ _ _) rfl ?_)
      exact ⟨rfl, E, fun _ => rfl, Nx.refl M.out⟩
    | true =>
      go_enter Try.func89, Try.ntmps89
      go_wp2_with fail
      first | go_end0 | ((try simp only [Exit.inBlock, Exit.then]); refine bodyPost_ret (results_none rfl _ _ _) rfl ?_)
      exact ⟨rfl, E, fun h => absurd h hE, Nx.refl M.out⟩
/-- Element k of a list of texts. -/
theorem str_at {w : World} {A : Option Addr} {l : List ByteArray} (h : Kd.string.C w A l.length l) {k : Nat} (hk : k < l.length) :
    ∃ ad, A = some ad ∧ ∀ w' : World, Below w.heap.size w w' → w'.cell? (ad.add k) = some (.string l[k]) := by
  obtain ⟨ad, hae, hx⟩ := Kd.at_string h (k : Int) (by omega) (by omega)
  rw [rdB_eq hk] at hx
  rw [Int.toNat_natCast] at hx
  exact ⟨ad, hae, fun w' hb => cell_keep hx hb⟩
/-- How often a name stands: some number. -/
theorem count_any {l : List ByteArray} {A : Option Addr} {c : Nat} (n : ByteArray) {w : World} (hl : Kd.string.C w A l.length l) :
    Calls Try.prog 90 #[.slice A l.length c, .string n] w fun r w' => (∃ k : Int, r = .returned (.int .i64 k)) ∧ w' = w := by
  have HL := Aside0.mk hl
  have hm := hl.2.1
  clear hl
  go_enter Try.func90, Try.ntmps90
  go_wp2_with fail
  go_loop [5, 6] (fun v5 v6 => ∃ k : Nat, k ≤ l.length ∧ v6 = .int .i64 k ∧ (∃ x : Int, v5 = .int .i64 x)) (fun _ v6 => l.length - (intOf v6).toNat)
  case atStart => exact ⟨0, Nat.zero_le _, rfl, ⟨0, rfl⟩⟩
  case round =>
    obtain ⟨k, hk, rfl, ⟨x, rfl⟩⟩ := hrel
    by_cases hlt : k < l.length
    · obtain ⟨ad, hae, hx⟩ := str_at HL.out hlt
      cases hae
      have x0 := hx w (Below.refl _ _)
      clear hx
      generalize l[k] = s at *
      go_wp2_with fail
      all_goals
        go_round
        case rel => exact ⟨k + 1, by omega, by go_num, ⟨_, rfl⟩⟩
        case measure => simp [intOf]; omega
    · obtain rfl : k = l.length := by omega
      go_wp2_with fail
      go_ret
      exact ⟨⟨_, rfl⟩, rfl⟩
set_option maxHeartbeats 8000000 in
set_option maxRecDepth 100000 in
/-- A function's arguments. -/
theorem args_any {h : Hd} {p : Nat} {w : World} {v vi vo : Value} {dp : Nat} {E : Int} {res : List ByteArray} (m : ∃ sz, Mk h p w v vi vo dp sz E res)
    (f : S146) {B2 B3 B5 B6 : Option Addr} {d2 d3 d5 d6 : Nat} (hf : Kd.string.C h.W0 B2 f.f2.length f.f2) :
    Calls Try.prog 91 #[.pointer (some ⟨p, 0, none⟩), .agg #[.string f.f0, .int .i64 f.f1, .slice B2 f.f2.length d2, .slice B3 f.f3.length d3, .int .i64 f.f4.f0, .slice B5 f.f4.f1.length d5, .slice B6 f.f4.f2.length d6, .int .i64 f.f4.f3]] w
      fun r w' => r = .returned (.tuple #[]) ∧ ∃ E', Nx h p vi vo dp w v E res w' v E' res := by
  have M := Aside0.mk m
  have HF := Aside0.mk hf
  have hm := hf.2.1
  clear m hf
  have HN0 : Aside0 (Nx h p vi vo dp w v E res (w.alloc (.cells #[.string f.f0, .int .i64 f.f1, .slice B2 f.f2.length d2, .slice B3 f.f3.length d3, .int .i64 f.f4.f0, .slice B5 f.f4.f1.length d5, .slice B6 f.f4.f2.length d6, .int .i64 f.f4.f3] 146)) v E res) := by
    obtain ⟨sz, m⟩ := M.out
    exact ⟨(Nx.refl m).below (below_alloc (Below.refl _ _) _)⟩
  have HK0 := Aside0.mk (blk_new w (.cells #[.string f.f0, .int .i64 f.f1, .slice B2 f.f2.length d2, .slice B3 f.f3.length d3, .int .i64 f.f4.f0, .slice B5 f.f4.f1.length d5, .slice B6 f.f4.f2.length d6, .int .i64 f.f4.f3] 146))
  go_enter Try.func91, Try.ntmps91
  go_wp2_with fail
  go_loopw [4] (fun v4 wr => ∃ k : Nat, k ≤ f.f2.length ∧ v4 = .int .i64 k ∧ Aside0 (∃ E', Nx h p vi vo dp w v E res wr v E' res) ∧ Aside0 (wr.heap[w.heap.size]? = some (.cells #[.string f.f0, .int .i64 f.f1, .slice B2 f.f2.length d2, .slice B3 f.f3.length d3, .int .i64 f.f4.f0, .slice B5 f.f4.f1.length d5, .slice B6 f.f4.f2.length d6, .int .i64 f.f4.f3] 146 (0, 0)))) (fun v4 _ => f.f2.length - (intOf v4).toNat)
  case atStart => exact ⟨0, Nat.zero_le _, rfl, ⟨_, HN0.out⟩, HK0⟩
  case round =>
    clear HN0 HK0
    obtain ⟨k, hk, rfl, HN, HK⟩ := hrel
    have z2 : wr.cell? ⟨w.heap.size, 2, none⟩ = some (.slice B2 f.f2.length d2) := (blk_cell HK.out 2).trans rfl
    by_cases hlt : k < f.f2.length
    · obtain ⟨ad, hae, hx⟩ := str_at HF.out hlt
      obtain ⟨E1, hn1⟩ := HN.out
      have HN1 := Aside0.mk (hn1.below (below_drew1 (Below.refl wr.heap.size wr)))
      have HF1 := Aside0.mk (Kd.C_below HF.out HN1.out.bl)
      have HK1 : Aside0 (wr.drew.heap[w.heap.size]? = _) := ⟨HK.out⟩
      have x0 := hx wr hn1.bl
      rw [hae] at z2 HF1
      clear hn1 HN HK
      clear hx hae
      generalize f.f2[k] = s at *
      go_wp2_with fail
      go_region_with (first
        | (go_at_call 90; refine (count_any s HF1.out).mono ?_; rintro e w1 ⟨⟨cn, rfl⟩, rfl⟩)
        | (go_at_call 89; refine (fault_any HN1.out.m1 _ 10 (by decide)).mono ?_; rintro e w2 ⟨rfl, E2, _, hn⟩; have HN2 := Aside0.mk hn; clear hn))
      all_goals
        go_wp2_with fail
        go_roundw
        case rel => exact ⟨k + 1, by omega, by go_num, ⟨E2, HN1.out.trans HN2.out⟩, ⟨HN2.out.blk HK1.out (by decide) (by decide)⟩⟩
        case measure => simp [intOf]; omega
    · obtain rfl : k = f.f2.length := by omega
      go_wp2_with fail
      first | go_end0 | ((try simp only [Exit.inBlock, Exit.then]); refine bodyPost_ret (results_none rfl _ _ _) rfl ?_)
      exact ⟨rfl, HN.out⟩
end Go.Proofs.Ytmpmcffhlnlejaa.Mkr
end
section
namespace Go.Proofs.Ytmpmcffhlnlejaa.Mkr
open Go.RowKit Go.Proofs.YtmpmcffhlnlejaaW.PrintWords Go.Proofs.YtmpmcffhlnlejaaW.PrintLast Go.Proofs.YtmpmcffhlnlejaaW.PrintMore
open Go.Proofs.Ytmpmcffhlnlejaa.PSubSelf Go.Proofs.Ytmpmcffhlnlejaa.Wld
set_option linter.unusedVariables false
set_option linter.unusedSimpArgs false
/-- A place among n; or -1. -/
def AtOk (n : Nat) (w : World) (r : Ending) (w' : World) : Prop := (∃ i : Int, r = .returned (.int .i64 i) ∧ (i = -1 ∨ ∃ k : Nat, i = k ∧ k < n)) ∧ Below w.heap.size w w'
set_option maxHeartbeats 8000000 in
set_option maxRecDepth 100000 in
theorem place_any {h : Hd} (ok : h.Ok) {p : Nat} {w : World} {v vi vo : Value} {dp : Nat} {E : Int} {res : List ByteArray} (m : ∃ sz, Mk h p w v vi vo dp sz E res)
    (q : S149) (from_ : Nat) (hfrom : from_ < h.P.length) :
    Calls Try.prog 106 #[.pointer (some ⟨p, 0, none⟩), .agg #[.string q.f0, .string q.f1, .string q.f2], .int .i64 (from_ : Int)] w (AtOk h.P.length w) := by
  have M := Aside0.mk m
  have hn5 := ok.n5
  have HP := Aside0.mk ok.hP
  have HR := Aside0.mk ok.right
  clear m ok
  have HB0 := Aside0.mk (below_alloc (Below.refl w.heap.size w) (.cells #[.string q.f0, .string q.f1, .string q.f2] 149))
  have HK0 := Aside0.mk (blk_new w (.cells #[.string q.f0, .string q.f1, .string q.f2] 149))
  by_cases hq : q.f0.toList = []
  · have v1 : (q.f0.toList == ([] : List UInt8)) = true := by rw [hq]; rfl
    have v2 : q.f0.toList.isEmpty = true := by rw [hq]; rfl
    have v3 : (q.f0.toList != ([] : List UInt8)) = false := by rw [hq]; rfl
    clear hq
    go_enter Try.func106, Try.ntmps106
    go_wp2_with fail
    go_ret
    exact ⟨⟨_, rfl, .inr ⟨from_, rfl, hfrom⟩⟩, HB0.out⟩
  · have v1 : (q.f0.toList == ([] : List UInt8)) = false := by rw [beq_eq_false_iff_ne]; exact hq
    have v2 : q.f0.toList.isEmpty = false := by rw [List.isEmpty_eq_false_iff]; exact hq
    have v3 : (q.f0.toList != ([] : List UInt8)) = true := by rw [bne_iff_ne]; exact hq
    clear hq
    go_enter Try.func106, Try.ntmps106
    go_wp2_with fail
    clear v1 v2 v3
    go_loopw [7] (fun v7 wr => ∃ k : Nat, k ≤ h.P.length ∧ v7 = .int .i64 k ∧ Aside0 (Below w.heap.size w wr) ∧ Aside0 (wr.heap[w.heap.size]? = some (.cells #[.string q.f0, .string q.f1, .string q.f2] 149 (0, 0)))) (fun v7 _ => h.P.length - (intOf v7).toNat)
    case atStart => exact ⟨0, Nat.zero_le _, rfl, HB0, HK0⟩
    case round =>
      clear HB0 HK0
      obtain ⟨k, hk, rfl, HB, HK⟩ := hrel
      have q0 : wr.cell? ⟨w.heap.size, 0, none⟩ = some (.string q.f0) := (blk_cell HK.out 0).trans rfl
      have q1 : wr.cell? ⟨w.heap.size, 1, none⟩ = some (.string q.f1) := (blk_cell HK.out 1).trans rfl
      obtain ⟨sz, m0⟩ := M.out
      have m1 := m0.below HB.out
      have z0 := m1.z0
      have HH := Aside0.mk m1.bl
      clear m0 m1
      by_cases hlt : k < h.P.length
      · obtain ⟨ad, A3, c3, A4, c4, hae, hx, l1, g1, l2, g2⟩ := el120 HP.out hlt
        rw [hae] at z0
        obtain ⟨x0, x1, x2, x3, x4⟩ := hx wr HH.out
        have HY := Aside0.mk (HR.out h.P[k] (List.getElem_mem hlt))
        clear hae hx l1 g1 l2 g2
        generalize h.P[k] = y at *
        have s1 : y.f0.size + 1 ≤ 9223372036854775807 := by have := HY.out.sp; omega
        have s2 : (y.f0 ++ (⟨#[58]⟩ : ByteArray)).size + y.f1.size ≤ 9223372036854775807 := by
          have := HY.out.sp
          have := HY.out.nm
          rw [ByteArray.size_append]
          show y.f0.size + 1 + y.f1.size ≤ _
          omega
        have i0 : (0 : Int) ≤ (k : Int) := by omega
        have i1 : (k : Int) < (h.P.length : Int) := by omega
        have HB1 := Aside0.mk (fun n => pw_below_drewN HB.out n)
        by_cases hc : (y.f0 ++ (⟨#[58]⟩ : ByteArray) ++ y.f1).toList = q.f0.toList
        · have t1 : ((y.f0 ++ (⟨#[58]⟩ : ByteArray) ++ y.f1).toList == q.f0.toList) = true := beq_iff_eq.mpr hc
          clear hc
          by_cases hd : y.f2.toList = q.f1.toList
          · have t2 : (y.f2.toList == q.f1.toList) = true := beq_iff_eq.mpr hd
            clear hd
            go_wp2_with fail
            go_quiet (fail)
            go_wp2_with fail
            go_ret
            exact ⟨⟨_, rfl, .inr ⟨k, rfl, hlt⟩⟩, HB1.out _⟩
          · have t2 : (y.f2.toList == q.f1.toList) = false := beq_eq_false_iff_ne.mpr hd
            clear hd
            go_wp2_with fail
            go_quiet (fail)
            go_wp2_with fail
            go_roundw
            case rel => exact ⟨k + 1, by omega, by go_num, ⟨HB1.out _⟩, ⟨HK.out⟩⟩
            case measure => simp [intOf]; omega
        · have t1 : ((y.f0 ++ (⟨#[58]⟩ : ByteArray) ++ y.f1).toList == q.f0.toList) = false := beq_eq_false_iff_ne.mpr hc
          clear hc
          go_wp2_with fail
          go_quiet (fail)
          go_wp2_with fail
          go_roundw
          case rel => exact ⟨k + 1, by omega, by go_num, ⟨HB1.out _⟩, ⟨HK.out⟩⟩
          case measure => simp [intOf]; omega
      · obtain rfl : k = h.P.length := by omega
        go_wp2_with fail
        go_ret
        exact ⟨⟨_, rfl, .inl rfl⟩, HB.out⟩
theorem find_no {h : Hd} {p : Nat} (n : ByteArray) {w : World} :
    Calls Try.prog 107 #[.pointer (some ⟨p, 0, none⟩), .int .i64 (-1), .string n] w fun r w' => r = .returned (.int .i64 (-1)) ∧ w' = w := by
  go_enter Try.func107, Try.ntmps107
  go_wp2_with fail
  go_ret
  exact ⟨rfl, rfl⟩
set_option maxHeartbeats 8000000 in
set_option maxRecDepth 100000 in
theorem find_any {h : Hd} (ok : h.Ok) {p : Nat} {w : World} {v vi vo : Value} {dp : Nat} {E : Int} {res : List ByteArray} (m : ∃ sz, Mk h p w v vi vo dp sz E res)
    (a : Nat) (ha : a < h.P.length) (n : ByteArray) :
    Calls Try.prog 107 #[.pointer (some ⟨p, 0, none⟩), .int .i64 (a : Int), .string n] w (AtOk h.P[a].f3.length w) := by
  obtain ⟨sz, m⟩ := m
  have hn5 := ok.n5
  have z0 := m.z0
  have HH := Aside0.mk m.bl
  have HY := ok.right h.P[a] (List.getElem_mem ha)
  have hil := HY.il
  obtain ⟨ad, A3, c3, A4, c4, hae, hx, l1, g1, l2, g2⟩ := el120 ok.hP ha
  rw [hae] at z0
  obtain ⟨x0, x1, x2, x3, x4⟩ := hx w HH.out
  have HI := Aside0.mk (Kd.C_below g1 HH.out)
  clear hae hx l1 g1 l2 g2 HY ok m HH
  generalize h.P[a] = y at *
  have i0 : (0 : Int) ≤ (a : Int) := by omega
  have i1 : (a : Int) < (h.P.length : Int) := by omega
  have i2 : decide ((a : Int) < 0) = false := decide_eq_false (by omega)
  go_enter Try.func107, Try.ntmps107
  go_wp2_with fail
  clear x0 x1 x2 x3 x4 z0
  go_loop [8] (fun v8 => ∃ k : Nat, k ≤ y.f3.length ∧ v8 = .int .i64 k) (fun v8 => y.f3.length - (intOf v8).toNat)
  case atStart => exact ⟨0, Nat.zero_le _, rfl⟩
  case round =>
    obtain ⟨k, hk, rfl⟩ := hrel
    by_cases hlt : k < y.f3.length
    · obtain ⟨ad2, B1, d1, B2, d2, B3, d3, hae, hx, l1, g1, l2, g2, l3, g3⟩ := el142 HI.out hlt
      cases hae
      obtain ⟨x0, x1, x2, x3⟩ := hx w (Below.refl _ _)
      clear hx l1 g1 l2 g2 l3 g3
      generalize y.f3[k] = x at *
      by_cases hd : x.f0.toList = n.toList
      · have t2 : (x.f0.toList == n.toList) = true := beq_iff_eq.mpr hd
        clear hd
        go_wp2_with fail
        go_ret
        exact ⟨⟨_, rfl, .inr ⟨k, rfl, hlt⟩⟩, Below.refl _ _⟩
      · have t2 : (x.f0.toList == n.toList) = false := beq_eq_false_iff_ne.mpr hd
        clear hd
        go_wp2_with fail
        go_round
        case rel => exact ⟨k + 1, by omega, by go_num⟩
        case measure => simp [intOf]; omega
    · obtain rfl : k = y.f3.length := by omega
      go_wp2_with fail
      go_ret
      exact ⟨⟨_, rfl, .inl rfl⟩, Below.refl _ _⟩
def BoolOk (w : World) (r : Ending) (w' : World) : Prop := (∃ b : Bool, r = .returned (.bool b)) ∧ Below w.heap.size w w'
set_option maxHeartbeats 8000000 in
set_option maxRecDepth 100000 in
theorem exported_any {h : Hd} (ok : h.Ok) {p : Nat} {w : World} {v vi vo : Value} {dp : Nat} {E : Int} {res : List ByteArray} (m : ∃ sz, Mk h p w v vi vo dp sz E res)
    (a : Nat) (n : ByteArray) :
    Calls Try.prog 108 #[.pointer (some ⟨p, 0, none⟩), .int .i64 (a : Int), .string n] w (BoolOk w) := by
  have M := Aside0.mk m
  have OK := Aside0.mk ok
  have hol := ok.ww.o.ll
  clear m
  go_enter Try.func108, Try.ntmps108
  go_wp2_with fail
  go_loopw [7] (fun v7 wr => ∃ k : Nat, k ≤ h.wd.f4.length ∧ v7 = .int .i64 k ∧ Aside0 (Below w.heap.size w wr)) (fun v7 _ => h.wd.f4.length - (intOf v7).toNat)
  case atStart => exact ⟨0, Nat.zero_le _, rfl, ⟨Below.refl _ _⟩⟩
  case round =>
    obtain ⟨k, hk, rfl, HB⟩ := hrel
    obtain ⟨sz, m0⟩ := M.out
    have m1 := m0.below HB.out
    have z6 := m1.z6
    have HH := Aside0.mk m1.bl
    by_cases hlt : k < h.wd.f4.length
    · obtain ⟨ad, B2, d2, B3, d3, B5, d5, B6, d6, hae, hx, l2, g2, l3, g3, l5, g5, l6, g6⟩ := el157 OK.out.hO hlt
      rw [hae] at z6
      have HX := Aside0.mk hx
      clear hx l2 g2 l3 g3 l5 g5 l6 g6 hae
      generalize h.wd.f4[k] = y at *
      obtain ⟨x0, x1, x2, x3, x4, x5, x6, x7, x8, x9, x10⟩ := HX.out wr HH.out
      have M1 := Aside0.mk (m1.below (below_alloc (Below.refl _ _) (.cells #[.string y.f1.f0, .string y.f1.f1, .string y.f1.f2] 149)))
      have HB1 := Aside0.mk (below_alloc HB.out (.cells #[.string y.f1.f0, .string y.f1.f1, .string y.f1.f2] 149))
      have K1 := Aside0.mk (blk_new wr (.cells #[.string y.f1.f0, .string y.f1.f1, .string y.f1.f2] 149))
      clear m0 m1 HB
      have i0 : (0 : Int) ≤ (k : Int) := by omega
      have i1 : (k : Int) < (h.wd.f4.length : Int) := by omega
      by_cases hd : y.f1.f2.toList = n.toList
      · have t2 : (y.f1.f2.toList == n.toList) = true := beq_iff_eq.mpr hd
        clear hd
        go_wp2_with fail
        obtain ⟨wb, hwb⟩ : ∃ wb : World, wb = (wr.alloc (.cells #[.string y.f1.f0, .string y.f1.f1, .string y.f1.f2] 149)) := ⟨_, rfl⟩
        rw [← hwb] at M1 HB1 K1 ⊢
        clear hwb x0 x1 x2 x3 x4 x5 x6 x7 x8 x9 x10 z6
        generalize wr.heap.size = gb at *
        have q0 : wb.cell? ⟨gb, 0, none⟩ = some (.string y.f1.f0) := (blk_cell K1.out 0).trans rfl
        have q1 : wb.cell? ⟨gb, 1, none⟩ = some (.string y.f1.f1) := (blk_cell K1.out 1).trans rfl
        have q2 : wb.cell? ⟨gb, 2, none⟩ = some (.string y.f1.f2) := (blk_cell K1.out 2).trans rfl
        have z1 := M1.out.z1
        have M2 : Aside0 (∃ sz, Mk h p wb.drew v vi vo dp sz E res) := ⟨sz, M1.out.below (below_drew1 (Below.refl _ _))⟩
        have HB2 := Aside0.mk (below_drew1 HB1.out)
        clear M1 HB1 K1
        go_region_with (first
          | (go_at_call 106; refine (place_any OK.out M2.out y.f1 h.pkg OK.out.pk).mono ?_; rintro e w1 ⟨⟨i, rfl, hi⟩, hb⟩; have HB3 := Aside0.mk (below_step HB2.out hb); clear hi hb))
        all_goals
          go_wp2_with fail
          all_goals first
            | (go_ret; exact ⟨⟨_, rfl⟩, HB3.out⟩)
            | (go_roundw
               case rel => exact ⟨k + 1, by omega, by go_num, HB3⟩
               case measure => simp [intOf]; omega)
      · have t2 : (y.f1.f2.toList == n.toList) = false := beq_eq_false_iff_ne.mpr hd
        clear hd
        go_wp2_with fail
        obtain ⟨wb, hwb⟩ : ∃ wb : World, wb = (wr.alloc (.cells #[.string y.f1.f0, .string y.f1.f1, .string y.f1.f2] 149)) := ⟨_, rfl⟩
        rw [← hwb] at M1 HB1 K1 ⊢
        clear hwb x0 x1 x2 x3 x4 x5 x6 x7 x8 x9 x10 z6
        generalize wr.heap.size = gb at *
        have q0 : wb.cell? ⟨gb, 0, none⟩ = some (.string y.f1.f0) := (blk_cell K1.out 0).trans rfl
        have q1 : wb.cell? ⟨gb, 1, none⟩ = some (.string y.f1.f1) := (blk_cell K1.out 1).trans rfl
        have q2 : wb.cell? ⟨gb, 2, none⟩ = some (.string y.f1.f2) := (blk_cell K1.out 2).trans rfl
        have z1 := M1.out.z1
        have HB2 := Aside0.mk (fun n => pw_below_drewN HB1.out n)
        clear M1 HB1 K1
        go_quiet (fail)
        go_wp2_with fail
        go_roundw
        case rel => exact ⟨k + 1, by omega, by go_num, ⟨HB2.out _⟩⟩
        case measure => simp [intOf]; omega
    · obtain rfl : k = h.wd.f4.length := by omega
      go_wp2_with fail
      go_ret
      exact ⟨⟨_, rfl⟩, HB.out⟩
end Go.Proofs.Ytmpmcffhlnlejaa.Mkr
end
