/- The walk of the law MemSigns. -/
import Derived.Test.YtmpmcffhlnlejaaMemMade
import Derived.Test.YtmpmcffhlnlejaaMemVal
namespace Go.Proofs.Ytmpmcffhlnlejaa.MemEq
open Go.RowKit Go.Proofs.YtmpmcffhlnlejaaW.PrintWords Go.Proofs.YtmpmcffhlnlejaaW.PrintLast Go.Proofs.YtmpmcffhlnlejaaW.PrintMore
open Go.Proofs.Ytmpmcffhlnlejaa.PMemBack
set_option linter.unusedVariables false
set_option linter.unusedSimpArgs false

theorem and_le (x : Int) (m : Nat) (hm : m < 9223372036854775808) : ∃ r : Nat, Go.bits .and .i64 x (m : Int) = (r : Int) ∧ r ≤ m := by
  have hle : (BitVec.ofInt 64 x &&& BitVec.ofInt 64 (m : Int)).toNat ≤ m := by
    rw [BitVec.toNat_and]
    refine Nat.le_trans Nat.and_le_right ?_
    rw [BitVec.ofInt_natCast, BitVec.toNat_ofNat]
    exact Nat.mod_le _ _
  refine ⟨(BitVec.ofInt 64 x &&& BitVec.ofInt 64 (m : Int)).toNat, ?_, hle⟩
  show IntKind.i64.wrap ((BitVec.ofInt 64 x &&& BitVec.ofInt 64 (m : Int)).toNat : Int) = _
  exact IntWalk.i64_in _ (by omega)

theorem load_u {op : Int} {L : List UInt8} {n : Nat} {t : Int} {st : Bool} (hw : widthF op = (n, t, st)) (hs : signedF op = false) (hl : L.length = n) (hn : n = 1 ∨ n = 2 ∨ n = 4) :
    loadF op L = ((leN L n : Nat) : Int) := by
  have hu := leN_lt L n
  have hb : (2 : Nat) ^ (8 * n) ≤ 2 ^ 32 := Nat.pow_le_pow_right (by decide) (by omega)
  have h32 : (2 : Nat) ^ 32 = 4294967296 := by decide
  have hw2 : wrap64 ((leN L n : Nat) : Int) = ((leN L n : Nat) : Int) := by unfold wrap64; omega
  unfold loadF
  rw [hw, hl, raw_le L n (by omega), hw2, hs]
  simp only [Bool.false_eq_true, if_false]
  split
  · omega
  · rfl
theorem load_s {op : Int} {L : List UInt8} {n : Nat} {t : Int} {st : Bool} (hw : widthF op = (n, t, st)) (hs : signedF op = true) (hl : L.length = n) (hn : n = 1 ∨ n = 2 ∨ n = 4) :
    loadF op L = if t = 127 then (if 2 ^ (8 * n - 1) ≤ leN L n then ((leN L n : Nat) : Int) - 2 ^ (8 * n) else ((leN L n : Nat) : Int)) % 4294967296 else (if 2 ^ (8 * n - 1) ≤ leN L n then ((leN L n : Nat) : Int) - 2 ^ (8 * n) else ((leN L n : Nat) : Int)) := by
  unfold loadF
  rw [hw, hl, raw_le L n (by omega), hs]
  simp only [if_true]
  rw [sign_of n hn _ (leN_lt L n)]

set_option maxHeartbeats 16000000 in
set_option maxRecDepth 100000 in
theorem law_signs (l : List S79) (A : Option Addr) (c : Nat) (at_ : Int) (W : World) (hl : k79.C W A l.length l) (hc : l.length ≤ c) :
    Calls Try.prog 11 #[.slice A l.length c, .int .i64 at_] W fun e w' => e = .returned (.bool true) ∧ Below W.heap.size W w' := by
  obtain ⟨a, ha, ha1⟩ := and_le at_ 65535 (by decide)
  replace ha : Go.bits .and .i64 at_ 65535 = (a : Int) := ha
  have HL := Aside0.mk hl
  clear hl
  go_enter Try.func11, Try.ntmps11
  go_wp2_with fail
  refine (made_calls HL.out hc).mono ?_
  rintro e w1 ⟨p, g, S, rfl, hS, hM, hp, hg, hb1⟩
  have HM0 := Aside0.mk hM
  have HP := Aside0.mk hp
  have HG := Aside0.mk hg
  have HB0 := Aside0.mk hb1
  clear hM hp hg hb1
  go_wp2_with fail
  clear ha
  go_loopw [6] (fun v6 wr => ∃ k : Nat, k ≤ 5 ∧ v6 = .int .i64 (44 + 2 * (k : Int)) ∧ Aside0 (MemAt 105 wr p g (1 * 65536) S 2 2) ∧ Aside0 (Below W.heap.size W wr)) (fun v6 _ => 54 - (intOf v6).toNat)
  case atStart => exact ⟨0, Nat.zero_le _, rfl, HM0, HB0⟩
  case round =>
    clear HM0 HB0
    obtain ⟨k, hk, rfl, HM, HB⟩ := hrel
    have hk6 : k = 0 ∨ k = 1 ∨ k = 2 ∨ k = 3 ∨ k = 4 ∨ k = 5 := by omega
    rcases hk6 with rfl | rfl | rfl | rfl | rfl | rfl
    · rw [show (44 : Int) + 2 * ((0 : Nat) : Int) = 44 from rfl]
      have hw1 : widthF 44 = (1, 127, false) := by decide
      have hw2 : widthF 45 = (1, 127, false) := by decide
      have hs1 : signedF 44 = true := by decide
      have hs2 : signedF 45 = false := by decide
      have HW := Aside0.mk (fun w => width_calls 44 w)
      rw [hw1] at HW
      by_cases hf : a + 1 ≤ 65536
      · have hn : (getAt S a 1).length = 1 := getAt_length (by omega)
        have v1 := load_s hw1 hs1 hn (by decide)
        have v2 := load_u hw2 hs2 hn (by decide)
        have hu := leN_lt (getAt S a 1) 1
        have HL1 := Aside0.mk (fun w (h : MemAt 105 w p g (1 * 65536) S 2 2) => load_yes (op := 44) (a := a) (n := 1) (t := 127) h (by omega) hw1 (by decide) (by omega))
        have HL2 := Aside0.mk (fun w (h : MemAt 105 w p g (1 * 65536) S 2 2) => load_yes (op := 45) (a := a) (n := 1) (t := 127) h (by omega) hw2 (by decide) (by omega))
        rw [v1] at HL1
        rw [v2] at HL2
        clear v1 v2 hn hw1 hw2 hs1 hs2
        generalize leN (getAt S a 1) 1 = u at *
        replace hu : u < 256 := hu
        rw [show (2 : Nat) ^ (8 * 1 - 1) = 128 from rfl, show (2 : Int) ^ (8 * 1) = 256 from rfl] at HL1
        rw [if_pos rfl] at HL1
        by_cases hh : 128 ≤ u
        · rw [if_pos hh] at HL1
          have q1 : decide ((128 : Int) ≤ (u : Int)) = true := decide_eq_true (by omega)
          have q2 : Go.bits .and .i64 ((u : Int) - 256) 4294967295 = ((u : Int) - 256) % 4294967296 := and_mask ((u : Int) - 256) 32 (by decide)
          go_wp2_with fail
          refine (HW.out _).mono ?_
          rintro e w2 ⟨rfl, ⟨d1, rfl⟩⟩
          go_wp2_with fail
          refine (HL1.out _ (HM.out.drewN d1)).mono ?_
          rintro e w2 ⟨rfl, ⟨d2, rfl⟩⟩
          go_wp2_with fail
          refine (HL2.out _ (HM.out.drewN (d1 + d2))).mono ?_
          rintro e w2 ⟨rfl, ⟨d3, rfl⟩⟩
          have HB2 := Aside0.mk (pw_below_drewN HB.out (d1 + d2 + d3))
          have HM2 := Aside0.mk (HM.out.drewN (d1 + d2 + d3))
          clear HW HL1 HL2 HB HM
          go_wp2_with fail
          go_roundw
          case rel => exact ⟨1, by omega, by rfl, HM2, HB2⟩
          case measure => simp [intOf]
        · rw [if_neg hh] at HL1
          have q1 : decide ((128 : Int) ≤ (u : Int)) = false := decide_eq_false (by omega)
          have q2 : Go.bits .and .i64 ((u : Int)) 4294967295 = ((u : Int)) % 4294967296 := and_mask ((u : Int)) 32 (by decide)
          go_wp2_with fail
          refine (HW.out _).mono ?_
          rintro e w2 ⟨rfl, ⟨d1, rfl⟩⟩
          go_wp2_with fail
          refine (HL1.out _ (HM.out.drewN d1)).mono ?_
          rintro e w2 ⟨rfl, ⟨d2, rfl⟩⟩
          go_wp2_with fail
          refine (HL2.out _ (HM.out.drewN (d1 + d2))).mono ?_
          rintro e w2 ⟨rfl, ⟨d3, rfl⟩⟩
          have HB2 := Aside0.mk (pw_below_drewN HB.out (d1 + d2 + d3))
          have HM2 := Aside0.mk (HM.out.drewN (d1 + d2 + d3))
          clear HW HL1 HL2 HB HM
          go_wp2_with fail
          go_roundw
          case rel => exact ⟨1, by omega, by rfl, HM2, HB2⟩
          case measure => simp [intOf]
      · exact absurd (by omega) hf
    · rw [show (44 : Int) + 2 * ((1 : Nat) : Int) = 46 from rfl]
      have hw1 : widthF 46 = (2, 127, false) := by decide
      have hw2 : widthF 47 = (2, 127, false) := by decide
      have hs1 : signedF 46 = true := by decide
      have hs2 : signedF 47 = false := by decide
      have HW := Aside0.mk (fun w => width_calls 46 w)
      rw [hw1] at HW
      by_cases hf : a + 2 ≤ 65536
      · have hn : (getAt S a 2).length = 2 := getAt_length (by omega)
        have v1 := load_s hw1 hs1 hn (by decide)
        have v2 := load_u hw2 hs2 hn (by decide)
        have hu := leN_lt (getAt S a 2) 2
        have HL1 := Aside0.mk (fun w (h : MemAt 105 w p g (1 * 65536) S 2 2) => load_yes (op := 46) (a := a) (n := 2) (t := 127) h (by omega) hw1 (by decide) (by omega))
        have HL2 := Aside0.mk (fun w (h : MemAt 105 w p g (1 * 65536) S 2 2) => load_yes (op := 47) (a := a) (n := 2) (t := 127) h (by omega) hw2 (by decide) (by omega))
        rw [v1] at HL1
        rw [v2] at HL2
        clear v1 v2 hn hw1 hw2 hs1 hs2
        generalize leN (getAt S a 2) 2 = u at *
        replace hu : u < 65536 := hu
        rw [show (2 : Nat) ^ (8 * 2 - 1) = 32768 from rfl, show (2 : Int) ^ (8 * 2) = 65536 from rfl] at HL1
        rw [if_pos rfl] at HL1
        by_cases hh : 32768 ≤ u
        · rw [if_pos hh] at HL1
          have q1 : decide ((32768 : Int) ≤ (u : Int)) = true := decide_eq_true (by omega)
          have q2 : Go.bits .and .i64 ((u : Int) - 65536) 4294967295 = ((u : Int) - 65536) % 4294967296 := and_mask ((u : Int) - 65536) 32 (by decide)
          go_wp2_with fail
          refine (HW.out _).mono ?_
          rintro e w2 ⟨rfl, ⟨d1, rfl⟩⟩
          go_wp2_with fail
          refine (HL1.out _ (HM.out.drewN d1)).mono ?_
          rintro e w2 ⟨rfl, ⟨d2, rfl⟩⟩
          go_wp2_with fail
          refine (HL2.out _ (HM.out.drewN (d1 + d2))).mono ?_
          rintro e w2 ⟨rfl, ⟨d3, rfl⟩⟩
          have HB2 := Aside0.mk (pw_below_drewN HB.out (d1 + d2 + d3))
          have HM2 := Aside0.mk (HM.out.drewN (d1 + d2 + d3))
          clear HW HL1 HL2 HB HM
          go_wp2_with fail
          go_roundw
          case rel => exact ⟨2, by omega, by rfl, HM2, HB2⟩
          case measure => simp [intOf]
        · rw [if_neg hh] at HL1
          have q1 : decide ((32768 : Int) ≤ (u : Int)) = false := decide_eq_false (by omega)
          have q2 : Go.bits .and .i64 ((u : Int)) 4294967295 = ((u : Int)) % 4294967296 := and_mask ((u : Int)) 32 (by decide)
          go_wp2_with fail
          refine (HW.out _).mono ?_
          rintro e w2 ⟨rfl, ⟨d1, rfl⟩⟩
          go_wp2_with fail
          refine (HL1.out _ (HM.out.drewN d1)).mono ?_
          rintro e w2 ⟨rfl, ⟨d2, rfl⟩⟩
          go_wp2_with fail
          refine (HL2.out _ (HM.out.drewN (d1 + d2))).mono ?_
          rintro e w2 ⟨rfl, ⟨d3, rfl⟩⟩
          have HB2 := Aside0.mk (pw_below_drewN HB.out (d1 + d2 + d3))
          have HM2 := Aside0.mk (HM.out.drewN (d1 + d2 + d3))
          clear HW HL1 HL2 HB HM
          go_wp2_with fail
          go_roundw
          case rel => exact ⟨2, by omega, by rfl, HM2, HB2⟩
          case measure => simp [intOf]
      · have hff : fits S.length (a : Int) (2 : Nat) = false := decide_eq_false (by rw [hS]; omega)
        have HL1 := Aside0.mk (fun w (h : MemAt 105 w p g (1 * 65536) S 2 2) => load_no (op := 46) (at_ := (a : Int)) h (by omega) (by rw [hw1]; show (_ || _ || !fits S.length (a : Int) ((2 : Nat) : Int)) = true; rw [hff]; rfl))
        have HL2 := Aside0.mk (fun w (h : MemAt 105 w p g (1 * 65536) S 2 2) => load_no (op := 47) (at_ := (a : Int)) h (by omega) (by rw [hw2]; show (_ || _ || !fits S.length (a : Int) ((2 : Nat) : Int)) = true; rw [hff]; rfl))
        clear hff hw1 hw2 hs1 hs2
        go_wp2_with fail
        refine (HW.out _).mono ?_
        rintro e w2 ⟨rfl, ⟨d1, rfl⟩⟩
        go_wp2_with fail
        refine (HL1.out _ (HM.out.drewN d1)).mono ?_
        rintro e w2 ⟨rfl, ⟨d2, rfl⟩⟩
        go_wp2_with fail
        refine (HL2.out _ (HM.out.drewN (d1 + d2))).mono ?_
        rintro e w2 ⟨rfl, ⟨d3, rfl⟩⟩
        have HB2 := Aside0.mk (pw_below_drewN HB.out (d1 + d2 + d3))
        have HM2 := Aside0.mk (HM.out.drewN (d1 + d2 + d3))
        clear HW HL1 HL2 HB HM
        go_wp2_with fail
        go_roundw
        case rel => exact ⟨2, by omega, by rfl, HM2, HB2⟩
        case measure => simp [intOf]
    · rw [show (44 : Int) + 2 * ((2 : Nat) : Int) = 48 from rfl]
      have hw1 : widthF 48 = (1, 126, false) := by decide
      have hw2 : widthF 49 = (1, 126, false) := by decide
      have hs1 : signedF 48 = true := by decide
      have hs2 : signedF 49 = false := by decide
      have HW := Aside0.mk (fun w => width_calls 48 w)
      rw [hw1] at HW
      by_cases hf : a + 1 ≤ 65536
      · have hn : (getAt S a 1).length = 1 := getAt_length (by omega)
        have v1 := load_s hw1 hs1 hn (by decide)
        have v2 := load_u hw2 hs2 hn (by decide)
        have hu := leN_lt (getAt S a 1) 1
        have HL1 := Aside0.mk (fun w (h : MemAt 105 w p g (1 * 65536) S 2 2) => load_yes (op := 48) (a := a) (n := 1) (t := 126) h (by omega) hw1 (by decide) (by omega))
        have HL2 := Aside0.mk (fun w (h : MemAt 105 w p g (1 * 65536) S 2 2) => load_yes (op := 49) (a := a) (n := 1) (t := 126) h (by omega) hw2 (by decide) (by omega))
        rw [v1] at HL1
        rw [v2] at HL2
        clear v1 v2 hn hw1 hw2 hs1 hs2
        generalize leN (getAt S a 1) 1 = u at *
        replace hu : u < 256 := hu
        rw [show (2 : Nat) ^ (8 * 1 - 1) = 128 from rfl, show (2 : Int) ^ (8 * 1) = 256 from rfl] at HL1
        rw [if_neg (by decide)] at HL1
        by_cases hh : 128 ≤ u
        · rw [if_pos hh] at HL1
          have q1 : decide ((128 : Int) ≤ (u : Int)) = true := decide_eq_true (by omega)
          go_wp2_with fail
          refine (HW.out _).mono ?_
          rintro e w2 ⟨rfl, ⟨d1, rfl⟩⟩
          go_wp2_with fail
          refine (HL1.out _ (HM.out.drewN d1)).mono ?_
          rintro e w2 ⟨rfl, ⟨d2, rfl⟩⟩
          go_wp2_with fail
          refine (HL2.out _ (HM.out.drewN (d1 + d2))).mono ?_
          rintro e w2 ⟨rfl, ⟨d3, rfl⟩⟩
          have HB2 := Aside0.mk (pw_below_drewN HB.out (d1 + d2 + d3))
          have HM2 := Aside0.mk (HM.out.drewN (d1 + d2 + d3))
          clear HW HL1 HL2 HB HM
          go_wp2_with fail
          go_roundw
          case rel => exact ⟨3, by omega, by rfl, HM2, HB2⟩
          case measure => simp [intOf]
        · rw [if_neg hh] at HL1
          have q1 : decide ((128 : Int) ≤ (u : Int)) = false := decide_eq_false (by omega)
          go_wp2_with fail
          refine (HW.out _).mono ?_
          rintro e w2 ⟨rfl, ⟨d1, rfl⟩⟩
          go_wp2_with fail
          refine (HL1.out _ (HM.out.drewN d1)).mono ?_
          rintro e w2 ⟨rfl, ⟨d2, rfl⟩⟩
          go_wp2_with fail
          refine (HL2.out _ (HM.out.drewN (d1 + d2))).mono ?_
          rintro e w2 ⟨rfl, ⟨d3, rfl⟩⟩
          have HB2 := Aside0.mk (pw_below_drewN HB.out (d1 + d2 + d3))
          have HM2 := Aside0.mk (HM.out.drewN (d1 + d2 + d3))
          clear HW HL1 HL2 HB HM
          go_wp2_with fail
          go_roundw
          case rel => exact ⟨3, by omega, by rfl, HM2, HB2⟩
          case measure => simp [intOf]
      · exact absurd (by omega) hf
    · rw [show (44 : Int) + 2 * ((3 : Nat) : Int) = 50 from rfl]
      have hw1 : widthF 50 = (2, 126, false) := by decide
      have hw2 : widthF 51 = (2, 126, false) := by decide
      have hs1 : signedF 50 = true := by decide
      have hs2 : signedF 51 = false := by decide
      have HW := Aside0.mk (fun w => width_calls 50 w)
      rw [hw1] at HW
      by_cases hf : a + 2 ≤ 65536
      · have hn : (getAt S a 2).length = 2 := getAt_length (by omega)
        have v1 := load_s hw1 hs1 hn (by decide)
        have v2 := load_u hw2 hs2 hn (by decide)
        have hu := leN_lt (getAt S a 2) 2
        have HL1 := Aside0.mk (fun w (h : MemAt 105 w p g (1 * 65536) S 2 2) => load_yes (op := 50) (a := a) (n := 2) (t := 126) h (by omega) hw1 (by decide) (by omega))
        have HL2 := Aside0.mk (fun w (h : MemAt 105 w p g (1 * 65536) S 2 2) => load_yes (op := 51) (a := a) (n := 2) (t := 126) h (by omega) hw2 (by decide) (by omega))
        rw [v1] at HL1
        rw [v2] at HL2
        clear v1 v2 hn hw1 hw2 hs1 hs2
        generalize leN (getAt S a 2) 2 = u at *
        replace hu : u < 65536 := hu
        rw [show (2 : Nat) ^ (8 * 2 - 1) = 32768 from rfl, show (2 : Int) ^ (8 * 2) = 65536 from rfl] at HL1
        rw [if_neg (by decide)] at HL1
        by_cases hh : 32768 ≤ u
        · rw [if_pos hh] at HL1
          have q1 : decide ((32768 : Int) ≤ (u : Int)) = true := decide_eq_true (by omega)
          go_wp2_with fail
          refine (HW.out _).mono ?_
          rintro e w2 ⟨rfl, ⟨d1, rfl⟩⟩
          go_wp2_with fail
          refine (HL1.out _ (HM.out.drewN d1)).mono ?_
          rintro e w2 ⟨rfl, ⟨d2, rfl⟩⟩
          go_wp2_with fail
          refine (HL2.out _ (HM.out.drewN (d1 + d2))).mono ?_
          rintro e w2 ⟨rfl, ⟨d3, rfl⟩⟩
          have HB2 := Aside0.mk (pw_below_drewN HB.out (d1 + d2 + d3))
          have HM2 := Aside0.mk (HM.out.drewN (d1 + d2 + d3))
          clear HW HL1 HL2 HB HM
          go_wp2_with fail
          go_roundw
          case rel => exact ⟨4, by omega, by rfl, HM2, HB2⟩
          case measure => simp [intOf]
        · rw [if_neg hh] at HL1
          have q1 : decide ((32768 : Int) ≤ (u : Int)) = false := decide_eq_false (by omega)
          go_wp2_with fail
          refine (HW.out _).mono ?_
          rintro e w2 ⟨rfl, ⟨d1, rfl⟩⟩
          go_wp2_with fail
          refine (HL1.out _ (HM.out.drewN d1)).mono ?_
          rintro e w2 ⟨rfl, ⟨d2, rfl⟩⟩
          go_wp2_with fail
          refine (HL2.out _ (HM.out.drewN (d1 + d2))).mono ?_
          rintro e w2 ⟨rfl, ⟨d3, rfl⟩⟩
          have HB2 := Aside0.mk (pw_below_drewN HB.out (d1 + d2 + d3))
          have HM2 := Aside0.mk (HM.out.drewN (d1 + d2 + d3))
          clear HW HL1 HL2 HB HM
          go_wp2_with fail
          go_roundw
          case rel => exact ⟨4, by omega, by rfl, HM2, HB2⟩
          case measure => simp [intOf]
      · have hff : fits S.length (a : Int) (2 : Nat) = false := decide_eq_false (by rw [hS]; omega)
        have HL1 := Aside0.mk (fun w (h : MemAt 105 w p g (1 * 65536) S 2 2) => load_no (op := 50) (at_ := (a : Int)) h (by omega) (by rw [hw1]; show (_ || _ || !fits S.length (a : Int) ((2 : Nat) : Int)) = true; rw [hff]; rfl))
        have HL2 := Aside0.mk (fun w (h : MemAt 105 w p g (1 * 65536) S 2 2) => load_no (op := 51) (at_ := (a : Int)) h (by omega) (by rw [hw2]; show (_ || _ || !fits S.length (a : Int) ((2 : Nat) : Int)) = true; rw [hff]; rfl))
        clear hff hw1 hw2 hs1 hs2
        go_wp2_with fail
        refine (HW.out _).mono ?_
        rintro e w2 ⟨rfl, ⟨d1, rfl⟩⟩
        go_wp2_with fail
        refine (HL1.out _ (HM.out.drewN d1)).mono ?_
        rintro e w2 ⟨rfl, ⟨d2, rfl⟩⟩
        go_wp2_with fail
        refine (HL2.out _ (HM.out.drewN (d1 + d2))).mono ?_
        rintro e w2 ⟨rfl, ⟨d3, rfl⟩⟩
        have HB2 := Aside0.mk (pw_below_drewN HB.out (d1 + d2 + d3))
        have HM2 := Aside0.mk (HM.out.drewN (d1 + d2 + d3))
        clear HW HL1 HL2 HB HM
        go_wp2_with fail
        go_roundw
        case rel => exact ⟨4, by omega, by rfl, HM2, HB2⟩
        case measure => simp [intOf]
    · rw [show (44 : Int) + 2 * ((4 : Nat) : Int) = 52 from rfl]
      have hw1 : widthF 52 = (4, 126, false) := by decide
      have hw2 : widthF 53 = (4, 126, false) := by decide
      have hs1 : signedF 52 = true := by decide
      have hs2 : signedF 53 = false := by decide
      have HW := Aside0.mk (fun w => width_calls 52 w)
      rw [hw1] at HW
      by_cases hf : a + 4 ≤ 65536
      · have hn : (getAt S a 4).length = 4 := getAt_length (by omega)
        have v1 := load_s hw1 hs1 hn (by decide)
        have v2 := load_u hw2 hs2 hn (by decide)
        have hu := leN_lt (getAt S a 4) 4
        have HL1 := Aside0.mk (fun w (h : MemAt 105 w p g (1 * 65536) S 2 2) => load_yes (op := 52) (a := a) (n := 4) (t := 126) h (by omega) hw1 (by decide) (by omega))
        have HL2 := Aside0.mk (fun w (h : MemAt 105 w p g (1 * 65536) S 2 2) => load_yes (op := 53) (a := a) (n := 4) (t := 126) h (by omega) hw2 (by decide) (by omega))
        rw [v1] at HL1
        rw [v2] at HL2
        clear v1 v2 hn hw1 hw2 hs1 hs2
        generalize leN (getAt S a 4) 4 = u at *
        replace hu : u < 4294967296 := hu
        rw [show (2 : Nat) ^ (8 * 4 - 1) = 2147483648 from rfl, show (2 : Int) ^ (8 * 4) = 4294967296 from rfl] at HL1
        rw [if_neg (by decide)] at HL1
        by_cases hh : 2147483648 ≤ u
        · rw [if_pos hh] at HL1
          have q1 : decide ((2147483648 : Int) ≤ (u : Int)) = true := decide_eq_true (by omega)
          go_wp2_with fail
          refine (HW.out _).mono ?_
          rintro e w2 ⟨rfl, ⟨d1, rfl⟩⟩
          go_wp2_with fail
          refine (HL1.out _ (HM.out.drewN d1)).mono ?_
          rintro e w2 ⟨rfl, ⟨d2, rfl⟩⟩
          go_wp2_with fail
          refine (HL2.out _ (HM.out.drewN (d1 + d2))).mono ?_
          rintro e w2 ⟨rfl, ⟨d3, rfl⟩⟩
          have HB2 := Aside0.mk (pw_below_drewN HB.out (d1 + d2 + d3))
          have HM2 := Aside0.mk (HM.out.drewN (d1 + d2 + d3))
          clear HW HL1 HL2 HB HM
          go_wp2_with fail
          go_roundw
          case rel => exact ⟨5, by omega, by rfl, HM2, HB2⟩
          case measure => simp [intOf]
        · rw [if_neg hh] at HL1
          have q1 : decide ((2147483648 : Int) ≤ (u : Int)) = false := decide_eq_false (by omega)
          go_wp2_with fail
          refine (HW.out _).mono ?_
          rintro e w2 ⟨rfl, ⟨d1, rfl⟩⟩
          go_wp2_with fail
          refine (HL1.out _ (HM.out.drewN d1)).mono ?_
          rintro e w2 ⟨rfl, ⟨d2, rfl⟩⟩
          go_wp2_with fail
          refine (HL2.out _ (HM.out.drewN (d1 + d2))).mono ?_
          rintro e w2 ⟨rfl, ⟨d3, rfl⟩⟩
          have HB2 := Aside0.mk (pw_below_drewN HB.out (d1 + d2 + d3))
          have HM2 := Aside0.mk (HM.out.drewN (d1 + d2 + d3))
          clear HW HL1 HL2 HB HM
          go_wp2_with fail
          go_roundw
          case rel => exact ⟨5, by omega, by rfl, HM2, HB2⟩
          case measure => simp [intOf]
      · have hff : fits S.length (a : Int) (4 : Nat) = false := decide_eq_false (by rw [hS]; omega)
        have HL1 := Aside0.mk (fun w (h : MemAt 105 w p g (1 * 65536) S 2 2) => load_no (op := 52) (at_ := (a : Int)) h (by omega) (by rw [hw1]; show (_ || _ || !fits S.length (a : Int) ((4 : Nat) : Int)) = true; rw [hff]; rfl))
        have HL2 := Aside0.mk (fun w (h : MemAt 105 w p g (1 * 65536) S 2 2) => load_no (op := 53) (at_ := (a : Int)) h (by omega) (by rw [hw2]; show (_ || _ || !fits S.length (a : Int) ((4 : Nat) : Int)) = true; rw [hff]; rfl))
        clear hff hw1 hw2 hs1 hs2
        go_wp2_with fail
        refine (HW.out _).mono ?_
        rintro e w2 ⟨rfl, ⟨d1, rfl⟩⟩
        go_wp2_with fail
        refine (HL1.out _ (HM.out.drewN d1)).mono ?_
        rintro e w2 ⟨rfl, ⟨d2, rfl⟩⟩
        go_wp2_with fail
        refine (HL2.out _ (HM.out.drewN (d1 + d2))).mono ?_
        rintro e w2 ⟨rfl, ⟨d3, rfl⟩⟩
        have HB2 := Aside0.mk (pw_below_drewN HB.out (d1 + d2 + d3))
        have HM2 := Aside0.mk (HM.out.drewN (d1 + d2 + d3))
        clear HW HL1 HL2 HB HM
        go_wp2_with fail
        go_roundw
        case rel => exact ⟨5, by omega, by rfl, HM2, HB2⟩
        case measure => simp [intOf]
    · rw [show (44 : Int) + 2 * ((5 : Nat) : Int) = 54 from rfl]
      go_wp2_with fail
      refine (awake_calls _).mono ?_
      rintro e w2 ⟨rfl, hb⟩
      have HE := Aside0.mk (below_step HB.out hb)
      clear hb
      go_wp2_with fail
      go_ret
      exact ⟨rfl, HE.out⟩
end Go.Proofs.Ytmpmcffhlnlejaa.MemEq
