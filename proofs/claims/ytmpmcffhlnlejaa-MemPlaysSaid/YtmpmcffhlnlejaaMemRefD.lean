/- The reference's memories (scarfref04): Load. -/
import Derived.Test.YtmpmcffhlnlejaaMemRefC
import Derived.Test.YtmpmcffhlnlejaaMemSignsW
namespace Go.Proofs.Ytmpmcffhlnlejaa.MemEq
open Go.RowKit Go.Proofs.YtmpmcffhlnlejaaW.PrintWords Go.Proofs.YtmpmcffhlnlejaaW.PrintLast Go.Proofs.YtmpmcffhlnlejaaW.PrintMore
set_option linter.unusedVariables false
set_option linter.unusedSimpArgs false

theorem rload_no {w : World} {p g cap : Nat} {S : List UInt8} {most bound : Int} {op at_ : Int} (h : MemAt 83 w p g cap S most bound) (hs : S.length ≤ 1048576)
    (hf : ((widthF op).1 == 0 || (widthF op).2.2 || !fits S.length at_ (widthF op).1) = true) :
    Calls Try.prog 66 #[.pointer (some ⟨p, 0, none⟩), .int .i64 op, .int .i64 at_] w fun e w' => e = .returned (.tuple #[.int .i64 0, .int .i64 4]) ∧ Below w.heap.size w w' := by
  have HM := Aside0.mk h
  have hle := width_le op
  clear h
  have HW := Aside0.mk (fun w => rwidth_calls op w)
  have HF := Aside0.mk hf
  clear hf
  generalize (widthF op) = W at *
  obtain ⟨n, t, st⟩ := W
  replace hle : n ≤ 8 := hle
  by_cases hn : n = 0
  · subst hn
    clear HF
    go_enter Try.func66, Try.ntmps66
    go_wp2_with fail
    refine (HW.out w).mono ?_
    rintro e w1 ⟨rfl, hb⟩
    have HB := Aside0.mk hb
    clear hb
    go_wp2_with fail
    exact bodyPost_ret (v := .tuple #[.int .i64 0, .int .i64 4]) (by simp [results, Try.results66, go_sem, *]) rfl ⟨rfl, HB.out⟩
  · have hn' : ((n : Int) == 0) = false := beq_eq_false_iff_ne.mpr (by omega)
    cases st with
    | true =>
      clear HF
      go_enter Try.func66, Try.ntmps66
      go_wp2_with fail
      refine (HW.out w).mono ?_
      rintro e w1 ⟨rfl, hb⟩
      have HB := Aside0.mk hb
      clear hb
      go_wp2_with fail
      exact bodyPost_ret (v := .tuple #[.int .i64 0, .int .i64 4]) (by simp [results, Try.results66, go_sem, *]) rfl ⟨rfl, HB.out⟩
    | false =>
      have hff : fits S.length at_ n = false := by
        have := HF.out
        simpa [hn] using this
      clear HF
      go_enter Try.func66, Try.ntmps66
      go_wp2_with fail
      refine (HW.out w).mono ?_
      rintro e w1 ⟨rfl, hb⟩
      have HB := Aside0.mk hb
      have HM1 := Aside0.mk (HM.out.below hb)
      clear hb
      go_wp2_with fail
      refine (rin_no HM1.out hs hff).mono ?_
      rintro e w2 ⟨rfl, rfl⟩
      clear hff
      go_wp2_with fail
      exact bodyPost_ret (v := .tuple #[.int .i64 0, .int .i64 4]) (by simp [results, Try.results66, go_sem, *]) rfl ⟨rfl, HB.out⟩

/-- The highest bytes, as a number. -/
def hiN (L : List UInt8) (n : Nat) : Nat → Nat
  | 0 => 0
  | k + 1 => hiN L n k * 256 + (L.getD (n - 1 - k) 0).toNat
theorem hiN_lt (L : List UInt8) (n : Nat) : ∀ k, hiN L n k < 2 ^ (8 * k)
  | 0 => by simp [hiN]
  | k + 1 => by
    have h1 := hiN_lt L n k
    have h2 := UInt8.toNat_lt (L.getD (n - 1 - k) 0)
    have h4 : 2 ^ (8 * (k + 1)) = 256 * 2 ^ (8 * k) := by rw [show 8 * (k + 1) = 8 * k + 8 by omega, Nat.pow_add]; omega
    rw [hiN, h4]
    omega
theorem hi_le (L : List UInt8) (n : Nat) : ∀ k, k ≤ n → leN L n = leN L (n - k) + hiN L n k * 2 ^ (8 * (n - k))
  | 0, _ => by simp [hiN]
  | k + 1, hk => by
    have ih := hi_le L n k (by omega)
    obtain ⟨m, hm⟩ : ∃ m, n - k = m + 1 := ⟨n - k - 1, by omega⟩
    have e1 : n - (k + 1) = m := by omega
    have e2 : n - 1 - k = m := by omega
    rw [ih, hm, e1, hiN, e2, leN]
    have h4 : 2 ^ (8 * (m + 1)) = 256 * 2 ^ (8 * m) := by rw [show 8 * (m + 1) = 8 * m + 8 by omega, Nat.pow_add]; omega
    rw [h4, Nat.add_mul, Nat.mul_assoc]
    omega
theorem hi_all (L : List UInt8) (n : Nat) : hiN L n n = leN L n := by
  have := hi_le L n n (Nat.le_refl _)
  simp [leN] at this
  omega

/-- What the reference's load gathers. -/
def downTo (L : List UInt8) (n : Nat) (k : Nat) : Int := wrap64 ((hiN L n k : Nat) : Int)
theorem down_succ (L : List UInt8) (n k : Nat) : downTo L n (k + 1) = wrap64 (wrap64 (downTo L n k * 256) + ((L.getD (n - 1 - k) 0).toNat : Int)) := by
  unfold downTo
  rw [hiN, Int.natCast_add, Int.natCast_mul]
  unfold wrap64
  omega

theorem load_ops {op : Int} {k : Nat} {t : Int} (hw : widthF op = (k, t, false)) (hn : k ≠ 0) : (op = 40 ∧ k = 4 ∧ t = 127) ∨ (op = 41 ∧ k = 8 ∧ t = 126) ∨ (op = 44 ∧ k = 1 ∧ t = 127) ∨ (op = 45 ∧ k = 1 ∧ t = 127) ∨ (op = 46 ∧ k = 2 ∧ t = 127) ∨ (op = 47 ∧ k = 2 ∧ t = 127) ∨ (op = 48 ∧ k = 1 ∧ t = 126) ∨ (op = 49 ∧ k = 1 ∧ t = 126) ∨ (op = 50 ∧ k = 2 ∧ t = 126) ∨ (op = 51 ∧ k = 2 ∧ t = 126) ∨ (op = 52 ∧ k = 4 ∧ t = 126) ∨ (op = 53 ∧ k = 4 ∧ t = 126) := by
  by_cases h : op = 40 ∨ op = 41 ∨ op = 44 ∨ op = 45 ∨ op = 46 ∨ op = 47 ∨ op = 48 ∨ op = 49 ∨ op = 50 ∨ op = 51 ∨ op = 52 ∨ op = 53 ∨ op = 54 ∨ op = 55 ∨ op = 58 ∨ op = 59 ∨ op = 60 ∨ op = 61 ∨ op = 62
  · rcases h with rfl | rfl | rfl | rfl | rfl | rfl | rfl | rfl | rfl | rfl | rfl | rfl | rfl | rfl | rfl | rfl | rfl | rfl | rfl
    · rw [show widthF 40 = (4, 127, false) by decide] at hw; cases hw; simp
    · rw [show widthF 41 = (8, 126, false) by decide] at hw; cases hw; simp
    · rw [show widthF 44 = (1, 127, false) by decide] at hw; cases hw; simp
    · rw [show widthF 45 = (1, 127, false) by decide] at hw; cases hw; simp
    · rw [show widthF 46 = (2, 127, false) by decide] at hw; cases hw; simp
    · rw [show widthF 47 = (2, 127, false) by decide] at hw; cases hw; simp
    · rw [show widthF 48 = (1, 126, false) by decide] at hw; cases hw; simp
    · rw [show widthF 49 = (1, 126, false) by decide] at hw; cases hw; simp
    · rw [show widthF 50 = (2, 126, false) by decide] at hw; cases hw; simp
    · rw [show widthF 51 = (2, 126, false) by decide] at hw; cases hw; simp
    · rw [show widthF 52 = (4, 126, false) by decide] at hw; cases hw; simp
    · rw [show widthF 53 = (4, 126, false) by decide] at hw; cases hw; simp
    · rw [show widthF 54 = (4, 127, true) by decide] at hw; cases hw
    · rw [show widthF 55 = (8, 126, true) by decide] at hw; cases hw
    · rw [show widthF 58 = (1, 127, true) by decide] at hw; cases hw
    · rw [show widthF 59 = (2, 127, true) by decide] at hw; cases hw
    · rw [show widthF 60 = (1, 126, true) by decide] at hw; cases hw
    · rw [show widthF 61 = (2, 126, true) by decide] at hw; cases hw
    · rw [show widthF 62 = (4, 126, true) by decide] at hw; cases hw
  · exfalso
    simp only [not_or] at h
    obtain ⟨h1, h2, h3, h4, h5, h6, h7, h8, h9, h10, h11, h12, h13, h14, h15, h16, h17, h18, h19⟩ := h
    simp [widthF, *] at hw
    omega

theorem high_of {L : List UInt8} (n : Nat) (hn : n = 1 ∨ n = 2 ∨ n = 4) : 128 ≤ (L.getD (n - 1) 0).toNat ↔ 2 ^ (8 * n - 1) ≤ leN L n := by
  obtain ⟨m, rfl⟩ : ∃ m, n = m + 1 := ⟨n - 1, by omega⟩
  have h1 := leN_lt L m
  rw [leN, Nat.add_sub_cancel, show 8 * (m + 1) - 1 = 8 * m + 7 by omega, Nat.pow_add]
  have hp := Nat.two_pow_pos (8 * m)
  generalize 2 ^ (8 * m) = P at *
  generalize (L.getD m 0).toNat = b
  generalize leN L m = x at *
  constructor
  · intro h
    have : 128 * P ≤ b * P := Nat.mul_le_mul_right _ h
    omega
  · intro h
    by_cases hb : 128 ≤ b
    · exact hb
    · have : b * P ≤ 127 * P := Nat.mul_le_mul_right _ (by omega)
      omega
theorem down_all (L : List UInt8) (n : Nat) (hn : n = 1 ∨ n = 2 ∨ n = 4) : downTo L n n = ((leN L n : Nat) : Int) := by
  unfold downTo
  rw [hi_all]
  have hu := leN_lt L n
  have hb : (2 : Nat) ^ (8 * n) ≤ 2 ^ 32 := Nat.pow_le_pow_right (by decide) (by omega)
  have h32 : (2 : Nat) ^ 32 = 4294967296 := by decide
  unfold wrap64
  omega
theorem down_eight (L : List UInt8) (hl : L.length = 8) : loadF 41 L = downTo L 8 8 := by
  unfold loadF downTo
  rw [hl, raw_le _ 8 (Nat.le_refl _), hi_all, show signedF 41 = false by decide, show widthF 41 = (8, 126, false) by decide]
  simp only [Bool.false_eq_true, if_false]
  rw [if_neg (by decide)]

theorem down_zero (L : List UInt8) (n : Nat) : downTo L n 0 = 0 := by unfold downTo; rw [hiN]; unfold wrap64; omega

set_option maxHeartbeats 4000000 in
theorem rload_40 {w : World} {p g cap : Nat} {S : List UInt8} {most bound : Int} {op : Int} {a n : Nat} {t : Int} (h : MemAt 83 w p g cap S most bound) (hs : S.length ≤ 1048576)
    (hw : widthF op = (n, t, false)) (hcase : op = 40 ∧ n = 4 ∧ t = 127) (hn : n ≠ 0) (hf : a + n ≤ S.length) :
    Calls Try.prog 66 #[.pointer (some ⟨p, 0, none⟩), .int .i64 op, .int .i64 a] w fun e w' => e = .returned (.tuple #[.int .i64 (loadF op (getAt S a n)), .int .i64 0]) ∧ Below w.heap.size w w' := by
  have HM := Aside0.mk h
  have hle := width_le op
  have HC := Aside0.mk hcase
  clear h hcase
  have HW := Aside0.mk (fun w => rwidth_calls op w)
  rw [hw] at HW hle
  have HOP := Aside0.mk hw
  clear hw
  replace hle : n ≤ 8 := hle
  have hn' : ((n : Int) == 0) = false := beq_eq_false_iff_ne.mpr (by omega)
  go_enter Try.func66, Try.ntmps66
  go_wp2_with fail
  refine (HW.out w).mono ?_
  rintro e w1 ⟨rfl, hb⟩
  have HB := Aside0.mk hb
  have HM1 := Aside0.mk (HM.out.below hb)
  clear hb
  go_wp2_with fail
  refine (rin_yes HM1.out hs hf).mono ?_
  rintro e w2 ⟨rfl, rfl⟩
  go_wp2_with fail
  go_loopw [11, 12] (fun v11 v12 wr => ∃ k : Nat, k ≤ n ∧ v12 = .int .i64 ((n : Int) - 1 - (k : Int)) ∧ v11 = .int .i64 (downTo (getAt S a n) n k) ∧ wr = w2) (fun _ v12 _ => (intOf v12 + 1).toNat)
  case atStart => exact ⟨0, Nat.zero_le _, by simp, by rw [down_zero], rfl⟩
  case round =>
    obtain ⟨k, hk, rfl, rfl, rfl⟩ := hrel
    have zs := HM1.out.c0
    by_cases hlt : k < n
    · have hb : wr.cell? ⟨g, a + (n - 1 - k), none⟩ = some (.int .u8 (((getAt S a n).getD (n - 1 - k) 0).toNat : Int)) := by
        have hk2 : n - 1 - k < (getAt S a n).length := by rw [getAt_length hf]; omega
        obtain ⟨h1, h2⟩ := getAt_get hk2
        rw [HM1.out.byte h1]
        simp [List.getD, hk2, h2]
      have hr := Aside0.mk (down_succ (getAt S a n) n k)
      have hc : ((((getAt S a n).getD (n - 1 - k) 0).toNat : Int)) ≤ 255 := by
        have := UInt8.toNat_lt ((getAt S a n).getD (n - 1 - k) 0)
        omega
      have hc0 : 0 ≤ ((((getAt S a n).getD (n - 1 - k) 0).toNat : Int)) := Int.natCast_nonneg _
      generalize ((((getAt S a n).getD (n - 1 - k) 0).toNat : Int)) = c at *
      generalize downTo (getAt S a n) n k = r at *
      obtain ⟨j, hj⟩ : ∃ j : Nat, j = n - 1 - k := ⟨_, rfl⟩
      rw [← hj] at hb
      have hj' : (n : Int) - 1 - (k : Int) = (j : Int) := by omega
      rw [hj']
      have v1 : IntKind.i64.wrap ((a : Int) + (j : Int)) = (a : Int) + (j : Int) := IntWalk.i64_in _ (by omega)
      have v2 : ((a : Int) + (j : Int)).toNat = a + j := by omega
      have v3 : (a : Int) + (j : Int) < (S.length : Int) := by omega
      have v4 : (0 : Int) ≤ (j : Int) := by omega
      clear hj
      have HJ := Aside0.mk hj'
      clear hj'
      go_wp2_with fail
      go_roundw
      case rel => exact ⟨k + 1, by omega, by have := HJ.out; congr 1; omega, by rw [hr.out], trivial⟩
      case measure => simp [intOf]
    · obtain rfl : k = n := by omega
      rw [show (k : Int) - 1 - (k : Int) = -1 by omega]
      have hcase := HC.out
      have hcell : wr.cell? ⟨g, a + (k - 1), none⟩ = some (.int .u8 (((getAt S a k).getD (k - 1) 0).toNat : Int)) := by
        have hk2 : k - 1 < (getAt S a k).length := by rw [getAt_length hf]; omega
        obtain ⟨h1, h2⟩ := getAt_get hk2
        rw [HM1.out.byte h1]
        simp [List.getD, hk2, h2]
      have hln : (getAt S a k).length = k := getAt_length hf
      have HWF := Aside0.mk HOP.out
      clear HOP HW hn' hlt hk
      obtain ⟨rfl, rfl, rfl⟩ := hcase
      · have hu := leN_lt (getAt S a 4) 4
        have hda := down_all (getAt S a 4) 4 (by decide)
        rw [hda]
        have HL := Aside0.mk (load_u HWF.out (by decide) hln (by decide))
        clear hln hcell hda HWF
        generalize leN (getAt S a 4) 4 = u at *
        replace hu : u < 4294967296 := hu
        have e2 : decide ((u : Int) < 0) = false := decide_eq_false (by omega)
        clear hu
        go_wp2_with fail
        exact bodyPost_ret (v := .tuple #[.int .i64 (u : Int), .int .i64 0]) (by simp [results, Try.results66, go_sem, *]) rfl ⟨by rw [HL.out], HB.out⟩

set_option maxHeartbeats 4000000 in
theorem rload_41 {w : World} {p g cap : Nat} {S : List UInt8} {most bound : Int} {op : Int} {a n : Nat} {t : Int} (h : MemAt 83 w p g cap S most bound) (hs : S.length ≤ 1048576)
    (hw : widthF op = (n, t, false)) (hcase : op = 41 ∧ n = 8 ∧ t = 126) (hn : n ≠ 0) (hf : a + n ≤ S.length) :
    Calls Try.prog 66 #[.pointer (some ⟨p, 0, none⟩), .int .i64 op, .int .i64 a] w fun e w' => e = .returned (.tuple #[.int .i64 (loadF op (getAt S a n)), .int .i64 0]) ∧ Below w.heap.size w w' := by
  have HM := Aside0.mk h
  have hle := width_le op
  have HC := Aside0.mk hcase
  clear h hcase
  have HW := Aside0.mk (fun w => rwidth_calls op w)
  rw [hw] at HW hle
  have HOP := Aside0.mk hw
  clear hw
  replace hle : n ≤ 8 := hle
  have hn' : ((n : Int) == 0) = false := beq_eq_false_iff_ne.mpr (by omega)
  go_enter Try.func66, Try.ntmps66
  go_wp2_with fail
  refine (HW.out w).mono ?_
  rintro e w1 ⟨rfl, hb⟩
  have HB := Aside0.mk hb
  have HM1 := Aside0.mk (HM.out.below hb)
  clear hb
  go_wp2_with fail
  refine (rin_yes HM1.out hs hf).mono ?_
  rintro e w2 ⟨rfl, rfl⟩
  go_wp2_with fail
  go_loopw [11, 12] (fun v11 v12 wr => ∃ k : Nat, k ≤ n ∧ v12 = .int .i64 ((n : Int) - 1 - (k : Int)) ∧ v11 = .int .i64 (downTo (getAt S a n) n k) ∧ wr = w2) (fun _ v12 _ => (intOf v12 + 1).toNat)
  case atStart => exact ⟨0, Nat.zero_le _, by simp, by rw [down_zero], rfl⟩
  case round =>
    obtain ⟨k, hk, rfl, rfl, rfl⟩ := hrel
    have zs := HM1.out.c0
    by_cases hlt : k < n
    · have hb : wr.cell? ⟨g, a + (n - 1 - k), none⟩ = some (.int .u8 (((getAt S a n).getD (n - 1 - k) 0).toNat : Int)) := by
        have hk2 : n - 1 - k < (getAt S a n).length := by rw [getAt_length hf]; omega
        obtain ⟨h1, h2⟩ := getAt_get hk2
        rw [HM1.out.byte h1]
        simp [List.getD, hk2, h2]
      have hr := Aside0.mk (down_succ (getAt S a n) n k)
      have hc : ((((getAt S a n).getD (n - 1 - k) 0).toNat : Int)) ≤ 255 := by
        have := UInt8.toNat_lt ((getAt S a n).getD (n - 1 - k) 0)
        omega
      have hc0 : 0 ≤ ((((getAt S a n).getD (n - 1 - k) 0).toNat : Int)) := Int.natCast_nonneg _
      generalize ((((getAt S a n).getD (n - 1 - k) 0).toNat : Int)) = c at *
      generalize downTo (getAt S a n) n k = r at *
      obtain ⟨j, hj⟩ : ∃ j : Nat, j = n - 1 - k := ⟨_, rfl⟩
      rw [← hj] at hb
      have hj' : (n : Int) - 1 - (k : Int) = (j : Int) := by omega
      rw [hj']
      have v1 : IntKind.i64.wrap ((a : Int) + (j : Int)) = (a : Int) + (j : Int) := IntWalk.i64_in _ (by omega)
      have v2 : ((a : Int) + (j : Int)).toNat = a + j := by omega
      have v3 : (a : Int) + (j : Int) < (S.length : Int) := by omega
      have v4 : (0 : Int) ≤ (j : Int) := by omega
      clear hj
      have HJ := Aside0.mk hj'
      clear hj'
      go_wp2_with fail
      go_roundw
      case rel => exact ⟨k + 1, by omega, by have := HJ.out; congr 1; omega, by rw [hr.out], trivial⟩
      case measure => simp [intOf]
    · obtain rfl : k = n := by omega
      rw [show (k : Int) - 1 - (k : Int) = -1 by omega]
      have hcase := HC.out
      have hcell : wr.cell? ⟨g, a + (k - 1), none⟩ = some (.int .u8 (((getAt S a k).getD (k - 1) 0).toNat : Int)) := by
        have hk2 : k - 1 < (getAt S a k).length := by rw [getAt_length hf]; omega
        obtain ⟨h1, h2⟩ := getAt_get hk2
        rw [HM1.out.byte h1]
        simp [List.getD, hk2, h2]
      have hln : (getAt S a k).length = k := getAt_length hf
      have HWF := Aside0.mk HOP.out
      clear HOP HW hn' hlt hk
      obtain ⟨rfl, rfl, rfl⟩ := hcase
      · have HL := Aside0.mk (down_eight (getAt S a 8) hln)
        clear hln hcell
        generalize downTo (getAt S a 8) 8 8 = r at *
        go_wp2_with fail
        exact bodyPost_ret (v := .tuple #[.int .i64 r, .int .i64 0]) (by simp [results, Try.results66, go_sem, *]) rfl ⟨by rw [HL.out], HB.out⟩

set_option maxHeartbeats 4000000 in
theorem rload_44 {w : World} {p g cap : Nat} {S : List UInt8} {most bound : Int} {op : Int} {a n : Nat} {t : Int} (h : MemAt 83 w p g cap S most bound) (hs : S.length ≤ 1048576)
    (hw : widthF op = (n, t, false)) (hcase : op = 44 ∧ n = 1 ∧ t = 127) (hn : n ≠ 0) (hf : a + n ≤ S.length) :
    Calls Try.prog 66 #[.pointer (some ⟨p, 0, none⟩), .int .i64 op, .int .i64 a] w fun e w' => e = .returned (.tuple #[.int .i64 (loadF op (getAt S a n)), .int .i64 0]) ∧ Below w.heap.size w w' := by
  have HM := Aside0.mk h
  have hle := width_le op
  have HC := Aside0.mk hcase
  clear h hcase
  have HW := Aside0.mk (fun w => rwidth_calls op w)
  rw [hw] at HW hle
  have HOP := Aside0.mk hw
  clear hw
  replace hle : n ≤ 8 := hle
  have hn' : ((n : Int) == 0) = false := beq_eq_false_iff_ne.mpr (by omega)
  go_enter Try.func66, Try.ntmps66
  go_wp2_with fail
  refine (HW.out w).mono ?_
  rintro e w1 ⟨rfl, hb⟩
  have HB := Aside0.mk hb
  have HM1 := Aside0.mk (HM.out.below hb)
  clear hb
  go_wp2_with fail
  refine (rin_yes HM1.out hs hf).mono ?_
  rintro e w2 ⟨rfl, rfl⟩
  go_wp2_with fail
  go_loopw [11, 12] (fun v11 v12 wr => ∃ k : Nat, k ≤ n ∧ v12 = .int .i64 ((n : Int) - 1 - (k : Int)) ∧ v11 = .int .i64 (downTo (getAt S a n) n k) ∧ wr = w2) (fun _ v12 _ => (intOf v12 + 1).toNat)
  case atStart => exact ⟨0, Nat.zero_le _, by simp, by rw [down_zero], rfl⟩
  case round =>
    obtain ⟨k, hk, rfl, rfl, rfl⟩ := hrel
    have zs := HM1.out.c0
    by_cases hlt : k < n
    · have hb : wr.cell? ⟨g, a + (n - 1 - k), none⟩ = some (.int .u8 (((getAt S a n).getD (n - 1 - k) 0).toNat : Int)) := by
        have hk2 : n - 1 - k < (getAt S a n).length := by rw [getAt_length hf]; omega
        obtain ⟨h1, h2⟩ := getAt_get hk2
        rw [HM1.out.byte h1]
        simp [List.getD, hk2, h2]
      have hr := Aside0.mk (down_succ (getAt S a n) n k)
      have hc : ((((getAt S a n).getD (n - 1 - k) 0).toNat : Int)) ≤ 255 := by
        have := UInt8.toNat_lt ((getAt S a n).getD (n - 1 - k) 0)
        omega
      have hc0 : 0 ≤ ((((getAt S a n).getD (n - 1 - k) 0).toNat : Int)) := Int.natCast_nonneg _
      generalize ((((getAt S a n).getD (n - 1 - k) 0).toNat : Int)) = c at *
      generalize downTo (getAt S a n) n k = r at *
      obtain ⟨j, hj⟩ : ∃ j : Nat, j = n - 1 - k := ⟨_, rfl⟩
      rw [← hj] at hb
      have hj' : (n : Int) - 1 - (k : Int) = (j : Int) := by omega
      rw [hj']
      have v1 : IntKind.i64.wrap ((a : Int) + (j : Int)) = (a : Int) + (j : Int) := IntWalk.i64_in _ (by omega)
      have v2 : ((a : Int) + (j : Int)).toNat = a + j := by omega
      have v3 : (a : Int) + (j : Int) < (S.length : Int) := by omega
      have v4 : (0 : Int) ≤ (j : Int) := by omega
      clear hj
      have HJ := Aside0.mk hj'
      clear hj'
      go_wp2_with fail
      go_roundw
      case rel => exact ⟨k + 1, by omega, by have := HJ.out; congr 1; omega, by rw [hr.out], trivial⟩
      case measure => simp [intOf]
    · obtain rfl : k = n := by omega
      rw [show (k : Int) - 1 - (k : Int) = -1 by omega]
      have hcase := HC.out
      have hcell : wr.cell? ⟨g, a + (k - 1), none⟩ = some (.int .u8 (((getAt S a k).getD (k - 1) 0).toNat : Int)) := by
        have hk2 : k - 1 < (getAt S a k).length := by rw [getAt_length hf]; omega
        obtain ⟨h1, h2⟩ := getAt_get hk2
        rw [HM1.out.byte h1]
        simp [List.getD, hk2, h2]
      have hln : (getAt S a k).length = k := getAt_length hf
      have HWF := Aside0.mk HOP.out
      clear HOP HW hn' hlt hk
      obtain ⟨rfl, rfl, rfl⟩ := hcase
      · have hu := leN_lt (getAt S a 1) 1
        have hda := down_all (getAt S a 1) 1 (by decide)
        rw [hda]
        have HL := Aside0.mk (load_s HWF.out (by decide) hln (by decide))
        rw [show (2 : Nat) ^ (8 * 1 - 1) = 128 from rfl, show (2 : Int) ^ (8 * 1) = 256 from rfl] at HL
        rw [if_pos rfl] at HL
        have hh := high_of (L := getAt S a 1) 1 (by decide)
        rw [show (2 : Nat) ^ (8 * 1 - 1) = 128 from rfl] at hh
        clear hln hda HWF
        generalize leN (getAt S a 1) 1 = u at *
        generalize ((getAt S a 1).getD (1 - 1) 0).toNat = b at *
        replace hu : u < 256 := hu
        replace hcell : wr.cell? ⟨g, a, none⟩ = some (.int .u8 (b : Int)) := hcell
        by_cases hb : 128 ≤ u
        · rw [if_pos hb] at HL
          have hb1 : 128 ≤ b := hh.2 hb
          clear hh
          have e1 : decide ((128 : Int) ≤ (b : Int)) = true := decide_eq_true (by omega)
          have v1 : IntKind.i64.wrap ((a : Int) + 1) = (a : Int) + 1 := IntWalk.i64_in _ (by omega)
          have v2 : IntKind.i64.wrap ((a : Int) + 1 - 1) = ((a + 0 : Nat) : Int) := by rw [IntWalk.i64_in _ (by omega)]; omega
          have v3 : ((a + 0 : Nat) : Int) < (S.length : Int) := by omega
          have e2 : decide ((u : Int) - 256 < 0) = true := decide_eq_true (by omega)
          go_wp2_with fail
          go_loopw [13, 14] (fun v13 v14 wq => ∃ j : Nat, j ≤ 1 ∧ v14 = .int .i64 (j : Int) ∧ v13 = .int .i64 ((256 ^ j : Nat) : Int) ∧ wq = wr) (fun _ v14 _ => 1 - (intOf v14).toNat)
          case atStart => exact ⟨0, by omega, rfl, rfl, rfl⟩
          case round =>
            obtain ⟨j, hj, rfl, rfl, rfl⟩ := hrel
            by_cases hlt : j < 1
            · have hq := Aside0.mk (show (256 : Nat) ^ (j + 1) = 256 ^ j * 256 from Nat.pow_succ 256 j)
              have hq2 : (256 : Nat) ^ j ≤ 256 ^ 3 := Nat.pow_le_pow_right (by decide) (by omega)
              rw [show (256 : Nat) ^ 3 = 16777216 by decide] at hq2
              generalize 256 ^ j = q at *
              clear e1 e2 v1 v2 v3 hcell
              go_wp2_with fail
              go_roundw
              case rel => exact ⟨j + 1, by omega, by go_num, by rw [hq.out]; go_num, trivial⟩
              case measure => simp [intOf]; omega
            · obtain rfl : j = 1 := by omega
              rw [show (((256 ^ 1 : Nat)) : Int) = 256 by decide]
              have HL2 : Aside0 (loadF 44 (getAt S a 1) = (u : Int) - 256 + 4294967296) := ⟨by rw [HL.out]; omega⟩
              clear HL
              go_wp2_with fail
              exact bodyPost_ret (v := .tuple #[.int .i64 ((u : Int) - 256 + 4294967296), .int .i64 0]) (by simp [results, Try.results66, go_sem, *]) rfl ⟨by rw [HL2.out], HB.out⟩
        · rw [if_neg hb] at HL
          have hb1 : ¬ 128 ≤ b := fun h => hb (hh.1 h)
          clear hh
          have e1 : decide ((128 : Int) ≤ (b : Int)) = false := decide_eq_false (by omega)
          have v1 : IntKind.i64.wrap ((a : Int) + 1) = (a : Int) + 1 := IntWalk.i64_in _ (by omega)
          have v2 : IntKind.i64.wrap ((a : Int) + 1 - 1) = ((a + 0 : Nat) : Int) := by rw [IntWalk.i64_in _ (by omega)]; omega
          have v3 : ((a + 0 : Nat) : Int) < (S.length : Int) := by omega
          have HL2 : Aside0 (loadF 44 (getAt S a 1) = (u : Int)) := ⟨by rw [HL.out]; omega⟩
          clear HL
          go_wp2_with fail
          exact bodyPost_ret (v := .tuple #[.int .i64 (u : Int), .int .i64 0]) (by simp [results, Try.results66, go_sem, *]) rfl ⟨by rw [HL2.out], HB.out⟩

set_option maxHeartbeats 4000000 in
theorem rload_45 {w : World} {p g cap : Nat} {S : List UInt8} {most bound : Int} {op : Int} {a n : Nat} {t : Int} (h : MemAt 83 w p g cap S most bound) (hs : S.length ≤ 1048576)
    (hw : widthF op = (n, t, false)) (hcase : op = 45 ∧ n = 1 ∧ t = 127) (hn : n ≠ 0) (hf : a + n ≤ S.length) :
    Calls Try.prog 66 #[.pointer (some ⟨p, 0, none⟩), .int .i64 op, .int .i64 a] w fun e w' => e = .returned (.tuple #[.int .i64 (loadF op (getAt S a n)), .int .i64 0]) ∧ Below w.heap.size w w' := by
  have HM := Aside0.mk h
  have hle := width_le op
  have HC := Aside0.mk hcase
  clear h hcase
  have HW := Aside0.mk (fun w => rwidth_calls op w)
  rw [hw] at HW hle
  have HOP := Aside0.mk hw
  clear hw
  replace hle : n ≤ 8 := hle
  have hn' : ((n : Int) == 0) = false := beq_eq_false_iff_ne.mpr (by omega)
  go_enter Try.func66, Try.ntmps66
  go_wp2_with fail
  refine (HW.out w).mono ?_
  rintro e w1 ⟨rfl, hb⟩
  have HB := Aside0.mk hb
  have HM1 := Aside0.mk (HM.out.below hb)
  clear hb
  go_wp2_with fail
  refine (rin_yes HM1.out hs hf).mono ?_
  rintro e w2 ⟨rfl, rfl⟩
  go_wp2_with fail
  go_loopw [11, 12] (fun v11 v12 wr => ∃ k : Nat, k ≤ n ∧ v12 = .int .i64 ((n : Int) - 1 - (k : Int)) ∧ v11 = .int .i64 (downTo (getAt S a n) n k) ∧ wr = w2) (fun _ v12 _ => (intOf v12 + 1).toNat)
  case atStart => exact ⟨0, Nat.zero_le _, by simp, by rw [down_zero], rfl⟩
  case round =>
    obtain ⟨k, hk, rfl, rfl, rfl⟩ := hrel
    have zs := HM1.out.c0
    by_cases hlt : k < n
    · have hb : wr.cell? ⟨g, a + (n - 1 - k), none⟩ = some (.int .u8 (((getAt S a n).getD (n - 1 - k) 0).toNat : Int)) := by
        have hk2 : n - 1 - k < (getAt S a n).length := by rw [getAt_length hf]; omega
        obtain ⟨h1, h2⟩ := getAt_get hk2
        rw [HM1.out.byte h1]
        simp [List.getD, hk2, h2]
      have hr := Aside0.mk (down_succ (getAt S a n) n k)
      have hc : ((((getAt S a n).getD (n - 1 - k) 0).toNat : Int)) ≤ 255 := by
        have := UInt8.toNat_lt ((getAt S a n).getD (n - 1 - k) 0)
        omega
      have hc0 : 0 ≤ ((((getAt S a n).getD (n - 1 - k) 0).toNat : Int)) := Int.natCast_nonneg _
      generalize ((((getAt S a n).getD (n - 1 - k) 0).toNat : Int)) = c at *
      generalize downTo (getAt S a n) n k = r at *
      obtain ⟨j, hj⟩ : ∃ j : Nat, j = n - 1 - k := ⟨_, rfl⟩
      rw [← hj] at hb
      have hj' : (n : Int) - 1 - (k : Int) = (j : Int) := by omega
      rw [hj']
      have v1 : IntKind.i64.wrap ((a : Int) + (j : Int)) = (a : Int) + (j : Int) := IntWalk.i64_in _ (by omega)
      have v2 : ((a : Int) + (j : Int)).toNat = a + j := by omega
      have v3 : (a : Int) + (j : Int) < (S.length : Int) := by omega
      have v4 : (0 : Int) ≤ (j : Int) := by omega
      clear hj
      have HJ := Aside0.mk hj'
      clear hj'
      go_wp2_with fail
      go_roundw
      case rel => exact ⟨k + 1, by omega, by have := HJ.out; congr 1; omega, by rw [hr.out], trivial⟩
      case measure => simp [intOf]
    · obtain rfl : k = n := by omega
      rw [show (k : Int) - 1 - (k : Int) = -1 by omega]
      have hcase := HC.out
      have hcell : wr.cell? ⟨g, a + (k - 1), none⟩ = some (.int .u8 (((getAt S a k).getD (k - 1) 0).toNat : Int)) := by
        have hk2 : k - 1 < (getAt S a k).length := by rw [getAt_length hf]; omega
        obtain ⟨h1, h2⟩ := getAt_get hk2
        rw [HM1.out.byte h1]
        simp [List.getD, hk2, h2]
      have hln : (getAt S a k).length = k := getAt_length hf
      have HWF := Aside0.mk HOP.out
      clear HOP HW hn' hlt hk
      obtain ⟨rfl, rfl, rfl⟩ := hcase
      · have hu := leN_lt (getAt S a 1) 1
        have hda := down_all (getAt S a 1) 1 (by decide)
        rw [hda]
        have HL := Aside0.mk (load_u HWF.out (by decide) hln (by decide))
        clear hln hcell hda HWF
        generalize leN (getAt S a 1) 1 = u at *
        replace hu : u < 256 := hu
        have e2 : decide ((u : Int) < 0) = false := decide_eq_false (by omega)
        clear hu
        go_wp2_with fail
        exact bodyPost_ret (v := .tuple #[.int .i64 (u : Int), .int .i64 0]) (by simp [results, Try.results66, go_sem, *]) rfl ⟨by rw [HL.out], HB.out⟩

set_option maxHeartbeats 4000000 in
theorem rload_46 {w : World} {p g cap : Nat} {S : List UInt8} {most bound : Int} {op : Int} {a n : Nat} {t : Int} (h : MemAt 83 w p g cap S most bound) (hs : S.length ≤ 1048576)
    (hw : widthF op = (n, t, false)) (hcase : op = 46 ∧ n = 2 ∧ t = 127) (hn : n ≠ 0) (hf : a + n ≤ S.length) :
    Calls Try.prog 66 #[.pointer (some ⟨p, 0, none⟩), .int .i64 op, .int .i64 a] w fun e w' => e = .returned (.tuple #[.int .i64 (loadF op (getAt S a n)), .int .i64 0]) ∧ Below w.heap.size w w' := by
  have HM := Aside0.mk h
  have hle := width_le op
  have HC := Aside0.mk hcase
  clear h hcase
  have HW := Aside0.mk (fun w => rwidth_calls op w)
  rw [hw] at HW hle
  have HOP := Aside0.mk hw
  clear hw
  replace hle : n ≤ 8 := hle
  have hn' : ((n : Int) == 0) = false := beq_eq_false_iff_ne.mpr (by omega)
  go_enter Try.func66, Try.ntmps66
  go_wp2_with fail
  refine (HW.out w).mono ?_
  rintro e w1 ⟨rfl, hb⟩
  have HB := Aside0.mk hb
  have HM1 := Aside0.mk (HM.out.below hb)
  clear hb
  go_wp2_with fail
  refine (rin_yes HM1.out hs hf).mono ?_
  rintro e w2 ⟨rfl, rfl⟩
  go_wp2_with fail
  go_loopw [11, 12] (fun v11 v12 wr => ∃ k : Nat, k ≤ n ∧ v12 = .int .i64 ((n : Int) - 1 - (k : Int)) ∧ v11 = .int .i64 (downTo (getAt S a n) n k) ∧ wr = w2) (fun _ v12 _ => (intOf v12 + 1).toNat)
  case atStart => exact ⟨0, Nat.zero_le _, by simp, by rw [down_zero], rfl⟩
  case round =>
    obtain ⟨k, hk, rfl, rfl, rfl⟩ := hrel
    have zs := HM1.out.c0
    by_cases hlt : k < n
    · have hb : wr.cell? ⟨g, a + (n - 1 - k), none⟩ = some (.int .u8 (((getAt S a n).getD (n - 1 - k) 0).toNat : Int)) := by
        have hk2 : n - 1 - k < (getAt S a n).length := by rw [getAt_length hf]; omega
        obtain ⟨h1, h2⟩ := getAt_get hk2
        rw [HM1.out.byte h1]
        simp [List.getD, hk2, h2]
      have hr := Aside0.mk (down_succ (getAt S a n) n k)
      have hc : ((((getAt S a n).getD (n - 1 - k) 0).toNat : Int)) ≤ 255 := by
        have := UInt8.toNat_lt ((getAt S a n).getD (n - 1 - k) 0)
        omega
      have hc0 : 0 ≤ ((((getAt S a n).getD (n - 1 - k) 0).toNat : Int)) := Int.natCast_nonneg _
      generalize ((((getAt S a n).getD (n - 1 - k) 0).toNat : Int)) = c at *
      generalize downTo (getAt S a n) n k = r at *
      obtain ⟨j, hj⟩ : ∃ j : Nat, j = n - 1 - k := ⟨_, rfl⟩
      rw [← hj] at hb
      have hj' : (n : Int) - 1 - (k : Int) = (j : Int) := by omega
      rw [hj']
      have v1 : IntKind.i64.wrap ((a : Int) + (j : Int)) = (a : Int) + (j : Int) := IntWalk.i64_in _ (by omega)
      have v2 : ((a : Int) + (j : Int)).toNat = a + j := by omega
      have v3 : (a : Int) + (j : Int) < (S.length : Int) := by omega
      have v4 : (0 : Int) ≤ (j : Int) := by omega
      clear hj
      have HJ := Aside0.mk hj'
      clear hj'
      go_wp2_with fail
      go_roundw
      case rel => exact ⟨k + 1, by omega, by have := HJ.out; congr 1; omega, by rw [hr.out], trivial⟩
      case measure => simp [intOf]
    · obtain rfl : k = n := by omega
      rw [show (k : Int) - 1 - (k : Int) = -1 by omega]
      have hcase := HC.out
      have hcell : wr.cell? ⟨g, a + (k - 1), none⟩ = some (.int .u8 (((getAt S a k).getD (k - 1) 0).toNat : Int)) := by
        have hk2 : k - 1 < (getAt S a k).length := by rw [getAt_length hf]; omega
        obtain ⟨h1, h2⟩ := getAt_get hk2
        rw [HM1.out.byte h1]
        simp [List.getD, hk2, h2]
      have hln : (getAt S a k).length = k := getAt_length hf
      have HWF := Aside0.mk HOP.out
      clear HOP HW hn' hlt hk
      obtain ⟨rfl, rfl, rfl⟩ := hcase
      · have hu := leN_lt (getAt S a 2) 2
        have hda := down_all (getAt S a 2) 2 (by decide)
        rw [hda]
        have HL := Aside0.mk (load_s HWF.out (by decide) hln (by decide))
        rw [show (2 : Nat) ^ (8 * 2 - 1) = 32768 from rfl, show (2 : Int) ^ (8 * 2) = 65536 from rfl] at HL
        rw [if_pos rfl] at HL
        have hh := high_of (L := getAt S a 2) 2 (by decide)
        rw [show (2 : Nat) ^ (8 * 2 - 1) = 32768 from rfl] at hh
        clear hln hda HWF
        generalize leN (getAt S a 2) 2 = u at *
        generalize ((getAt S a 2).getD (2 - 1) 0).toNat = b at *
        replace hu : u < 65536 := hu
        replace hcell : wr.cell? ⟨g, a + 1, none⟩ = some (.int .u8 (b : Int)) := hcell
        by_cases hb : 32768 ≤ u
        · rw [if_pos hb] at HL
          have hb1 : 128 ≤ b := hh.2 hb
          clear hh
          have e1 : decide ((128 : Int) ≤ (b : Int)) = true := decide_eq_true (by omega)
          have v1 : IntKind.i64.wrap ((a : Int) + 2) = (a : Int) + 2 := IntWalk.i64_in _ (by omega)
          have v2 : IntKind.i64.wrap ((a : Int) + 2 - 1) = ((a + 1 : Nat) : Int) := by rw [IntWalk.i64_in _ (by omega)]; omega
          have v3 : ((a + 1 : Nat) : Int) < (S.length : Int) := by omega
          have e2 : decide ((u : Int) - 65536 < 0) = true := decide_eq_true (by omega)
          go_wp2_with fail
          go_loopw [13, 14] (fun v13 v14 wq => ∃ j : Nat, j ≤ 2 ∧ v14 = .int .i64 (j : Int) ∧ v13 = .int .i64 ((256 ^ j : Nat) : Int) ∧ wq = wr) (fun _ v14 _ => 2 - (intOf v14).toNat)
          case atStart => exact ⟨0, by omega, rfl, rfl, rfl⟩
          case round =>
            obtain ⟨j, hj, rfl, rfl, rfl⟩ := hrel
            by_cases hlt : j < 2
            · have hq := Aside0.mk (show (256 : Nat) ^ (j + 1) = 256 ^ j * 256 from Nat.pow_succ 256 j)
              have hq2 : (256 : Nat) ^ j ≤ 256 ^ 3 := Nat.pow_le_pow_right (by decide) (by omega)
              rw [show (256 : Nat) ^ 3 = 16777216 by decide] at hq2
              generalize 256 ^ j = q at *
              clear e1 e2 v1 v2 v3 hcell
              go_wp2_with fail
              go_roundw
              case rel => exact ⟨j + 1, by omega, by go_num, by rw [hq.out]; go_num, trivial⟩
              case measure => simp [intOf]; omega
            · obtain rfl : j = 2 := by omega
              rw [show (((256 ^ 2 : Nat)) : Int) = 65536 by decide]
              have HL2 : Aside0 (loadF 46 (getAt S a 2) = (u : Int) - 65536 + 4294967296) := ⟨by rw [HL.out]; omega⟩
              clear HL
              go_wp2_with fail
              exact bodyPost_ret (v := .tuple #[.int .i64 ((u : Int) - 65536 + 4294967296), .int .i64 0]) (by simp [results, Try.results66, go_sem, *]) rfl ⟨by rw [HL2.out], HB.out⟩
        · rw [if_neg hb] at HL
          have hb1 : ¬ 128 ≤ b := fun h => hb (hh.1 h)
          clear hh
          have e1 : decide ((128 : Int) ≤ (b : Int)) = false := decide_eq_false (by omega)
          have v1 : IntKind.i64.wrap ((a : Int) + 2) = (a : Int) + 2 := IntWalk.i64_in _ (by omega)
          have v2 : IntKind.i64.wrap ((a : Int) + 2 - 1) = ((a + 1 : Nat) : Int) := by rw [IntWalk.i64_in _ (by omega)]; omega
          have v3 : ((a + 1 : Nat) : Int) < (S.length : Int) := by omega
          have HL2 : Aside0 (loadF 46 (getAt S a 2) = (u : Int)) := ⟨by rw [HL.out]; omega⟩
          clear HL
          go_wp2_with fail
          exact bodyPost_ret (v := .tuple #[.int .i64 (u : Int), .int .i64 0]) (by simp [results, Try.results66, go_sem, *]) rfl ⟨by rw [HL2.out], HB.out⟩

set_option maxHeartbeats 4000000 in
theorem rload_47 {w : World} {p g cap : Nat} {S : List UInt8} {most bound : Int} {op : Int} {a n : Nat} {t : Int} (h : MemAt 83 w p g cap S most bound) (hs : S.length ≤ 1048576)
    (hw : widthF op = (n, t, false)) (hcase : op = 47 ∧ n = 2 ∧ t = 127) (hn : n ≠ 0) (hf : a + n ≤ S.length) :
    Calls Try.prog 66 #[.pointer (some ⟨p, 0, none⟩), .int .i64 op, .int .i64 a] w fun e w' => e = .returned (.tuple #[.int .i64 (loadF op (getAt S a n)), .int .i64 0]) ∧ Below w.heap.size w w' := by
  have HM := Aside0.mk h
  have hle := width_le op
  have HC := Aside0.mk hcase
  clear h hcase
  have HW := Aside0.mk (fun w => rwidth_calls op w)
  rw [hw] at HW hle
  have HOP := Aside0.mk hw
  clear hw
  replace hle : n ≤ 8 := hle
  have hn' : ((n : Int) == 0) = false := beq_eq_false_iff_ne.mpr (by omega)
  go_enter Try.func66, Try.ntmps66
  go_wp2_with fail
  refine (HW.out w).mono ?_
  rintro e w1 ⟨rfl, hb⟩
  have HB := Aside0.mk hb
  have HM1 := Aside0.mk (HM.out.below hb)
  clear hb
  go_wp2_with fail
  refine (rin_yes HM1.out hs hf).mono ?_
  rintro e w2 ⟨rfl, rfl⟩
  go_wp2_with fail
  go_loopw [11, 12] (fun v11 v12 wr => ∃ k : Nat, k ≤ n ∧ v12 = .int .i64 ((n : Int) - 1 - (k : Int)) ∧ v11 = .int .i64 (downTo (getAt S a n) n k) ∧ wr = w2) (fun _ v12 _ => (intOf v12 + 1).toNat)
  case atStart => exact ⟨0, Nat.zero_le _, by simp, by rw [down_zero], rfl⟩
  case round =>
    obtain ⟨k, hk, rfl, rfl, rfl⟩ := hrel
    have zs := HM1.out.c0
    by_cases hlt : k < n
    · have hb : wr.cell? ⟨g, a + (n - 1 - k), none⟩ = some (.int .u8 (((getAt S a n).getD (n - 1 - k) 0).toNat : Int)) := by
        have hk2 : n - 1 - k < (getAt S a n).length := by rw [getAt_length hf]; omega
        obtain ⟨h1, h2⟩ := getAt_get hk2
        rw [HM1.out.byte h1]
        simp [List.getD, hk2, h2]
      have hr := Aside0.mk (down_succ (getAt S a n) n k)
      have hc : ((((getAt S a n).getD (n - 1 - k) 0).toNat : Int)) ≤ 255 := by
        have := UInt8.toNat_lt ((getAt S a n).getD (n - 1 - k) 0)
        omega
      have hc0 : 0 ≤ ((((getAt S a n).getD (n - 1 - k) 0).toNat : Int)) := Int.natCast_nonneg _
      generalize ((((getAt S a n).getD (n - 1 - k) 0).toNat : Int)) = c at *
      generalize downTo (getAt S a n) n k = r at *
      obtain ⟨j, hj⟩ : ∃ j : Nat, j = n - 1 - k := ⟨_, rfl⟩
      rw [← hj] at hb
      have hj' : (n : Int) - 1 - (k : Int) = (j : Int) := by omega
      rw [hj']
      have v1 : IntKind.i64.wrap ((a : Int) + (j : Int)) = (a : Int) + (j : Int) := IntWalk.i64_in _ (by omega)
      have v2 : ((a : Int) + (j : Int)).toNat = a + j := by omega
      have v3 : (a : Int) + (j : Int) < (S.length : Int) := by omega
      have v4 : (0 : Int) ≤ (j : Int) := by omega
      clear hj
      have HJ := Aside0.mk hj'
      clear hj'
      go_wp2_with fail
      go_roundw
      case rel => exact ⟨k + 1, by omega, by have := HJ.out; congr 1; omega, by rw [hr.out], trivial⟩
      case measure => simp [intOf]
    · obtain rfl : k = n := by omega
      rw [show (k : Int) - 1 - (k : Int) = -1 by omega]
      have hcase := HC.out
      have hcell : wr.cell? ⟨g, a + (k - 1), none⟩ = some (.int .u8 (((getAt S a k).getD (k - 1) 0).toNat : Int)) := by
        have hk2 : k - 1 < (getAt S a k).length := by rw [getAt_length hf]; omega
        obtain ⟨h1, h2⟩ := getAt_get hk2
        rw [HM1.out.byte h1]
        simp [List.getD, hk2, h2]
      have hln : (getAt S a k).length = k := getAt_length hf
      have HWF := Aside0.mk HOP.out
      clear HOP HW hn' hlt hk
      obtain ⟨rfl, rfl, rfl⟩ := hcase
      · have hu := leN_lt (getAt S a 2) 2
        have hda := down_all (getAt S a 2) 2 (by decide)
        rw [hda]
        have HL := Aside0.mk (load_u HWF.out (by decide) hln (by decide))
        clear hln hcell hda HWF
        generalize leN (getAt S a 2) 2 = u at *
        replace hu : u < 65536 := hu
        have e2 : decide ((u : Int) < 0) = false := decide_eq_false (by omega)
        clear hu
        go_wp2_with fail
        exact bodyPost_ret (v := .tuple #[.int .i64 (u : Int), .int .i64 0]) (by simp [results, Try.results66, go_sem, *]) rfl ⟨by rw [HL.out], HB.out⟩

set_option maxHeartbeats 4000000 in
theorem rload_48 {w : World} {p g cap : Nat} {S : List UInt8} {most bound : Int} {op : Int} {a n : Nat} {t : Int} (h : MemAt 83 w p g cap S most bound) (hs : S.length ≤ 1048576)
    (hw : widthF op = (n, t, false)) (hcase : op = 48 ∧ n = 1 ∧ t = 126) (hn : n ≠ 0) (hf : a + n ≤ S.length) :
    Calls Try.prog 66 #[.pointer (some ⟨p, 0, none⟩), .int .i64 op, .int .i64 a] w fun e w' => e = .returned (.tuple #[.int .i64 (loadF op (getAt S a n)), .int .i64 0]) ∧ Below w.heap.size w w' := by
  have HM := Aside0.mk h
  have hle := width_le op
  have HC := Aside0.mk hcase
  clear h hcase
  have HW := Aside0.mk (fun w => rwidth_calls op w)
  rw [hw] at HW hle
  have HOP := Aside0.mk hw
  clear hw
  replace hle : n ≤ 8 := hle
  have hn' : ((n : Int) == 0) = false := beq_eq_false_iff_ne.mpr (by omega)
  go_enter Try.func66, Try.ntmps66
  go_wp2_with fail
  refine (HW.out w).mono ?_
  rintro e w1 ⟨rfl, hb⟩
  have HB := Aside0.mk hb
  have HM1 := Aside0.mk (HM.out.below hb)
  clear hb
  go_wp2_with fail
  refine (rin_yes HM1.out hs hf).mono ?_
  rintro e w2 ⟨rfl, rfl⟩
  go_wp2_with fail
  go_loopw [11, 12] (fun v11 v12 wr => ∃ k : Nat, k ≤ n ∧ v12 = .int .i64 ((n : Int) - 1 - (k : Int)) ∧ v11 = .int .i64 (downTo (getAt S a n) n k) ∧ wr = w2) (fun _ v12 _ => (intOf v12 + 1).toNat)
  case atStart => exact ⟨0, Nat.zero_le _, by simp, by rw [down_zero], rfl⟩
  case round =>
    obtain ⟨k, hk, rfl, rfl, rfl⟩ := hrel
    have zs := HM1.out.c0
    by_cases hlt : k < n
    · have hb : wr.cell? ⟨g, a + (n - 1 - k), none⟩ = some (.int .u8 (((getAt S a n).getD (n - 1 - k) 0).toNat : Int)) := by
        have hk2 : n - 1 - k < (getAt S a n).length := by rw [getAt_length hf]; omega
        obtain ⟨h1, h2⟩ := getAt_get hk2
        rw [HM1.out.byte h1]
        simp [List.getD, hk2, h2]
      have hr := Aside0.mk (down_succ (getAt S a n) n k)
      have hc : ((((getAt S a n).getD (n - 1 - k) 0).toNat : Int)) ≤ 255 := by
        have := UInt8.toNat_lt ((getAt S a n).getD (n - 1 - k) 0)
        omega
      have hc0 : 0 ≤ ((((getAt S a n).getD (n - 1 - k) 0).toNat : Int)) := Int.natCast_nonneg _
      generalize ((((getAt S a n).getD (n - 1 - k) 0).toNat : Int)) = c at *
      generalize downTo (getAt S a n) n k = r at *
      obtain ⟨j, hj⟩ : ∃ j : Nat, j = n - 1 - k := ⟨_, rfl⟩
      rw [← hj] at hb
      have hj' : (n : Int) - 1 - (k : Int) = (j : Int) := by omega
      rw [hj']
      have v1 : IntKind.i64.wrap ((a : Int) + (j : Int)) = (a : Int) + (j : Int) := IntWalk.i64_in _ (by omega)
      have v2 : ((a : Int) + (j : Int)).toNat = a + j := by omega
      have v3 : (a : Int) + (j : Int) < (S.length : Int) := by omega
      have v4 : (0 : Int) ≤ (j : Int) := by omega
      clear hj
      have HJ := Aside0.mk hj'
      clear hj'
      go_wp2_with fail
      go_roundw
      case rel => exact ⟨k + 1, by omega, by have := HJ.out; congr 1; omega, by rw [hr.out], trivial⟩
      case measure => simp [intOf]
    · obtain rfl : k = n := by omega
      rw [show (k : Int) - 1 - (k : Int) = -1 by omega]
      have hcase := HC.out
      have hcell : wr.cell? ⟨g, a + (k - 1), none⟩ = some (.int .u8 (((getAt S a k).getD (k - 1) 0).toNat : Int)) := by
        have hk2 : k - 1 < (getAt S a k).length := by rw [getAt_length hf]; omega
        obtain ⟨h1, h2⟩ := getAt_get hk2
        rw [HM1.out.byte h1]
        simp [List.getD, hk2, h2]
      have hln : (getAt S a k).length = k := getAt_length hf
      have HWF := Aside0.mk HOP.out
      clear HOP HW hn' hlt hk
      obtain ⟨rfl, rfl, rfl⟩ := hcase
      · have hu := leN_lt (getAt S a 1) 1
        have hda := down_all (getAt S a 1) 1 (by decide)
        rw [hda]
        have HL := Aside0.mk (load_s HWF.out (by decide) hln (by decide))
        rw [show (2 : Nat) ^ (8 * 1 - 1) = 128 from rfl, show (2 : Int) ^ (8 * 1) = 256 from rfl] at HL
        rw [if_neg (by decide)] at HL
        have hh := high_of (L := getAt S a 1) 1 (by decide)
        rw [show (2 : Nat) ^ (8 * 1 - 1) = 128 from rfl] at hh
        clear hln hda HWF
        generalize leN (getAt S a 1) 1 = u at *
        generalize ((getAt S a 1).getD (1 - 1) 0).toNat = b at *
        replace hu : u < 256 := hu
        replace hcell : wr.cell? ⟨g, a, none⟩ = some (.int .u8 (b : Int)) := hcell
        by_cases hb : 128 ≤ u
        · rw [if_pos hb] at HL
          have hb1 : 128 ≤ b := hh.2 hb
          clear hh
          have e1 : decide ((128 : Int) ≤ (b : Int)) = true := decide_eq_true (by omega)
          have v1 : IntKind.i64.wrap ((a : Int) + 1) = (a : Int) + 1 := IntWalk.i64_in _ (by omega)
          have v2 : IntKind.i64.wrap ((a : Int) + 1 - 1) = ((a + 0 : Nat) : Int) := by rw [IntWalk.i64_in _ (by omega)]; omega
          have v3 : ((a + 0 : Nat) : Int) < (S.length : Int) := by omega
          have e2 : decide ((u : Int) - 256 < 0) = true := decide_eq_true (by omega)
          go_wp2_with fail
          go_loopw [13, 14] (fun v13 v14 wq => ∃ j : Nat, j ≤ 1 ∧ v14 = .int .i64 (j : Int) ∧ v13 = .int .i64 ((256 ^ j : Nat) : Int) ∧ wq = wr) (fun _ v14 _ => 1 - (intOf v14).toNat)
          case atStart => exact ⟨0, by omega, rfl, rfl, rfl⟩
          case round =>
            obtain ⟨j, hj, rfl, rfl, rfl⟩ := hrel
            by_cases hlt : j < 1
            · have hq := Aside0.mk (show (256 : Nat) ^ (j + 1) = 256 ^ j * 256 from Nat.pow_succ 256 j)
              have hq2 : (256 : Nat) ^ j ≤ 256 ^ 3 := Nat.pow_le_pow_right (by decide) (by omega)
              rw [show (256 : Nat) ^ 3 = 16777216 by decide] at hq2
              generalize 256 ^ j = q at *
              clear e1 e2 v1 v2 v3 hcell
              go_wp2_with fail
              go_roundw
              case rel => exact ⟨j + 1, by omega, by go_num, by rw [hq.out]; go_num, trivial⟩
              case measure => simp [intOf]; omega
            · obtain rfl : j = 1 := by omega
              rw [show (((256 ^ 1 : Nat)) : Int) = 256 by decide]
              have HL2 : Aside0 (loadF 48 (getAt S a 1) = (u : Int) - 256) := ⟨by rw [HL.out]⟩
              clear HL
              go_wp2_with fail
              exact bodyPost_ret (v := .tuple #[.int .i64 ((u : Int) - 256), .int .i64 0]) (by simp [results, Try.results66, go_sem, *]) rfl ⟨by rw [HL2.out], HB.out⟩
        · rw [if_neg hb] at HL
          have hb1 : ¬ 128 ≤ b := fun h => hb (hh.1 h)
          clear hh
          have e1 : decide ((128 : Int) ≤ (b : Int)) = false := decide_eq_false (by omega)
          have v1 : IntKind.i64.wrap ((a : Int) + 1) = (a : Int) + 1 := IntWalk.i64_in _ (by omega)
          have v2 : IntKind.i64.wrap ((a : Int) + 1 - 1) = ((a + 0 : Nat) : Int) := by rw [IntWalk.i64_in _ (by omega)]; omega
          have v3 : ((a + 0 : Nat) : Int) < (S.length : Int) := by omega
          have HL2 : Aside0 (loadF 48 (getAt S a 1) = (u : Int)) := ⟨by rw [HL.out]⟩
          clear HL
          go_wp2_with fail
          exact bodyPost_ret (v := .tuple #[.int .i64 (u : Int), .int .i64 0]) (by simp [results, Try.results66, go_sem, *]) rfl ⟨by rw [HL2.out], HB.out⟩

set_option maxHeartbeats 4000000 in
theorem rload_49 {w : World} {p g cap : Nat} {S : List UInt8} {most bound : Int} {op : Int} {a n : Nat} {t : Int} (h : MemAt 83 w p g cap S most bound) (hs : S.length ≤ 1048576)
    (hw : widthF op = (n, t, false)) (hcase : op = 49 ∧ n = 1 ∧ t = 126) (hn : n ≠ 0) (hf : a + n ≤ S.length) :
    Calls Try.prog 66 #[.pointer (some ⟨p, 0, none⟩), .int .i64 op, .int .i64 a] w fun e w' => e = .returned (.tuple #[.int .i64 (loadF op (getAt S a n)), .int .i64 0]) ∧ Below w.heap.size w w' := by
  have HM := Aside0.mk h
  have hle := width_le op
  have HC := Aside0.mk hcase
  clear h hcase
  have HW := Aside0.mk (fun w => rwidth_calls op w)
  rw [hw] at HW hle
  have HOP := Aside0.mk hw
  clear hw
  replace hle : n ≤ 8 := hle
  have hn' : ((n : Int) == 0) = false := beq_eq_false_iff_ne.mpr (by omega)
  go_enter Try.func66, Try.ntmps66
  go_wp2_with fail
  refine (HW.out w).mono ?_
  rintro e w1 ⟨rfl, hb⟩
  have HB := Aside0.mk hb
  have HM1 := Aside0.mk (HM.out.below hb)
  clear hb
  go_wp2_with fail
  refine (rin_yes HM1.out hs hf).mono ?_
  rintro e w2 ⟨rfl, rfl⟩
  go_wp2_with fail
  go_loopw [11, 12] (fun v11 v12 wr => ∃ k : Nat, k ≤ n ∧ v12 = .int .i64 ((n : Int) - 1 - (k : Int)) ∧ v11 = .int .i64 (downTo (getAt S a n) n k) ∧ wr = w2) (fun _ v12 _ => (intOf v12 + 1).toNat)
  case atStart => exact ⟨0, Nat.zero_le _, by simp, by rw [down_zero], rfl⟩
  case round =>
    obtain ⟨k, hk, rfl, rfl, rfl⟩ := hrel
    have zs := HM1.out.c0
    by_cases hlt : k < n
    · have hb : wr.cell? ⟨g, a + (n - 1 - k), none⟩ = some (.int .u8 (((getAt S a n).getD (n - 1 - k) 0).toNat : Int)) := by
        have hk2 : n - 1 - k < (getAt S a n).length := by rw [getAt_length hf]; omega
        obtain ⟨h1, h2⟩ := getAt_get hk2
        rw [HM1.out.byte h1]
        simp [List.getD, hk2, h2]
      have hr := Aside0.mk (down_succ (getAt S a n) n k)
      have hc : ((((getAt S a n).getD (n - 1 - k) 0).toNat : Int)) ≤ 255 := by
        have := UInt8.toNat_lt ((getAt S a n).getD (n - 1 - k) 0)
        omega
      have hc0 : 0 ≤ ((((getAt S a n).getD (n - 1 - k) 0).toNat : Int)) := Int.natCast_nonneg _
      generalize ((((getAt S a n).getD (n - 1 - k) 0).toNat : Int)) = c at *
      generalize downTo (getAt S a n) n k = r at *
      obtain ⟨j, hj⟩ : ∃ j : Nat, j = n - 1 - k := ⟨_, rfl⟩
      rw [← hj] at hb
      have hj' : (n : Int) - 1 - (k : Int) = (j : Int) := by omega
      rw [hj']
      have v1 : IntKind.i64.wrap ((a : Int) + (j : Int)) = (a : Int) + (j : Int) := IntWalk.i64_in _ (by omega)
      have v2 : ((a : Int) + (j : Int)).toNat = a + j := by omega
      have v3 : (a : Int) + (j : Int) < (S.length : Int) := by omega
      have v4 : (0 : Int) ≤ (j : Int) := by omega
      clear hj
      have HJ := Aside0.mk hj'
      clear hj'
      go_wp2_with fail
      go_roundw
      case rel => exact ⟨k + 1, by omega, by have := HJ.out; congr 1; omega, by rw [hr.out], trivial⟩
      case measure => simp [intOf]
    · obtain rfl : k = n := by omega
      rw [show (k : Int) - 1 - (k : Int) = -1 by omega]
      have hcase := HC.out
      have hcell : wr.cell? ⟨g, a + (k - 1), none⟩ = some (.int .u8 (((getAt S a k).getD (k - 1) 0).toNat : Int)) := by
        have hk2 : k - 1 < (getAt S a k).length := by rw [getAt_length hf]; omega
        obtain ⟨h1, h2⟩ := getAt_get hk2
        rw [HM1.out.byte h1]
        simp [List.getD, hk2, h2]
      have hln : (getAt S a k).length = k := getAt_length hf
      have HWF := Aside0.mk HOP.out
      clear HOP HW hn' hlt hk
      obtain ⟨rfl, rfl, rfl⟩ := hcase
      · have hu := leN_lt (getAt S a 1) 1
        have hda := down_all (getAt S a 1) 1 (by decide)
        rw [hda]
        have HL := Aside0.mk (load_u HWF.out (by decide) hln (by decide))
        clear hln hcell hda HWF
        generalize leN (getAt S a 1) 1 = u at *
        replace hu : u < 256 := hu
        have e2 : decide ((u : Int) < 0) = false := decide_eq_false (by omega)
        clear hu
        go_wp2_with fail
        exact bodyPost_ret (v := .tuple #[.int .i64 (u : Int), .int .i64 0]) (by simp [results, Try.results66, go_sem, *]) rfl ⟨by rw [HL.out], HB.out⟩

set_option maxHeartbeats 4000000 in
theorem rload_50 {w : World} {p g cap : Nat} {S : List UInt8} {most bound : Int} {op : Int} {a n : Nat} {t : Int} (h : MemAt 83 w p g cap S most bound) (hs : S.length ≤ 1048576)
    (hw : widthF op = (n, t, false)) (hcase : op = 50 ∧ n = 2 ∧ t = 126) (hn : n ≠ 0) (hf : a + n ≤ S.length) :
    Calls Try.prog 66 #[.pointer (some ⟨p, 0, none⟩), .int .i64 op, .int .i64 a] w fun e w' => e = .returned (.tuple #[.int .i64 (loadF op (getAt S a n)), .int .i64 0]) ∧ Below w.heap.size w w' := by
  have HM := Aside0.mk h
  have hle := width_le op
  have HC := Aside0.mk hcase
  clear h hcase
  have HW := Aside0.mk (fun w => rwidth_calls op w)
  rw [hw] at HW hle
  have HOP := Aside0.mk hw
  clear hw
  replace hle : n ≤ 8 := hle
  have hn' : ((n : Int) == 0) = false := beq_eq_false_iff_ne.mpr (by omega)
  go_enter Try.func66, Try.ntmps66
  go_wp2_with fail
  refine (HW.out w).mono ?_
  rintro e w1 ⟨rfl, hb⟩
  have HB := Aside0.mk hb
  have HM1 := Aside0.mk (HM.out.below hb)
  clear hb
  go_wp2_with fail
  refine (rin_yes HM1.out hs hf).mono ?_
  rintro e w2 ⟨rfl, rfl⟩
  go_wp2_with fail
  go_loopw [11, 12] (fun v11 v12 wr => ∃ k : Nat, k ≤ n ∧ v12 = .int .i64 ((n : Int) - 1 - (k : Int)) ∧ v11 = .int .i64 (downTo (getAt S a n) n k) ∧ wr = w2) (fun _ v12 _ => (intOf v12 + 1).toNat)
  case atStart => exact ⟨0, Nat.zero_le _, by simp, by rw [down_zero], rfl⟩
  case round =>
    obtain ⟨k, hk, rfl, rfl, rfl⟩ := hrel
    have zs := HM1.out.c0
    by_cases hlt : k < n
    · have hb : wr.cell? ⟨g, a + (n - 1 - k), none⟩ = some (.int .u8 (((getAt S a n).getD (n - 1 - k) 0).toNat : Int)) := by
        have hk2 : n - 1 - k < (getAt S a n).length := by rw [getAt_length hf]; omega
        obtain ⟨h1, h2⟩ := getAt_get hk2
        rw [HM1.out.byte h1]
        simp [List.getD, hk2, h2]
      have hr := Aside0.mk (down_succ (getAt S a n) n k)
      have hc : ((((getAt S a n).getD (n - 1 - k) 0).toNat : Int)) ≤ 255 := by
        have := UInt8.toNat_lt ((getAt S a n).getD (n - 1 - k) 0)
        omega
      have hc0 : 0 ≤ ((((getAt S a n).getD (n - 1 - k) 0).toNat : Int)) := Int.natCast_nonneg _
      generalize ((((getAt S a n).getD (n - 1 - k) 0).toNat : Int)) = c at *
      generalize downTo (getAt S a n) n k = r at *
      obtain ⟨j, hj⟩ : ∃ j : Nat, j = n - 1 - k := ⟨_, rfl⟩
      rw [← hj] at hb
      have hj' : (n : Int) - 1 - (k : Int) = (j : Int) := by omega
      rw [hj']
      have v1 : IntKind.i64.wrap ((a : Int) + (j : Int)) = (a : Int) + (j : Int) := IntWalk.i64_in _ (by omega)
      have v2 : ((a : Int) + (j : Int)).toNat = a + j := by omega
      have v3 : (a : Int) + (j : Int) < (S.length : Int) := by omega
      have v4 : (0 : Int) ≤ (j : Int) := by omega
      clear hj
      have HJ := Aside0.mk hj'
      clear hj'
      go_wp2_with fail
      go_roundw
      case rel => exact ⟨k + 1, by omega, by have := HJ.out; congr 1; omega, by rw [hr.out], trivial⟩
      case measure => simp [intOf]
    · obtain rfl : k = n := by omega
      rw [show (k : Int) - 1 - (k : Int) = -1 by omega]
      have hcase := HC.out
      have hcell : wr.cell? ⟨g, a + (k - 1), none⟩ = some (.int .u8 (((getAt S a k).getD (k - 1) 0).toNat : Int)) := by
        have hk2 : k - 1 < (getAt S a k).length := by rw [getAt_length hf]; omega
        obtain ⟨h1, h2⟩ := getAt_get hk2
        rw [HM1.out.byte h1]
        simp [List.getD, hk2, h2]
      have hln : (getAt S a k).length = k := getAt_length hf
      have HWF := Aside0.mk HOP.out
      clear HOP HW hn' hlt hk
      obtain ⟨rfl, rfl, rfl⟩ := hcase
      · have hu := leN_lt (getAt S a 2) 2
        have hda := down_all (getAt S a 2) 2 (by decide)
        rw [hda]
        have HL := Aside0.mk (load_s HWF.out (by decide) hln (by decide))
        rw [show (2 : Nat) ^ (8 * 2 - 1) = 32768 from rfl, show (2 : Int) ^ (8 * 2) = 65536 from rfl] at HL
        rw [if_neg (by decide)] at HL
        have hh := high_of (L := getAt S a 2) 2 (by decide)
        rw [show (2 : Nat) ^ (8 * 2 - 1) = 32768 from rfl] at hh
        clear hln hda HWF
        generalize leN (getAt S a 2) 2 = u at *
        generalize ((getAt S a 2).getD (2 - 1) 0).toNat = b at *
        replace hu : u < 65536 := hu
        replace hcell : wr.cell? ⟨g, a + 1, none⟩ = some (.int .u8 (b : Int)) := hcell
        by_cases hb : 32768 ≤ u
        · rw [if_pos hb] at HL
          have hb1 : 128 ≤ b := hh.2 hb
          clear hh
          have e1 : decide ((128 : Int) ≤ (b : Int)) = true := decide_eq_true (by omega)
          have v1 : IntKind.i64.wrap ((a : Int) + 2) = (a : Int) + 2 := IntWalk.i64_in _ (by omega)
          have v2 : IntKind.i64.wrap ((a : Int) + 2 - 1) = ((a + 1 : Nat) : Int) := by rw [IntWalk.i64_in _ (by omega)]; omega
          have v3 : ((a + 1 : Nat) : Int) < (S.length : Int) := by omega
          have e2 : decide ((u : Int) - 65536 < 0) = true := decide_eq_true (by omega)
          go_wp2_with fail
          go_loopw [13, 14] (fun v13 v14 wq => ∃ j : Nat, j ≤ 2 ∧ v14 = .int .i64 (j : Int) ∧ v13 = .int .i64 ((256 ^ j : Nat) : Int) ∧ wq = wr) (fun _ v14 _ => 2 - (intOf v14).toNat)
          case atStart => exact ⟨0, by omega, rfl, rfl, rfl⟩
          case round =>
            obtain ⟨j, hj, rfl, rfl, rfl⟩ := hrel
            by_cases hlt : j < 2
            · have hq := Aside0.mk (show (256 : Nat) ^ (j + 1) = 256 ^ j * 256 from Nat.pow_succ 256 j)
              have hq2 : (256 : Nat) ^ j ≤ 256 ^ 3 := Nat.pow_le_pow_right (by decide) (by omega)
              rw [show (256 : Nat) ^ 3 = 16777216 by decide] at hq2
              generalize 256 ^ j = q at *
              clear e1 e2 v1 v2 v3 hcell
              go_wp2_with fail
              go_roundw
              case rel => exact ⟨j + 1, by omega, by go_num, by rw [hq.out]; go_num, trivial⟩
              case measure => simp [intOf]; omega
            · obtain rfl : j = 2 := by omega
              rw [show (((256 ^ 2 : Nat)) : Int) = 65536 by decide]
              have HL2 : Aside0 (loadF 50 (getAt S a 2) = (u : Int) - 65536) := ⟨by rw [HL.out]⟩
              clear HL
              go_wp2_with fail
              exact bodyPost_ret (v := .tuple #[.int .i64 ((u : Int) - 65536), .int .i64 0]) (by simp [results, Try.results66, go_sem, *]) rfl ⟨by rw [HL2.out], HB.out⟩
        · rw [if_neg hb] at HL
          have hb1 : ¬ 128 ≤ b := fun h => hb (hh.1 h)
          clear hh
          have e1 : decide ((128 : Int) ≤ (b : Int)) = false := decide_eq_false (by omega)
          have v1 : IntKind.i64.wrap ((a : Int) + 2) = (a : Int) + 2 := IntWalk.i64_in _ (by omega)
          have v2 : IntKind.i64.wrap ((a : Int) + 2 - 1) = ((a + 1 : Nat) : Int) := by rw [IntWalk.i64_in _ (by omega)]; omega
          have v3 : ((a + 1 : Nat) : Int) < (S.length : Int) := by omega
          have HL2 : Aside0 (loadF 50 (getAt S a 2) = (u : Int)) := ⟨by rw [HL.out]⟩
          clear HL
          go_wp2_with fail
          exact bodyPost_ret (v := .tuple #[.int .i64 (u : Int), .int .i64 0]) (by simp [results, Try.results66, go_sem, *]) rfl ⟨by rw [HL2.out], HB.out⟩

set_option maxHeartbeats 4000000 in
theorem rload_51 {w : World} {p g cap : Nat} {S : List UInt8} {most bound : Int} {op : Int} {a n : Nat} {t : Int} (h : MemAt 83 w p g cap S most bound) (hs : S.length ≤ 1048576)
    (hw : widthF op = (n, t, false)) (hcase : op = 51 ∧ n = 2 ∧ t = 126) (hn : n ≠ 0) (hf : a + n ≤ S.length) :
    Calls Try.prog 66 #[.pointer (some ⟨p, 0, none⟩), .int .i64 op, .int .i64 a] w fun e w' => e = .returned (.tuple #[.int .i64 (loadF op (getAt S a n)), .int .i64 0]) ∧ Below w.heap.size w w' := by
  have HM := Aside0.mk h
  have hle := width_le op
  have HC := Aside0.mk hcase
  clear h hcase
  have HW := Aside0.mk (fun w => rwidth_calls op w)
  rw [hw] at HW hle
  have HOP := Aside0.mk hw
  clear hw
  replace hle : n ≤ 8 := hle
  have hn' : ((n : Int) == 0) = false := beq_eq_false_iff_ne.mpr (by omega)
  go_enter Try.func66, Try.ntmps66
  go_wp2_with fail
  refine (HW.out w).mono ?_
  rintro e w1 ⟨rfl, hb⟩
  have HB := Aside0.mk hb
  have HM1 := Aside0.mk (HM.out.below hb)
  clear hb
  go_wp2_with fail
  refine (rin_yes HM1.out hs hf).mono ?_
  rintro e w2 ⟨rfl, rfl⟩
  go_wp2_with fail
  go_loopw [11, 12] (fun v11 v12 wr => ∃ k : Nat, k ≤ n ∧ v12 = .int .i64 ((n : Int) - 1 - (k : Int)) ∧ v11 = .int .i64 (downTo (getAt S a n) n k) ∧ wr = w2) (fun _ v12 _ => (intOf v12 + 1).toNat)
  case atStart => exact ⟨0, Nat.zero_le _, by simp, by rw [down_zero], rfl⟩
  case round =>
    obtain ⟨k, hk, rfl, rfl, rfl⟩ := hrel
    have zs := HM1.out.c0
    by_cases hlt : k < n
    · have hb : wr.cell? ⟨g, a + (n - 1 - k), none⟩ = some (.int .u8 (((getAt S a n).getD (n - 1 - k) 0).toNat : Int)) := by
        have hk2 : n - 1 - k < (getAt S a n).length := by rw [getAt_length hf]; omega
        obtain ⟨h1, h2⟩ := getAt_get hk2
        rw [HM1.out.byte h1]
        simp [List.getD, hk2, h2]
      have hr := Aside0.mk (down_succ (getAt S a n) n k)
      have hc : ((((getAt S a n).getD (n - 1 - k) 0).toNat : Int)) ≤ 255 := by
        have := UInt8.toNat_lt ((getAt S a n).getD (n - 1 - k) 0)
        omega
      have hc0 : 0 ≤ ((((getAt S a n).getD (n - 1 - k) 0).toNat : Int)) := Int.natCast_nonneg _
      generalize ((((getAt S a n).getD (n - 1 - k) 0).toNat : Int)) = c at *
      generalize downTo (getAt S a n) n k = r at *
      obtain ⟨j, hj⟩ : ∃ j : Nat, j = n - 1 - k := ⟨_, rfl⟩
      rw [← hj] at hb
      have hj' : (n : Int) - 1 - (k : Int) = (j : Int) := by omega
      rw [hj']
      have v1 : IntKind.i64.wrap ((a : Int) + (j : Int)) = (a : Int) + (j : Int) := IntWalk.i64_in _ (by omega)
      have v2 : ((a : Int) + (j : Int)).toNat = a + j := by omega
      have v3 : (a : Int) + (j : Int) < (S.length : Int) := by omega
      have v4 : (0 : Int) ≤ (j : Int) := by omega
      clear hj
      have HJ := Aside0.mk hj'
      clear hj'
      go_wp2_with fail
      go_roundw
      case rel => exact ⟨k + 1, by omega, by have := HJ.out; congr 1; omega, by rw [hr.out], trivial⟩
      case measure => simp [intOf]
    · obtain rfl : k = n := by omega
      rw [show (k : Int) - 1 - (k : Int) = -1 by omega]
      have hcase := HC.out
      have hcell : wr.cell? ⟨g, a + (k - 1), none⟩ = some (.int .u8 (((getAt S a k).getD (k - 1) 0).toNat : Int)) := by
        have hk2 : k - 1 < (getAt S a k).length := by rw [getAt_length hf]; omega
        obtain ⟨h1, h2⟩ := getAt_get hk2
        rw [HM1.out.byte h1]
        simp [List.getD, hk2, h2]
      have hln : (getAt S a k).length = k := getAt_length hf
      have HWF := Aside0.mk HOP.out
      clear HOP HW hn' hlt hk
      obtain ⟨rfl, rfl, rfl⟩ := hcase
      · have hu := leN_lt (getAt S a 2) 2
        have hda := down_all (getAt S a 2) 2 (by decide)
        rw [hda]
        have HL := Aside0.mk (load_u HWF.out (by decide) hln (by decide))
        clear hln hcell hda HWF
        generalize leN (getAt S a 2) 2 = u at *
        replace hu : u < 65536 := hu
        have e2 : decide ((u : Int) < 0) = false := decide_eq_false (by omega)
        clear hu
        go_wp2_with fail
        exact bodyPost_ret (v := .tuple #[.int .i64 (u : Int), .int .i64 0]) (by simp [results, Try.results66, go_sem, *]) rfl ⟨by rw [HL.out], HB.out⟩

set_option maxHeartbeats 4000000 in
theorem rload_52 {w : World} {p g cap : Nat} {S : List UInt8} {most bound : Int} {op : Int} {a n : Nat} {t : Int} (h : MemAt 83 w p g cap S most bound) (hs : S.length ≤ 1048576)
    (hw : widthF op = (n, t, false)) (hcase : op = 52 ∧ n = 4 ∧ t = 126) (hn : n ≠ 0) (hf : a + n ≤ S.length) :
    Calls Try.prog 66 #[.pointer (some ⟨p, 0, none⟩), .int .i64 op, .int .i64 a] w fun e w' => e = .returned (.tuple #[.int .i64 (loadF op (getAt S a n)), .int .i64 0]) ∧ Below w.heap.size w w' := by
  have HM := Aside0.mk h
  have hle := width_le op
  have HC := Aside0.mk hcase
  clear h hcase
  have HW := Aside0.mk (fun w => rwidth_calls op w)
  rw [hw] at HW hle
  have HOP := Aside0.mk hw
  clear hw
  replace hle : n ≤ 8 := hle
  have hn' : ((n : Int) == 0) = false := beq_eq_false_iff_ne.mpr (by omega)
  go_enter Try.func66, Try.ntmps66
  go_wp2_with fail
  refine (HW.out w).mono ?_
  rintro e w1 ⟨rfl, hb⟩
  have HB := Aside0.mk hb
  have HM1 := Aside0.mk (HM.out.below hb)
  clear hb
  go_wp2_with fail
  refine (rin_yes HM1.out hs hf).mono ?_
  rintro e w2 ⟨rfl, rfl⟩
  go_wp2_with fail
  go_loopw [11, 12] (fun v11 v12 wr => ∃ k : Nat, k ≤ n ∧ v12 = .int .i64 ((n : Int) - 1 - (k : Int)) ∧ v11 = .int .i64 (downTo (getAt S a n) n k) ∧ wr = w2) (fun _ v12 _ => (intOf v12 + 1).toNat)
  case atStart => exact ⟨0, Nat.zero_le _, by simp, by rw [down_zero], rfl⟩
  case round =>
    obtain ⟨k, hk, rfl, rfl, rfl⟩ := hrel
    have zs := HM1.out.c0
    by_cases hlt : k < n
    · have hb : wr.cell? ⟨g, a + (n - 1 - k), none⟩ = some (.int .u8 (((getAt S a n).getD (n - 1 - k) 0).toNat : Int)) := by
        have hk2 : n - 1 - k < (getAt S a n).length := by rw [getAt_length hf]; omega
        obtain ⟨h1, h2⟩ := getAt_get hk2
        rw [HM1.out.byte h1]
        simp [List.getD, hk2, h2]
      have hr := Aside0.mk (down_succ (getAt S a n) n k)
      have hc : ((((getAt S a n).getD (n - 1 - k) 0).toNat : Int)) ≤ 255 := by
        have := UInt8.toNat_lt ((getAt S a n).getD (n - 1 - k) 0)
        omega
      have hc0 : 0 ≤ ((((getAt S a n).getD (n - 1 - k) 0).toNat : Int)) := Int.natCast_nonneg _
      generalize ((((getAt S a n).getD (n - 1 - k) 0).toNat : Int)) = c at *
      generalize downTo (getAt S a n) n k = r at *
      obtain ⟨j, hj⟩ : ∃ j : Nat, j = n - 1 - k := ⟨_, rfl⟩
      rw [← hj] at hb
      have hj' : (n : Int) - 1 - (k : Int) = (j : Int) := by omega
      rw [hj']
      have v1 : IntKind.i64.wrap ((a : Int) + (j : Int)) = (a : Int) + (j : Int) := IntWalk.i64_in _ (by omega)
      have v2 : ((a : Int) + (j : Int)).toNat = a + j := by omega
      have v3 : (a : Int) + (j : Int) < (S.length : Int) := by omega
      have v4 : (0 : Int) ≤ (j : Int) := by omega
      clear hj
      have HJ := Aside0.mk hj'
      clear hj'
      go_wp2_with fail
      go_roundw
      case rel => exact ⟨k + 1, by omega, by have := HJ.out; congr 1; omega, by rw [hr.out], trivial⟩
      case measure => simp [intOf]
    · obtain rfl : k = n := by omega
      rw [show (k : Int) - 1 - (k : Int) = -1 by omega]
      have hcase := HC.out
      have hcell : wr.cell? ⟨g, a + (k - 1), none⟩ = some (.int .u8 (((getAt S a k).getD (k - 1) 0).toNat : Int)) := by
        have hk2 : k - 1 < (getAt S a k).length := by rw [getAt_length hf]; omega
        obtain ⟨h1, h2⟩ := getAt_get hk2
        rw [HM1.out.byte h1]
        simp [List.getD, hk2, h2]
      have hln : (getAt S a k).length = k := getAt_length hf
      have HWF := Aside0.mk HOP.out
      clear HOP HW hn' hlt hk
      obtain ⟨rfl, rfl, rfl⟩ := hcase
      · have hu := leN_lt (getAt S a 4) 4
        have hda := down_all (getAt S a 4) 4 (by decide)
        rw [hda]
        have HL := Aside0.mk (load_s HWF.out (by decide) hln (by decide))
        rw [show (2 : Nat) ^ (8 * 4 - 1) = 2147483648 from rfl, show (2 : Int) ^ (8 * 4) = 4294967296 from rfl] at HL
        rw [if_neg (by decide)] at HL
        have hh := high_of (L := getAt S a 4) 4 (by decide)
        rw [show (2 : Nat) ^ (8 * 4 - 1) = 2147483648 from rfl] at hh
        clear hln hda HWF
        generalize leN (getAt S a 4) 4 = u at *
        generalize ((getAt S a 4).getD (4 - 1) 0).toNat = b at *
        replace hu : u < 4294967296 := hu
        replace hcell : wr.cell? ⟨g, a + 3, none⟩ = some (.int .u8 (b : Int)) := hcell
        by_cases hb : 2147483648 ≤ u
        · rw [if_pos hb] at HL
          have hb1 : 128 ≤ b := hh.2 hb
          clear hh
          have e1 : decide ((128 : Int) ≤ (b : Int)) = true := decide_eq_true (by omega)
          have v1 : IntKind.i64.wrap ((a : Int) + 4) = (a : Int) + 4 := IntWalk.i64_in _ (by omega)
          have v2 : IntKind.i64.wrap ((a : Int) + 4 - 1) = ((a + 3 : Nat) : Int) := by rw [IntWalk.i64_in _ (by omega)]; omega
          have v3 : ((a + 3 : Nat) : Int) < (S.length : Int) := by omega
          have e2 : decide ((u : Int) - 4294967296 < 0) = true := decide_eq_true (by omega)
          go_wp2_with fail
          go_loopw [13, 14] (fun v13 v14 wq => ∃ j : Nat, j ≤ 4 ∧ v14 = .int .i64 (j : Int) ∧ v13 = .int .i64 ((256 ^ j : Nat) : Int) ∧ wq = wr) (fun _ v14 _ => 4 - (intOf v14).toNat)
          case atStart => exact ⟨0, by omega, rfl, rfl, rfl⟩
          case round =>
            obtain ⟨j, hj, rfl, rfl, rfl⟩ := hrel
            by_cases hlt : j < 4
            · have hq := Aside0.mk (show (256 : Nat) ^ (j + 1) = 256 ^ j * 256 from Nat.pow_succ 256 j)
              have hq2 : (256 : Nat) ^ j ≤ 256 ^ 3 := Nat.pow_le_pow_right (by decide) (by omega)
              rw [show (256 : Nat) ^ 3 = 16777216 by decide] at hq2
              generalize 256 ^ j = q at *
              clear e1 e2 v1 v2 v3 hcell
              go_wp2_with fail
              go_roundw
              case rel => exact ⟨j + 1, by omega, by go_num, by rw [hq.out]; go_num, trivial⟩
              case measure => simp [intOf]; omega
            · obtain rfl : j = 4 := by omega
              rw [show (((256 ^ 4 : Nat)) : Int) = 4294967296 by decide]
              have HL2 : Aside0 (loadF 52 (getAt S a 4) = (u : Int) - 4294967296) := ⟨by rw [HL.out]⟩
              clear HL
              go_wp2_with fail
              exact bodyPost_ret (v := .tuple #[.int .i64 ((u : Int) - 4294967296), .int .i64 0]) (by simp [results, Try.results66, go_sem, *]) rfl ⟨by rw [HL2.out], HB.out⟩
        · rw [if_neg hb] at HL
          have hb1 : ¬ 128 ≤ b := fun h => hb (hh.1 h)
          clear hh
          have e1 : decide ((128 : Int) ≤ (b : Int)) = false := decide_eq_false (by omega)
          have v1 : IntKind.i64.wrap ((a : Int) + 4) = (a : Int) + 4 := IntWalk.i64_in _ (by omega)
          have v2 : IntKind.i64.wrap ((a : Int) + 4 - 1) = ((a + 3 : Nat) : Int) := by rw [IntWalk.i64_in _ (by omega)]; omega
          have v3 : ((a + 3 : Nat) : Int) < (S.length : Int) := by omega
          have HL2 : Aside0 (loadF 52 (getAt S a 4) = (u : Int)) := ⟨by rw [HL.out]⟩
          clear HL
          go_wp2_with fail
          exact bodyPost_ret (v := .tuple #[.int .i64 (u : Int), .int .i64 0]) (by simp [results, Try.results66, go_sem, *]) rfl ⟨by rw [HL2.out], HB.out⟩

set_option maxHeartbeats 4000000 in
theorem rload_53 {w : World} {p g cap : Nat} {S : List UInt8} {most bound : Int} {op : Int} {a n : Nat} {t : Int} (h : MemAt 83 w p g cap S most bound) (hs : S.length ≤ 1048576)
    (hw : widthF op = (n, t, false)) (hcase : op = 53 ∧ n = 4 ∧ t = 126) (hn : n ≠ 0) (hf : a + n ≤ S.length) :
    Calls Try.prog 66 #[.pointer (some ⟨p, 0, none⟩), .int .i64 op, .int .i64 a] w fun e w' => e = .returned (.tuple #[.int .i64 (loadF op (getAt S a n)), .int .i64 0]) ∧ Below w.heap.size w w' := by
  have HM := Aside0.mk h
  have hle := width_le op
  have HC := Aside0.mk hcase
  clear h hcase
  have HW := Aside0.mk (fun w => rwidth_calls op w)
  rw [hw] at HW hle
  have HOP := Aside0.mk hw
  clear hw
  replace hle : n ≤ 8 := hle
  have hn' : ((n : Int) == 0) = false := beq_eq_false_iff_ne.mpr (by omega)
  go_enter Try.func66, Try.ntmps66
  go_wp2_with fail
  refine (HW.out w).mono ?_
  rintro e w1 ⟨rfl, hb⟩
  have HB := Aside0.mk hb
  have HM1 := Aside0.mk (HM.out.below hb)
  clear hb
  go_wp2_with fail
  refine (rin_yes HM1.out hs hf).mono ?_
  rintro e w2 ⟨rfl, rfl⟩
  go_wp2_with fail
  go_loopw [11, 12] (fun v11 v12 wr => ∃ k : Nat, k ≤ n ∧ v12 = .int .i64 ((n : Int) - 1 - (k : Int)) ∧ v11 = .int .i64 (downTo (getAt S a n) n k) ∧ wr = w2) (fun _ v12 _ => (intOf v12 + 1).toNat)
  case atStart => exact ⟨0, Nat.zero_le _, by simp, by rw [down_zero], rfl⟩
  case round =>
    obtain ⟨k, hk, rfl, rfl, rfl⟩ := hrel
    have zs := HM1.out.c0
    by_cases hlt : k < n
    · have hb : wr.cell? ⟨g, a + (n - 1 - k), none⟩ = some (.int .u8 (((getAt S a n).getD (n - 1 - k) 0).toNat : Int)) := by
        have hk2 : n - 1 - k < (getAt S a n).length := by rw [getAt_length hf]; omega
        obtain ⟨h1, h2⟩ := getAt_get hk2
        rw [HM1.out.byte h1]
        simp [List.getD, hk2, h2]
      have hr := Aside0.mk (down_succ (getAt S a n) n k)
      have hc : ((((getAt S a n).getD (n - 1 - k) 0).toNat : Int)) ≤ 255 := by
        have := UInt8.toNat_lt ((getAt S a n).getD (n - 1 - k) 0)
        omega
      have hc0 : 0 ≤ ((((getAt S a n).getD (n - 1 - k) 0).toNat : Int)) := Int.natCast_nonneg _
      generalize ((((getAt S a n).getD (n - 1 - k) 0).toNat : Int)) = c at *
      generalize downTo (getAt S a n) n k = r at *
      obtain ⟨j, hj⟩ : ∃ j : Nat, j = n - 1 - k := ⟨_, rfl⟩
      rw [← hj] at hb
      have hj' : (n : Int) - 1 - (k : Int) = (j : Int) := by omega
      rw [hj']
      have v1 : IntKind.i64.wrap ((a : Int) + (j : Int)) = (a : Int) + (j : Int) := IntWalk.i64_in _ (by omega)
      have v2 : ((a : Int) + (j : Int)).toNat = a + j := by omega
      have v3 : (a : Int) + (j : Int) < (S.length : Int) := by omega
      have v4 : (0 : Int) ≤ (j : Int) := by omega
      clear hj
      have HJ := Aside0.mk hj'
      clear hj'
      go_wp2_with fail
      go_roundw
      case rel => exact ⟨k + 1, by omega, by have := HJ.out; congr 1; omega, by rw [hr.out], trivial⟩
      case measure => simp [intOf]
    · obtain rfl : k = n := by omega
      rw [show (k : Int) - 1 - (k : Int) = -1 by omega]
      have hcase := HC.out
      have hcell : wr.cell? ⟨g, a + (k - 1), none⟩ = some (.int .u8 (((getAt S a k).getD (k - 1) 0).toNat : Int)) := by
        have hk2 : k - 1 < (getAt S a k).length := by rw [getAt_length hf]; omega
        obtain ⟨h1, h2⟩ := getAt_get hk2
        rw [HM1.out.byte h1]
        simp [List.getD, hk2, h2]
      have hln : (getAt S a k).length = k := getAt_length hf
      have HWF := Aside0.mk HOP.out
      clear HOP HW hn' hlt hk
      obtain ⟨rfl, rfl, rfl⟩ := hcase
      · have hu := leN_lt (getAt S a 4) 4
        have hda := down_all (getAt S a 4) 4 (by decide)
        rw [hda]
        have HL := Aside0.mk (load_u HWF.out (by decide) hln (by decide))
        clear hln hcell hda HWF
        generalize leN (getAt S a 4) 4 = u at *
        replace hu : u < 4294967296 := hu
        have e2 : decide ((u : Int) < 0) = false := decide_eq_false (by omega)
        clear hu
        go_wp2_with fail
        exact bodyPost_ret (v := .tuple #[.int .i64 (u : Int), .int .i64 0]) (by simp [results, Try.results66, go_sem, *]) rfl ⟨by rw [HL.out], HB.out⟩

theorem rload_yes {w : World} {p g cap : Nat} {S : List UInt8} {most bound : Int} {op : Int} {a n : Nat} {t : Int} (h : MemAt 83 w p g cap S most bound) (hs : S.length ≤ 1048576)
    (hw : widthF op = (n, t, false)) (hn : n ≠ 0) (hf : a + n ≤ S.length) :
    Calls Try.prog 66 #[.pointer (some ⟨p, 0, none⟩), .int .i64 op, .int .i64 a] w fun e w' => e = .returned (.tuple #[.int .i64 (loadF op (getAt S a n)), .int .i64 0]) ∧ Below w.heap.size w w' := by
  rcases load_ops hw hn with hc | hc | hc | hc | hc | hc | hc | hc | hc | hc | hc | hc
  · exact rload_40 h hs hw hc hn hf
  · exact rload_41 h hs hw hc hn hf
  · exact rload_44 h hs hw hc hn hf
  · exact rload_45 h hs hw hc hn hf
  · exact rload_46 h hs hw hc hn hf
  · exact rload_47 h hs hw hc hn hf
  · exact rload_48 h hs hw hc hn hf
  · exact rload_49 h hs hw hc hn hf
  · exact rload_50 h hs hw hc hn hf
  · exact rload_51 h hs hw hc hn hf
  · exact rload_52 h hs hw hc hn hf
  · exact rload_53 h hs hw hc hn hf
end Go.Proofs.Ytmpmcffhlnlejaa.MemEq
