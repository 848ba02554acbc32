/- (*Mem).Store, Fill. -/
import Derived.Test.YtmpmcffhlnlejaaMemLd
namespace Go.Proofs.Ytmpmcffhlnlejaa.MemEq
open Go.RowKit Go.Proofs.YtmpmcffhlnlejaaW.PrintWords Go.Proofs.YtmpmcffhlnlejaaW.PrintLast Go.Proofs.YtmpmcffhlnlejaaW.PrintMore
set_option linter.unusedVariables false
set_option linter.unusedSimpArgs false

theorem MemAt.set {T : TypeId} {w : World} {p g cap : Nat} {S : List UInt8} {most bound : Int} (h : MemAt T w p g cap S most bound) {j : Nat} (hj : j < S.length) (b : UInt8) :
    MemAt T (w.setCell ⟨g, j, none⟩ (.int .u8 (b.toNat : Int))) p g cap (S.set j b) most bound := by
  obtain ⟨hp, ⟨cur, hg, hc⟩, ne⟩ := h
  refine ⟨?_, ⟨cur, ?_, by simpa using hc⟩, ne⟩
  · rw [List.length_set]
    exact blk_far hp (p := ⟨g, j, none⟩) ne _
  · rw [blk_set hg]
    congr 3
    simp [bz, List.set_append, hj, List.map_set]

theorem splice_nil {α : Type} (S : List α) (a : Nat) : splice S a [] = S := by simp [splice]
theorem splice_snoc {α : Type} {S R : List α} {a : Nat} (b : α) (h : a + R.length < S.length) : splice S a (R ++ [b]) = (splice S a R).set (a + R.length) b := by
  unfold splice
  have hd : S.drop (a + R.length) = S[a + R.length] :: S.drop (a + R.length + 1) := List.drop_eq_getElem_cons h
  have ht : (S.take a).length = a := by simp; omega
  rw [hd, List.set_append_right _ _ (by omega), ht, Nat.add_sub_cancel_left, List.set_append_right _ _ (Nat.le_refl _), Nat.sub_self, List.set_cons_zero]
  simp [Nat.add_assoc]

/-- A number's bytes. -/
def byteOf (v : Int) (i : Nat) : UInt8 := UInt8.ofNat ((v / 2 ^ (8 * i)) % 256).toNat
theorem byteOf_toNat (v : Int) (i : Nat) : ((byteOf v i).toNat : Int) = (v / 2 ^ (8 * i)) % 256 := by
  unfold byteOf
  have h1 := Int.emod_nonneg (v / 2 ^ (8 * i)) (show (256 : Int) ≠ 0 by decide)
  have h2 := Int.emod_lt_of_pos (v / 2 ^ (8 * i)) (show (0 : Int) < 256 by decide)
  rw [UInt8.toNat_ofNat_of_lt' (by show _ < 256; omega)]
  omega
def stB (v : Int) (n : Nat) : List UInt8 := (List.range n).map (byteOf v)
theorem stB_succ (v : Int) (n : Nat) : stB v (n + 1) = stB v n ++ [byteOf v n] := by simp [stB, List.range_succ]
theorem stB_length (v : Int) (n : Nat) : (stB v n).length = n := by simp [stB]

/-- A byte more is put. -/
theorem put_step {T : TypeId} {w wr : World} {p g cap : Nat} {S R : List UInt8} {most bound : Int} {a k : Nat} (b : UInt8) (hk : R.length = k) (hM : MemAt T wr p g cap (splice S a R) most bound) (hT : Turned p g w wr) (h : a + k < S.length) :
    Aside0 (MemAt T (wr.setCell ⟨g, a + k, none⟩ (.int .u8 (b.toNat : Int))) p g cap (splice S a (R ++ [b])) most bound) ∧ Aside0 (Turned p g w (wr.setCell ⟨g, a + k, none⟩ (.int .u8 (b.toNat : Int)))) := by
  subst hk
  refine ⟨⟨?_⟩, ⟨hT.trans ⟨rfl, rfl, rfl, by simp [World.setCell], fun i hi h1 h2 => Below.heap_setCell wr _ _ i h2⟩⟩⟩
  rw [splice_snoc b h]
  exact hM.set (by rw [length_splice S a R (by omega)]; exact h) b

theorem store_no {w : World} {p g cap : Nat} {S : List UInt8} {most bound : Int} {op at_ v : Int} (h : MemAt 105 w p g cap S most bound) (hs : S.length ≤ 1048576)
    (hf : ((widthF op).2.2 && fits S.length at_ (widthF op).1) = false) :
    Calls Try.prog 34 #[.pointer (some ⟨p, 0, none⟩), .int .i64 op, .int .i64 at_, .int .i64 v] w fun e w' => e = .returned (.int .i64 4) ∧ Drawn0 w w' := by
  have HM := Aside0.mk h
  have hle := width_le op
  clear h
  have HW := Aside0.mk (fun w => width_calls op w)
  have HF := Aside0.mk hf
  clear hf
  generalize (widthF op) = W at *
  obtain ⟨n, t, st⟩ := W
  replace hle : n ≤ 8 := hle
  go_enter Try.func34, Try.ntmps34
  go_wp2_with fail
  refine (HW.out w).mono ?_
  rintro e w1 ⟨rfl, ⟨d1, rfl⟩⟩
  go_wp2_with fail
  cases hff : fits S.length at_ n with
  | false =>
    refine (part_no (HM.out.drewN d1) hs hff).mono ?_
    rintro e w1 ⟨rfl, rfl⟩
    clear HF
    go_wp2_with fail
    all_goals (go_ret; exact ⟨rfl, ⟨⟨d1, rfl⟩⟩⟩)
  | true =>
    have hff' := of_decide_eq_true hff
    obtain ⟨a, rfl⟩ := Int.eq_ofNat_of_zero_le hff'.1
    refine (part_yes (at_ := a) (n := n) (HM.out.drewN d1) hs (by omega)).mono ?_
    rintro e w1 ⟨off, ho, rfl, rfl⟩
    obtain rfl : st = false := by
      have := HF.out
      simpa [hff] using this
    clear HF ho
    go_wp2_with fail
    all_goals (go_ret; exact ⟨rfl, ⟨⟨d1, rfl⟩⟩⟩)

theorem Turned.drewN {p g : Nat} {w : World} (n : Nat) : Turned p g w (w.drewN n) := ⟨rfl, rfl, rfl, Nat.le_refl _, fun _ _ _ _ => rfl⟩

set_option maxHeartbeats 4000000 in
theorem store_yes {w : World} {p g cap : Nat} {S : List UInt8} {most bound : Int} {op v : Int} {a n : Nat} {t : Int} (h : MemAt 105 w p g cap S most bound) (hs : S.length ≤ 1048576)
    (hw : widthF op = (n, t, true)) (hn : n ≠ 0) (hf : a + n ≤ S.length) :
    Calls Try.prog 34 #[.pointer (some ⟨p, 0, none⟩), .int .i64 op, .int .i64 a, .int .i64 v] w fun e w' => e = .returned (.int .i64 0) ∧ MemAt 105 w' p g cap (splice S a (stB v n)) most bound ∧ Turned p g w w' := by
  have HM := Aside0.mk h
  have hle := width_le op
  clear h
  have HW := Aside0.mk (fun w => width_calls op w)
  rw [hw] at HW hle
  clear hw
  replace hle : n ≤ 8 := hle
  go_enter Try.func34, Try.ntmps34
  go_wp2_with fail
  refine (HW.out w).mono ?_
  rintro e w1 ⟨rfl, ⟨d1, rfl⟩⟩
  go_wp2_with fail
  refine (part_yes (at_ := a) (n := n) (HM.out.drewN d1) hs (by omega)).mono ?_
  rintro e w1 ⟨off, ho, rfl, rfl⟩
  obtain rfl : off = a := ho hn
  clear ho
  go_wp2_with fail
  go_loopw [36] (fun v36 wr => ∃ k : Nat, k ≤ n ∧ v36 = .int .i64 k ∧ Aside0 (MemAt 105 wr p g cap (splice S off (stB v k)) most bound) ∧ Aside0 (Turned p g w wr)) (fun v36 _ => n - (intOf v36).toNat)
  case atStart => exact ⟨0, Nat.zero_le _, rfl, ⟨by rw [show stB v 0 = [] from rfl, splice_nil]; exact HM.out.drewN d1⟩, ⟨Turned.drewN d1⟩⟩
  case round =>
    obtain ⟨k, hk, rfl, HM1, HT1⟩ := hrel
    by_cases hlt : k < n
    · have hl1 : off + k < (splice S off (stB v k)).length := by rw [length_splice S off _ (by rw [stB_length]; omega)]; omega
      obtain ⟨u0, z0⟩ : ∃ u, wr.cell? ⟨g, off + k, none⟩ = some u := ⟨_, HM1.out.byte hl1⟩
      have f0 : wr.frozen? ⟨g, off + k, none⟩ = false := blk_frozen HM1.out.hg.choose_spec.1 _
      obtain ⟨R1, R2⟩ := put_step (byteOf v k) (stB_length v k) HM1.out HT1.out (by omega)
      rw [← stB_succ, byteOf_toNat] at R1
      rw [byteOf_toNat] at R2
      clear HM1 HT1 hl1
      go_wp2_with fail
      go_roundw
      case rel => exact ⟨k + 1, by omega, by go_num, R1, R2⟩
      case measure => simp [intOf]; omega
    · obtain rfl : k = n := by omega
      go_wp2_with fail
      go_ret
      exact ⟨rfl, HM1.out, HT1.out⟩

theorem fill_no {w : World} {p g cap : Nat} {S : List UInt8} {most bound : Int} {at_ v n : Int} (h : MemAt 105 w p g cap S most bound) (hs : S.length ≤ 1048576)
    (hf : fits S.length at_ n = false) :
    Calls Try.prog 49 #[.pointer (some ⟨p, 0, none⟩), .int .i64 at_, .int .i64 v, .int .i64 n] w fun e w' => e = .returned (.int .i64 4) ∧ w' = w := by
  have HM := Aside0.mk h
  clear h
  go_enter Try.func49, Try.ntmps49
  go_wp2_with fail
  refine (part_no HM.out hs hf).mono ?_
  rintro e w1 ⟨rfl, rfl⟩
  go_wp2_with fail
  go_ret
  exact ⟨rfl, rfl⟩

theorem byteOf_zero (v : Int) : ((byteOf v 0).toNat : Int) = v % 256 := by rw [byteOf_toNat]; simp
theorem rep_succ (b : UInt8) (k : Nat) : List.replicate (k + 1) b = List.replicate k b ++ [b] := by rw [List.replicate_succ']

set_option maxHeartbeats 4000000 in
theorem fill_yes {w : World} {p g cap : Nat} {S : List UInt8} {most bound : Int} {v : Int} {a n : Nat} (h : MemAt 105 w p g cap S most bound) (hs : S.length ≤ 1048576)
    (hf : a + n ≤ S.length) :
    Calls Try.prog 49 #[.pointer (some ⟨p, 0, none⟩), .int .i64 a, .int .i64 v, .int .i64 n] w fun e w' => e = .returned (.int .i64 0) ∧ MemAt 105 w' p g cap (splice S a (List.replicate n (byteOf v 0))) most bound ∧ Turned p g w w' := by
  have HM := Aside0.mk h
  clear h
  go_enter Try.func49, Try.ntmps49
  go_wp2_with fail
  refine (part_yes (at_ := a) (n := n) HM.out hs (by omega)).mono ?_
  rintro e w1 ⟨off, ho, rfl, rfl⟩
  have HO := Aside0.mk ho
  clear ho
  go_wp2_with fail
  go_loopw [23] (fun v23 wr => ∃ k : Nat, k ≤ n ∧ v23 = .int .i64 k ∧ Aside0 (MemAt 105 wr p g cap (splice S a (List.replicate k (byteOf v 0))) most bound) ∧ Aside0 (Turned p g w1 wr)) (fun v23 _ => n - (intOf v23).toNat)
  case atStart => exact ⟨0, Nat.zero_le _, rfl, ⟨by rw [show List.replicate 0 (byteOf v 0) = [] from rfl, splice_nil]; exact HM.out⟩, ⟨Turned.refl _ _ _⟩⟩
  case round =>
    obtain ⟨k, hk, rfl, HM1, HT1⟩ := hrel
    by_cases hlt : k < n
    · obtain rfl : off = a := HO.out (by omega)
      have hl1 : off + k < (splice S off (List.replicate k (byteOf v 0))).length := by rw [length_splice S off _ (by rw [List.length_replicate]; omega)]; omega
      obtain ⟨u0, z0⟩ : ∃ u, wr.cell? ⟨g, off + k, none⟩ = some u := ⟨_, HM1.out.byte hl1⟩
      have f0 : wr.frozen? ⟨g, off + k, none⟩ = false := blk_frozen HM1.out.hg.choose_spec.1 _
      obtain ⟨R1, R2⟩ := put_step (byteOf v 0) (List.length_replicate) HM1.out HT1.out (by omega)
      rw [← rep_succ, byteOf_zero] at R1
      rw [byteOf_zero] at R2
      clear HM1 HT1 hl1
      go_wp2_with fail
      go_roundw
      case rel => exact ⟨k + 1, by omega, by go_num, R1, R2⟩
      case measure => simp [intOf]; omega
    · obtain rfl : k = n := by omega
      go_wp2_with fail
      go_ret
      exact ⟨rfl, HM1.out, HT1.out⟩
end Go.Proofs.Ytmpmcffhlnlejaa.MemEq
