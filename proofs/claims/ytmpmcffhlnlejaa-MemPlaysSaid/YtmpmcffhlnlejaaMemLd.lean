/- mem.Width, mem.signed, (*Mem).Load. -/
import Derived.Test.YtmpmcffhlnlejaaMemAt
namespace Go.Proofs.Ytmpmcffhlnlejaa.MemEq
open Go.RowKit Go.Proofs.YtmpmcffhlnlejaaW.PrintWords Go.Proofs.YtmpmcffhlnlejaaW.PrintLast Go.Proofs.YtmpmcffhlnlejaaW.PrintMore
open Go.Proofs.Ytmpmcffhlnlejaa.PMemBack
set_option linter.unusedVariables false
set_option linter.unusedSimpArgs false

/-- How many bytes an instruction loads or stores, of which type, and whether it stores. -/
def widthF (op : Int) : Nat × Int × Bool :=
  if op = 40 then (4, 127, false) else if op = 41 then (8, 126, false)
  else if op = 44 ∨ op = 45 then (1, 127, false) else if op = 46 ∨ op = 47 then (2, 127, false)
  else if op = 48 ∨ op = 49 then (1, 126, false) else if op = 50 ∨ op = 51 then (2, 126, false)
  else if op = 52 ∨ op = 53 then (4, 126, false) else if op = 54 then (4, 127, true) else if op = 55 then (8, 126, true)
  else if op = 58 then (1, 127, true) else if op = 59 then (2, 127, true) else if op = 60 then (1, 126, true)
  else if op = 61 then (2, 126, true) else if op = 62 then (4, 126, true) else (0, 0, false)

theorem width_ev (op : Int) : ∃ k, mem_Width.f k op = some ((((widthF op).1 : Nat) : Int), (widthF op).2.1, (widthF op).2.2) := by
  by_cases h : op = 40 ∨ op = 41 ∨ op = 44 ∨ op = 45 ∨ op = 46 ∨ op = 47 ∨ op = 48 ∨ op = 49 ∨ op = 50 ∨ op = 51 ∨ op = 52 ∨ op = 53 ∨ op = 54 ∨ op = 55 ∨ op = 58 ∨ op = 59 ∨ op = 60 ∨ op = 61 ∨ op = 62
  · rcases h with rfl | rfl | rfl | rfl | rfl | rfl | rfl | rfl | rfl | rfl | rfl | rfl | rfl | rfl | rfl | rfl | rfl | rfl | rfl <;> exact ⟨6, by decide⟩
  · simp only [not_or] at h
    obtain ⟨h1, h2, h3, h4, h5, h6, h7, h8, h9, h10, h11, h12, h13, h14, h15, h16, h17, h18, h19⟩ := h
    have hb : ∀ {z : Int}, ¬ op = z → (op == z) = false := fun h => beq_eq_false_iff_ne.mpr h
    refine ⟨6, ?_⟩
    simp [mem_Width.f, mem_Width.j0, mem_Width.j1, mem_Width.j2, mem_Width.j3, mem_Width.j4, widthF, *, hb]

theorem width_calls (op : Int) (w : World) :
    Calls Try.prog 27 #[.int .i64 op] w fun e w' => e = .returned (.tuple #[.int .i64 (((widthF op).1 : Nat) : Int), .int .i64 (widthF op).2.1, .bool (widthF op).2.2]) ∧ Drawn0 w w' := by
  obtain ⟨k, hk⟩ := width_ev op
  exact mem_Width.calls k op _ _ _ w hk

theorem width_le (op : Int) : (widthF op).1 ≤ 8 := by
  have key : ∀ {c : Prop} [Decidable c] {a b : Nat × Int × Bool}, a.1 ≤ 8 → b.1 ≤ 8 → (if c then a else b).1 ≤ 8 := by
    intro c _ a b h1 h2
    by_cases h : c
    · rw [if_pos h]; exact h1
    · rw [if_neg h]; exact h2
  unfold widthF
  repeat (refine key (by decide) ?_)
  decide

def signedF (op : Int) : Bool := decide (op ≥ 44 ∧ op ≤ 52 ∧ op % 2 = 0)
theorem signed_calls (op : Int) (w : World) :
    Calls Try.prog 63 #[.int .i64 op] w fun e w' => e = .returned (.bool (signedF op)) ∧ Drawn0 w w' := by
  refine mem_signed.calls op _ w ?_
  unfold mem_signed.f signedF
  by_cases h1 : op ≥ 44
  · rw [if_pos h1]
    by_cases h2 : op ≤ 52
    · rw [if_pos h2]
      have : Int.tmod op 2 = op % 2 := Int.tmod_eq_emod_of_nonneg (by omega)
      rw [this]
      congr 1
      by_cases h3 : op % 2 = 0 <;> simp [h1, h2, h3]
    · rw [if_neg h2]
      simp [h2]
  · rw [if_neg h1]
    simp [h1]

/-- What the loop of a load has gathered. -/
def rawTo (L : List UInt8) : Nat → Int
  | 0 => 0
  | k + 1 => bits .or .i64 (rawTo L k) (wrap64 (((L.getD k 0).toNat : Int) * 2 ^ (8 * k)))
/-- What a load hands back. -/
def loadF (op : Int) (L : List UInt8) : Int :=
  let v := rawTo L L.length
  let v := if signedF op then wrap64 (v * 2 ^ (64 - 8 * L.length)) / 2 ^ (64 - 8 * L.length) else v
  if (widthF op).2.1 = 127 then v % 4294967296 else v

theorem MemAt.drewN {T : TypeId} {w : World} {p g cap : Nat} {S : List UInt8} {most bound : Int} (h : MemAt T w p g cap S most bound) (n : Nat) : MemAt T (w.drewN n) p g cap S most bound := ⟨h.hp, h.hg, h.ne⟩

theorem load_no {w : World} {p g cap : Nat} {S : List UInt8} {most bound : Int} {op at_ : Int} (h : MemAt 105 w p g cap S most bound) (hs : S.length ≤ 1048576)
    (hf : ((widthF op).1 == 0 || (widthF op).2.2 || !fits S.length at_ (widthF op).1) = true) :
    Calls Try.prog 35 #[.pointer (some ⟨p, 0, none⟩), .int .i64 op, .int .i64 at_] w fun e w' => e = .returned (.tuple #[.int .i64 0, .int .i64 4]) ∧ Drawn0 w w' := by
  have HM := Aside0.mk h
  have hle := width_le op
  clear h
  have HW := Aside0.mk (fun w => width_calls op w)
  have HF := Aside0.mk hf
  clear hf
  generalize (widthF op) = W at *
  obtain ⟨n, t, st⟩ := W
  replace hle : n ≤ 8 := hle
  go_enter Try.func35, Try.ntmps35
  go_wp2_with fail
  refine (HW.out w).mono ?_
  rintro e w1 ⟨rfl, ⟨d1, rfl⟩⟩
  go_wp2_with fail
  cases hff : fits S.length at_ n with
  | false =>
    refine (part_no (HM.out.drewN d1) hs hff).mono ?_
    rintro e w1 ⟨rfl, rfl⟩
    clear HF
    go_wp2_with fail
    all_goals exact bodyPost_ret (v := .tuple #[.int .i64 0, .int .i64 4]) (by simp [results, Try.results35, go_sem, *]) rfl ⟨rfl, ⟨⟨d1, rfl⟩⟩⟩
  | true =>
    have hff' := of_decide_eq_true hff
    obtain ⟨a, rfl⟩ := Int.eq_ofNat_of_zero_le hff'.1
    refine (part_yes (at_ := a) (n := n) (HM.out.drewN d1) hs (by omega)).mono ?_
    rintro e w1 ⟨off, ho, rfl, rfl⟩
    have hz : (n == 0 || st) = true := by
      have := HF.out
      simp only [hff, Bool.not_true, Bool.or_false] at this
      exact this
    clear HF ho
    cases st with
    | true =>
      clear hz
      go_wp2_with fail
      all_goals exact bodyPost_ret (v := .tuple #[.int .i64 0, .int .i64 4]) (by simp [results, Try.results35, go_sem, *]) rfl ⟨rfl, ⟨⟨d1, rfl⟩⟩⟩
    | false =>
      obtain rfl : n = 0 := by simpa using hz
      clear hz
      go_wp2_with fail
      all_goals exact bodyPost_ret (v := .tuple #[.int .i64 0, .int .i64 4]) (by simp [results, Try.results35, go_sem, *]) rfl ⟨rfl, ⟨⟨d1, rfl⟩⟩⟩

theorem rawTo_lt (L : List UInt8) : rawTo L 0 = 0 := rfl

set_option maxHeartbeats 4000000 in
theorem load_yes {w : World} {p g cap : Nat} {S : List UInt8} {most bound : Int} {op : Int} {a n : Nat} {t : Int} (h : MemAt 105 w p g cap S most bound) (hs : S.length ≤ 1048576)
    (hw : widthF op = (n, t, false)) (hn : n ≠ 0) (hf : a + n ≤ S.length) :
    Calls Try.prog 35 #[.pointer (some ⟨p, 0, none⟩), .int .i64 op, .int .i64 a] w fun e w' => e = .returned (.tuple #[.int .i64 (loadF op (getAt S a n)), .int .i64 0]) ∧ Drawn0 w w' := by
  have HM := Aside0.mk h
  have hle := width_le op
  clear h
  have HW := Aside0.mk (fun w => width_calls op w)
  have HG := Aside0.mk (fun w => signed_calls op w)
  have HL : Aside0 (loadF op (getAt S a n) = if t = 127 then (if signedF op then wrap64 (rawTo (getAt S a n) n * 2 ^ (64 - 8 * n)) / 2 ^ (64 - 8 * n) else rawTo (getAt S a n) n) % 4294967296 else (if signedF op then wrap64 (rawTo (getAt S a n) n * 2 ^ (64 - 8 * n)) / 2 ^ (64 - 8 * n) else rawTo (getAt S a n) n)) := by
    constructor
    unfold loadF
    rw [getAt_length hf, hw]
  rw [hw] at HW hle
  clear hw
  replace hle : n ≤ 8 := hle
  have hn' : ((n : Int) == 0) = false := beq_eq_false_iff_ne.mpr (by omega)
  go_enter Try.func35, Try.ntmps35
  go_wp2_with fail
  refine (HW.out w).mono ?_
  rintro e w1 ⟨rfl, ⟨d1, rfl⟩⟩
  go_wp2_with fail
  refine (part_yes (at_ := a) (n := n) (HM.out.drewN d1) hs (by omega)).mono ?_
  rintro e w1 ⟨off, ho, rfl, rfl⟩
  obtain rfl : off = a := ho hn
  clear ho
  go_wp2_with fail
  go_loopw [13, 40] (fun v13 v40 wr => ∃ k : Nat, k ≤ n ∧ v40 = .int .i64 k ∧ v13 = .int .i64 (rawTo (getAt S off n) k) ∧ wr = w.drewN d1) (fun _ v40 _ => n - (intOf v40).toNat)
  case atStart => exact ⟨0, Nat.zero_le _, rfl, rfl, rfl⟩
  case round =>
    obtain ⟨k, hk, rfl, rfl, rfl⟩ := hrel
    by_cases hlt : k < n
    · have hb : (w.drewN d1).cell? ⟨g, off + k, none⟩ = some (.int .u8 (((getAt S off n).getD k 0).toNat : Int)) := by
        have hk2 : k < (getAt S off n).length := by rw [getAt_length hf]; exact hlt
        obtain ⟨h1, h2⟩ := getAt_get hk2
        have := (HM.out.drewN d1).byte h1
        rw [this]
        simp [List.getD, hk2, h2]
      have hr : Aside0 (rawTo (getAt S off n) (k + 1) = bits .or .i64 (rawTo (getAt S off n) k) (wrap64 ((((getAt S off n).getD k 0).toNat : Int) * 2 ^ (8 * k)))) := ⟨rfl⟩
      have hc : ((((getAt S off n).getD k 0).toNat : Int)) ≤ 255 := by
        have := UInt8.toNat_lt ((getAt S off n).getD k 0)
        omega
      have hc0 : 0 ≤ ((((getAt S off n).getD k 0).toNat : Int)) := Int.natCast_nonneg _
      generalize ((((getAt S off n).getD k 0).toNat : Int)) = c at *
      generalize rawTo (getAt S off n) k = r at *
      go_wp2_with fail
      go_roundw
      case rel => exact ⟨k + 1, by omega, by go_num, by rw [hr.out], trivial⟩
      case measure => simp [intOf]; omega
    · obtain rfl : k = n := by omega
      clear hlt hk
      generalize rawTo (getAt S off k) k = r at *
      go_wp2_with fail
      refine (HG.out _).mono ?_
      rintro e w2 ⟨rfl, ⟨d2, rfl⟩⟩
      cases hsg : signedF op with
      | false =>
        have HL1 : Aside0 (loadF op (getAt S off k) = if t = 127 then r % 4294967296 else r) := ⟨by have h1 := HL.out; rw [hsg] at h1; simpa using h1⟩
        clear HL hsg
        by_cases ht : t = 127
        · subst ht
          have HL2 := Aside0.mk (HL1.out.trans (if_pos rfl))
          clear HL1
          go_wp2_with fail
          exact bodyPost_ret (v := .tuple #[.int .i64 (r % 4294967296), .int .i64 0]) (by simp [results, Try.results35, go_sem, *]) rfl ⟨by rw [HL2.out], ⟨⟨d1 + d2, rfl⟩⟩⟩
        · have HL2 := Aside0.mk (HL1.out.trans (if_neg ht))
          have ht' : (t == 127) = false := beq_eq_false_iff_ne.mpr ht
          clear HL1
          go_wp2_with fail
          exact bodyPost_ret (v := .tuple #[.int .i64 r, .int .i64 0]) (by simp [results, Try.results35, go_sem, *]) rfl ⟨by rw [HL2.out], ⟨⟨d1 + d2, rfl⟩⟩⟩
      | true =>
        have HL1 : Aside0 (loadF op (getAt S off k) = if t = 127 then (wrap64 (r * 2 ^ (64 - 8 * k)) / 2 ^ (64 - 8 * k)) % 4294967296 else wrap64 (r * 2 ^ (64 - 8 * k)) / 2 ^ (64 - 8 * k)) := ⟨by have h1 := HL.out; rw [hsg] at h1; simpa using h1⟩
        clear HL hsg
        by_cases ht : t = 127
        · subst ht
          have HL2 := Aside0.mk (HL1.out.trans (if_pos rfl))
          clear HL1
          go_wp2_with fail
          exact bodyPost_ret (v := .tuple #[.int .i64 ((wrap64 (r * 2 ^ (64 - 8 * k)) / 2 ^ (64 - 8 * k)) % 4294967296), .int .i64 0]) (by simp [results, Try.results35, go_sem, *]) rfl ⟨by rw [HL2.out], ⟨⟨d1 + d2, rfl⟩⟩⟩
        · have HL2 := Aside0.mk (HL1.out.trans (if_neg ht))
          have ht' : (t == 127) = false := beq_eq_false_iff_ne.mpr ht
          clear HL1
          go_wp2_with fail
          exact bodyPost_ret (v := .tuple #[.int .i64 (wrap64 (r * 2 ^ (64 - 8 * k)) / 2 ^ (64 - 8 * k)), .int .i64 0]) (by simp [results, Try.results35, go_sem, *]) rfl ⟨by rw [HL2.out], ⟨⟨d1 + d2, rfl⟩⟩⟩
end Go.Proofs.Ytmpmcffhlnlejaa.MemEq
