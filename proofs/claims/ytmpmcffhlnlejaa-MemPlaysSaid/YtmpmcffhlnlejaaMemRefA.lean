/- The reference's memories (scarfref04): in, May, New, Width, Read, Write, Fill. -/
import Derived.Test.YtmpmcffhlnlejaaMemRefW
import Derived.Test.YtmpmcffhlnlejaaMemCp
import Derived.Test.YtmpmcffhlnlejaaMemVal
namespace Go.Proofs.Ytmpmcffhlnlejaa.MemEq
open Go.RowKit Go.Proofs.YtmpmcffhlnlejaaW.PrintWords Go.Proofs.YtmpmcffhlnlejaaW.PrintLast Go.Proofs.YtmpmcffhlnlejaaW.PrintMore
set_option linter.unusedVariables false
set_option linter.unusedSimpArgs false

theorem rin_yes {w : World} {p g cap : Nat} {S : List UInt8} {most bound : Int} {a n : Nat} (h : MemAt 83 w p g cap S most bound) (hs : S.length ≤ 1048576) (hf : a + n ≤ S.length) :
    Calls Try.prog 83 #[.pointer (some ⟨p, 0, none⟩), .int .i64 a, .int .i64 n] w fun e w' => e = .returned (.bool true) ∧ w' = w := by
  have z0 := h.c0
  have HM := Aside0.mk h
  have d0 : decide ((a : Int) ≤ (S.length : Int)) = true := decide_eq_true (by omega)
  have d1 : decide ((n : Int) ≤ (S.length : Int) - (a : Int)) = true := decide_eq_true (by omega)
  have d2 : (0 : Int) ≤ (a : Int) := by omega
  have d3 : (0 : Int) ≤ (n : Int) := by omega
  clear h
  go_enter Try.func83, Try.ntmps83
  go_wp2_with fail
  go_ret
  exact ⟨rfl, rfl⟩
theorem rin_no {w : World} {p g cap : Nat} {S : List UInt8} {most bound at_ n : Int} (h : MemAt 83 w p g cap S most bound) (hs : S.length ≤ 1048576) (hf : fits S.length at_ n = false) :
    Calls Try.prog 83 #[.pointer (some ⟨p, 0, none⟩), .int .i64 at_, .int .i64 n] w fun e w' => e = .returned (.bool false) ∧ w' = w := by
  have z0 := h.c0
  have hf' := of_decide_eq_false hf
  clear h hf
  by_cases h0 : 0 ≤ at_
  · have e0 : decide (0 ≤ at_) = true := decide_eq_true h0
    by_cases h1 : 0 ≤ n
    · have e1 : decide (0 ≤ n) = true := decide_eq_true h1
      by_cases h2 : at_ ≤ (S.length : Int)
      · have e2 : decide (at_ ≤ (S.length : Int)) = true := decide_eq_true h2
        have e3 : decide (n ≤ (S.length : Int) - at_) = false := decide_eq_false (by omega)
        clear hf'
        go_enter Try.func83, Try.ntmps83
        go_wp2_with fail
        go_ret
        exact ⟨rfl, rfl⟩
      · have e2 : decide (at_ ≤ (S.length : Int)) = false := decide_eq_false h2
        clear hf'
        go_enter Try.func83, Try.ntmps83
        go_wp2_with fail
        go_ret
        exact ⟨rfl, rfl⟩
    · have e1 : decide (0 ≤ n) = false := decide_eq_false h1
      clear hf'
      go_enter Try.func83, Try.ntmps83
      go_wp2_with fail
      go_ret
      exact ⟨rfl, rfl⟩
  · have e0 : decide (0 ≤ at_) = false := decide_eq_false h0
    clear hf'
    go_enter Try.func83, Try.ntmps83
    go_wp2_with fail
    go_ret
    exact ⟨rfl, rfl⟩

theorem rread_no {w : World} {p g cap : Nat} {S : List UInt8} {most bound : Int} {at_ n : Int} (h : MemAt 83 w p g cap S most bound) (hs : S.length ≤ 1048576) (hf : fits S.length at_ n = false) :
    Calls Try.prog 69 #[.pointer (some ⟨p, 0, none⟩), .int .i64 at_, .int .i64 n] w fun e w' => e = .returned (.tuple #[.string ⟨#[]⟩, .int .i64 4]) ∧ w' = w := by
  have HM := Aside0.mk h
  clear h
  go_enter Try.func69, Try.ntmps69
  go_wp2_with fail
  refine (rin_no HM.out hs hf).mono ?_
  rintro e w1 ⟨rfl, rfl⟩
  go_wp2_with fail
  exact bodyPost_ret (v := .tuple #[.string ⟨#[]⟩, .int .i64 4]) (by simp [results, Try.results69, go_sem, *]) rfl ⟨rfl, rfl⟩

theorem rread_yes {w : World} {p g cap : Nat} {S : List UInt8} {most bound : Int} {a n : Nat} (h : MemAt 83 w p g cap S most bound) (hs : S.length ≤ 1048576) (hf : a + n ≤ S.length) :
    Calls Try.prog 69 #[.pointer (some ⟨p, 0, none⟩), .int .i64 a, .int .i64 n] w fun e w' => e = .returned (.tuple #[.string ⟨(getAt S a n).toArray⟩, .int .i64 0]) ∧ w' = w := by
  have z0 := h.c0
  have hle := h.le
  have HM := Aside0.mk h
  clear h
  go_enter Try.func69, Try.ntmps69
  go_wp2_with fail
  refine (rin_yes HM.out hs hf).mono ?_
  rintro e w1 ⟨rfl, rfl⟩
  have v1 : IntKind.i64.wrap ((a : Int) + (n : Int)) = (a : Int) + (n : Int) := IntWalk.i64_in _ (by omega)
  by_cases hq : cap = a
  · have hn : n = 0 := by omega
    subst hn
    have hc : ∀ c, (convert 81 9 (.slice (some ⟨g, 0, none⟩) 0 c)).run Try.prog w1 = .ok (.string ⟨(getAt S a 0).toArray⟩) w1 := by
      intro c
      have := run_convert_bytes_back (P := Try.prog) w1 81 9 5 ⟨g, 0, none⟩ c (getAt S a 0) Try.underlying81 Try.underlying5 Try.underlying9 (fun j hj => by
        rw [getAt_length hf] at hj
        omega)
      rwa [getAt_length hf] at this
    subst hq
    go_wp2_with fail
    exact bodyPost_ret (v := .tuple #[.string ⟨(getAt S cap 0).toArray⟩, .int .i64 0]) (by simp [results, Try.results69, go_sem, *]) rfl ⟨rfl, rfl⟩
  · have hc : ∀ c, (convert 81 9 (.slice (some ⟨g, a, none⟩) n c)).run Try.prog w1 = .ok (.string ⟨(getAt S a n).toArray⟩) w1 := by
      intro c
      have := run_convert_bytes_back (P := Try.prog) w1 81 9 5 ⟨g, a, none⟩ c (getAt S a n) Try.underlying81 Try.underlying5 Try.underlying9 (fun j hj => by
        obtain ⟨h1, h2⟩ := getAt_get hj
        rw [h2, addr_add]
        exact HM.out.byte h1)
      rwa [getAt_length hf] at this
    go_wp2_with fail
    exact bodyPost_ret (v := .tuple #[.string ⟨(getAt S a n).toArray⟩, .int .i64 0]) (by simp [results, Try.results69, go_sem, *]) rfl ⟨rfl, rfl⟩

theorem rfill_no {w : World} {p g cap : Nat} {S : List UInt8} {most bound : Int} {at_ v n : Int} (h : MemAt 83 w p g cap S most bound) (hs : S.length ≤ 1048576) (hf : fits S.length at_ n = false) :
    Calls Try.prog 70 #[.pointer (some ⟨p, 0, none⟩), .int .i64 at_, .int .i64 v, .int .i64 n] w fun e w' => e = .returned (.int .i64 4) ∧ w' = w := by
  have HM := Aside0.mk h
  clear h
  go_enter Try.func70, Try.ntmps70
  go_wp2_with fail
  refine (rin_no HM.out hs hf).mono ?_
  rintro e w1 ⟨rfl, rfl⟩
  go_wp2_with fail
  go_ret
  exact ⟨rfl, rfl⟩

theorem and255 (v : Int) : Go.bits .and .i64 v 255 = v % 256 := and_mask v 8 (by decide)

set_option maxHeartbeats 4000000 in
theorem rfill_yes {w : World} {p g cap : Nat} {S : List UInt8} {most bound : Int} {v : Int} {a n : Nat} (h : MemAt 83 w p g cap S most bound) (hs : S.length ≤ 1048576)
    (hf : a + n ≤ S.length) :
    Calls Try.prog 70 #[.pointer (some ⟨p, 0, none⟩), .int .i64 a, .int .i64 v, .int .i64 n] w fun e w' => e = .returned (.int .i64 0) ∧ MemAt 83 w' p g cap (splice S a (List.replicate n (byteOf v 0))) most bound ∧ Turned p g w w' := by
  have HM := Aside0.mk h
  have A255 := and255 v
  clear h
  go_enter Try.func70, Try.ntmps70
  go_wp2_with fail
  refine (rin_yes HM.out hs hf).mono ?_
  rintro e w1 ⟨rfl, rfl⟩
  go_wp2_with fail
  go_loopw [9] (fun v9 wr => ∃ k : Nat, k ≤ n ∧ v9 = .int .i64 k ∧ Aside0 (MemAt 83 wr p g cap (splice S a (List.replicate k (byteOf v 0))) most bound) ∧ Aside0 (Turned p g w1 wr)) (fun v9 _ => n - (intOf v9).toNat)
  case atStart => exact ⟨0, Nat.zero_le _, rfl, ⟨by rw [show List.replicate 0 (byteOf v 0) = [] from rfl, splice_nil]; exact HM.out⟩, ⟨Turned.refl _ _ _⟩⟩
  case round =>
    obtain ⟨k, hk, rfl, HM1, HT1⟩ := hrel
    by_cases hlt : k < n
    · have hl0 : (splice S a (List.replicate k (byteOf v 0))).length = S.length := length_splice S a _ (by rw [List.length_replicate]; omega)
      have hl1 : a + k < (splice S a (List.replicate k (byteOf v 0))).length := by omega
      obtain ⟨u0, z0⟩ : ∃ u, wr.cell? ⟨g, a + k, none⟩ = some u := ⟨_, HM1.out.byte hl1⟩
      have zs : wr.cell? ⟨p, 0, none⟩ = some (.slice (some ⟨g, 0, none⟩) S.length cap) := by rw [HM1.out.c0, hl0]
      have f0 : wr.frozen? ⟨g, a + k, none⟩ = false := blk_frozen HM1.out.hg.choose_spec.1 _
      obtain ⟨R1, R2⟩ := put_step (byteOf v 0) (List.length_replicate) HM1.out HT1.out (by omega)
      rw [← rep_succ, byteOf_zero] at R1
      rw [byteOf_zero] at R2
      have v1 : IntKind.i64.wrap ((a : Int) + (k : Int)) = (a : Int) + (k : Int) := IntWalk.i64_in _ (by omega)
      have v2 : ((a : Int) + (k : Int)).toNat = a + k := by omega
      have v3 : (a : Int) + (k : Int) < (S.length : Int) := by omega
      clear HM1 HT1 hl1 hl0
      go_wp2_with fail
      go_roundw
      case rel => exact ⟨k + 1, by omega, by go_num, R1, R2⟩
      case measure => simp [intOf]; omega
    · obtain rfl : k = n := by omega
      go_wp2_with fail
      go_ret
      exact ⟨rfl, HM1.out, HT1.out⟩
end Go.Proofs.Ytmpmcffhlnlejaa.MemEq
