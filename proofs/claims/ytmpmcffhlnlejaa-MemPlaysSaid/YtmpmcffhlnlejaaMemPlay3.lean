/- scarflaw04.step whole, scarflaw04.Same, (*mem.Mem).Clone. -/
import Derived.Test.YtmpmcffhlnlejaaMemPlay2
namespace Go.Proofs.Ytmpmcffhlnlejaa.MemEq
open Go.RowKit Go.Proofs.YtmpmcffhlnlejaaW.PrintWords Go.Proofs.YtmpmcffhlnlejaaW.PrintLast Go.Proofs.YtmpmcffhlnlejaaW.PrintMore
open Go.Proofs.Ytmpmcffhlnlejaa.PMemBack
set_option linter.unusedVariables false
set_option linter.unusedSimpArgs false

theorem step_calls {K : Nat → Prop} {B : Nat} {w : World} {m r o q : Nat} {M b : Int} (x : S79) (h : StepInv K B w m r o q M b) (hM : -1 ≤ M ∧ M ≤ 16) (hB : B ≤ w.heap.size) :
    Calls Try.prog 41 #[.pointer (some ⟨m, 0, none⟩), .pointer (some ⟨o, 0, none⟩), .pointer (some ⟨r, 0, none⟩), .pointer (some ⟨q, 0, none⟩), .agg #[.int .i64 x.f0, .int .i64 x.f1, .int .i64 x.f2, .int .i64 x.f3, .int .i64 x.f4, .int .i64 x.f5, .string x.f6, .bool x.f7]] w
      fun e w' => e = .returned (.bool true) ∧ StepInv K B w' m r o q M b ∧ Kept8 K B w w' := by
  by_cases h0 : x.f0 = 0
  · exact step_0 x h hM hB h0
  by_cases h1 : x.f0 = 1
  · exact step_1 x h hM hB h1
  by_cases h2 : x.f0 = 2
  · exact step_2 x h hM hB h2
  by_cases h3 : x.f0 = 3
  · exact step_3 x h hM hB h3
  by_cases h4 : x.f0 = 4
  · exact step_4 x h hM hB h4
  by_cases h5 : x.f0 = 5
  · exact step_5 x h hM hB h5
  by_cases h6 : x.f0 = 6
  · exact step_6 x h hM hB h6
  by_cases h7 : x.f0 = 7
  · exact step_7 x h hM hB h7
  by_cases h8 : x.f0 = 8
  · exact step_8 x h hM hB h8
  exact step_9 x h hM hB ⟨h0, h1, h2, h3, h4, h5, h6, h7, h8⟩

/-- A memory reads as these bytes. -/
def Reads (w : World) (p : Nat) (S : List UInt8) (b : Int) : Prop :=
  (Calls Try.prog 33 #[.pointer (some ⟨p, 0, none⟩), .int .i64 0, .int .i64 (S.length : Int)] w fun e w' => e = .returned (.tuple #[.string ⟨S.toArray⟩, .int .i64 0]) ∧ w' = w) ∧
  (Calls Try.prog 33 #[.pointer (some ⟨p, 0, none⟩), .int .i64 0, .int .i64 ((S.length : Int) + 1)] w fun e w' => e = .returned (.tuple #[.string ⟨#[]⟩, .int .i64 4]) ∧ w' = w) ∧
  (Calls Try.prog 45 #[.pointer (some ⟨p, 0, none⟩)] w fun e w' => e = .returned (.int .i64 ((S.length / 65536 : Nat) : Int)) ∧ w' = w) ∧
  (Calls Try.prog 46 #[.pointer (some ⟨p, 0, none⟩)] w fun e w' => e = .returned (.int .i64 b) ∧ w' = w)

theorem MemAt.reads {w : World} {p g cap : Nat} {S : List UInt8} {most bound : Int} (h : MemAt 105 w p g cap S most bound) (hs : S.length ≤ 1048576) : Reads w p S bound := by
  refine ⟨?_, ?_, pages_calls h hs, most_calls h⟩
  · have := read_yes (at_ := 0) (n := S.length) h hs (by omega)
    rwa [show getAt S 0 S.length = S by simp [getAt]] at this
  · exact read_no h hs (decide_eq_false (by omega))

/-- A memory of no bytes, as a clone has it. -/
def NoneAt (w : World) (p : Nat) (most bound : Int) : Prop := w.heap[p]? = some (.cells #[.slice none 0 0, .int .i64 most, .int .i64 bound] 105 (0, 0))
theorem bytes_n {w : World} {p : Nat} {most bound : Int} (h : NoneAt w p most bound) :
    Calls Try.prog 73 #[.pointer (some ⟨p, 0, none⟩)] w fun e w' => e = .returned (.slice none 0 0) ∧ w' = w := by
  have z0 : w.cell? ⟨p, 0, none⟩ = some (.slice none 0 0) := (blk_cell h 0).trans rfl
  clear h
  go_enter Try.func73, Try.ntmps73
  go_wp2_with fail
  go_ret
  exact ⟨rfl, rfl⟩
theorem part_n0 {w : World} {p : Nat} {most bound : Int} (h : NoneAt w p most bound) :
    Calls Try.prog 62 #[.pointer (some ⟨p, 0, none⟩), .int .i64 0, .int .i64 0] w fun e w' => e = .returned (.tuple #[.slice none 0 0, .bool true]) ∧ w' = w := by
  have H := Aside0.mk h
  clear h
  go_enter Try.func62, Try.ntmps62
  go_wp2_with fail
  refine (bytes_n H.out).mono ?_
  rintro e w1 ⟨rfl, rfl⟩
  go_wp2_with fail
  exact bodyPost_ret (v := .tuple #[.slice none 0 0, .bool true]) (by simp [results, Try.results62, go_sem, *]) rfl ⟨rfl, rfl⟩
theorem part_n1 {w : World} {p : Nat} {most bound : Int} (h : NoneAt w p most bound) :
    Calls Try.prog 62 #[.pointer (some ⟨p, 0, none⟩), .int .i64 0, .int .i64 1] w fun e w' => e = .returned (.tuple #[.slice none 0 0, .bool false]) ∧ w' = w := by
  have H := Aside0.mk h
  clear h
  go_enter Try.func62, Try.ntmps62
  go_wp2_with fail
  refine (bytes_n H.out).mono ?_
  rintro e w1 ⟨rfl, rfl⟩
  go_wp2_with fail
  exact bodyPost_ret (v := .tuple #[.slice none 0 0, .bool false]) (by simp [results, Try.results62, go_sem, *]) rfl ⟨rfl, rfl⟩
theorem NoneAt.reads {w : World} {p : Nat} {most bound : Int} (h : NoneAt w p most bound) : Reads w p [] bound := by
  have H := Aside0.mk h
  have z2 : w.cell? ⟨p, 2, none⟩ = some (.int .i64 bound) := (blk_cell h 2).trans rfl
  clear h
  refine ⟨?_, ?_, ?_, ?_⟩
  · show Calls Try.prog 33 #[.pointer (some ⟨p, 0, none⟩), .int .i64 0, .int .i64 0] w fun e w' => e = .returned (.tuple #[.string ⟨#[]⟩, .int .i64 0]) ∧ w' = w
    have hc : (convert 81 9 (.slice none 0 0)).run Try.prog w = .ok (.string ⟨#[]⟩) w := by kernel_rfl
    go_enter Try.func33, Try.ntmps33
    go_wp2_with fail
    refine (part_n0 H.out).mono ?_
    rintro e w1 ⟨rfl, rfl⟩
    go_wp2_with fail
    exact bodyPost_ret (v := .tuple #[.string ⟨#[]⟩, .int .i64 0]) (by simp [results, Try.results33, go_sem, *]) rfl ⟨rfl, rfl⟩
  · show Calls Try.prog 33 #[.pointer (some ⟨p, 0, none⟩), .int .i64 0, .int .i64 1] w fun e w' => e = .returned (.tuple #[.string ⟨#[]⟩, .int .i64 4]) ∧ w' = w
    go_enter Try.func33, Try.ntmps33
    go_wp2_with fail
    refine (part_n1 H.out).mono ?_
    rintro e w1 ⟨rfl, rfl⟩
    go_wp2_with fail
    exact bodyPost_ret (v := .tuple #[.string ⟨#[]⟩, .int .i64 4]) (by simp [results, Try.results33, go_sem, *]) rfl ⟨rfl, rfl⟩
  · show Calls Try.prog 45 #[.pointer (some ⟨p, 0, none⟩)] w fun e w' => e = .returned (.int .i64 0) ∧ w' = w
    go_enter Try.func45, Try.ntmps45
    go_wp2_with fail
    refine (bytes_n H.out).mono ?_
    rintro e w1 ⟨rfl, rfl⟩
    go_wp2_with fail
    go_ret
    exact ⟨rfl, rfl⟩
  · go_enter Try.func46, Try.ntmps46
    go_wp2_with fail
    go_ret
    exact ⟨rfl, rfl⟩

set_option maxHeartbeats 4000000 in
set_option maxRecDepth 100000 in
theorem same_calls {w : World} {p r gr cr : Nat} {S : List UInt8} {M b : Int} (hr : ∀ n, Reads (w.drewN n) p S b) (hm : MemAt 83 w r gr cr S M b) (hs : S.length ≤ 1048576) :
    Calls Try.prog 43 #[.pointer (some ⟨p, 0, none⟩), .pointer (some ⟨r, 0, none⟩)] w fun e w' => e = .returned (.bool true) ∧ Drawn0 w w' := by
  have HR1 := Aside0.mk (fun n => (hr n).1)
  have HR2 := Aside0.mk (fun n => (hr n).2.1)
  have HR3 := Aside0.mk (fun n => (hr n).2.2.1)
  have HR4 := Aside0.mk (fun n => (hr n).2.2.2)
  have HM := Aside0.mk hm
  have z0 := hm.c0
  have z2 := hm.c2
  have hc : ∀ n, (convert 81 9 (.slice (some ⟨gr, 0, none⟩) S.length cr)).run Try.prog (w.drewN n) = .ok (.string ⟨S.toArray⟩) (w.drewN n) := by
    intro n
    exact run_convert_bytes_back (P := Try.prog) (w.drewN n) 81 9 5 ⟨gr, 0, none⟩ cr S Try.underlying81 Try.underlying5 Try.underlying9 (fun j hj => by
      rw [addr_add, Nat.zero_add]
      exact (HM.out.drewN n).byte hj)
  have HC := Aside0.mk hc
  clear hr hm hc
  have v1 : IntKind.i64.wrap ((S.length : Int) + 1) = (S.length : Int) + 1 := IntWalk.i64_in _ (by omega)
  have hdiv : ((S.length : Int) / 65536) = ((S.length / 65536 : Nat) : Int) := by omega
  have htd : Int.tdiv (S.length : Int) 65536 = ((S.length / 65536 : Nat) : Int) := by rw [Int.tdiv_eq_ediv_of_nonneg (by omega)]; exact hdiv
  have hpg : S.length / 65536 ≤ 16 := by omega
  generalize S.length / 65536 = pg at *
  have hwp : IntKind.i64.wrap (pg : Int) = (pg : Int) := IntWalk.i64_in _ (by omega)
  go_enter Try.func43, Try.ntmps43
  go_wp2_with fail
  refine (HR1.out 0).mono ?_
  rintro e w1 ⟨rfl, rfl⟩
  go_wp2_with fail
  refine (HR2.out 0).mono ?_
  rintro e w1 ⟨rfl, rfl⟩
  have hc1 := HC.out 1
  have q0 : ((⟨S.toArray⟩ : ByteArray).toList == (⟨S.toArray⟩ : ByteArray).toList) = true := beq_self_eq_true _
  generalize (⟨S.toArray⟩ : ByteArray) = str at *
  go_wp2_with fail
  go_region_held3 (fun w' => w'.cell? ⟨r, 0, none⟩ = some (.slice (some ⟨gr, 0, none⟩) S.length cr) ∧ w'.cell? ⟨r, 2, none⟩ = some (.int .i64 b) ∧ (convert 81 9 (.slice (some ⟨gr, 0, none⟩) S.length cr)).run Try.prog w' = .ok (.string str) w')
    (exact ⟨z0, z2, hc1⟩)
    (first
      | (go_at_call 45; refine (HR3.out 1).mono ?_; rintro e w1 ⟨rfl, rfl⟩)
      | (go_at_call 46; refine (HR4.out 1).mono ?_; rintro e w1 ⟨rfl, rfl⟩))
  go_wp2_with fail
  go_ret
  exact ⟨rfl, ⟨⟨1, rfl⟩⟩⟩
end Go.Proofs.Ytmpmcffhlnlejaa.MemEq
