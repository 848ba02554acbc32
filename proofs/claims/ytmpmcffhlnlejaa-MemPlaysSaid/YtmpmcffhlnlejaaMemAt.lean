/- Memories (package mem): where one lies, and its functions that read. -/
import Derived.Test.YtmpmcffhlnlejaaPMemBackx1
import Derived.Laws.IdiomStrings
import Derived.Laws.CopyOwn
namespace Go.Proofs.Ytmpmcffhlnlejaa.MemEq
open Go.RowKit Go.Proofs.YtmpmcffhlnlejaaW.PrintWords Go.Proofs.YtmpmcffhlnlejaaW.PrintLast Go.Proofs.YtmpmcffhlnlejaaW.PrintMore
set_option linter.unusedVariables false
set_option linter.unusedSimpArgs false

/-- Bytes, as cells. -/
def bz (S : List UInt8) : List Value := S.map fun b => .int .u8 (b.toNat : Int)
theorem bz_length (S : List UInt8) : (bz S).length = S.length := by simp [bz]
theorem bz_append (S R : List UInt8) : bz (S ++ R) = bz S ++ bz R := by simp [bz]
theorem bz_one (S : List UInt8) : ∀ v ∈ bz S, v.oneCell' = true := by
  intro v hv
  obtain ⟨_, _, rfl⟩ := List.mem_map.1 hv
  rfl

/-- Where a memory lies: p: its struct, of type T; g: its bytes. -/
structure MemAt (T : TypeId) (w : World) (p g cap : Nat) (S : List UInt8) (most bound : Int) : Prop where
  hp : w.heap[p]? = some (.cells #[.slice (some ⟨g, 0, none⟩) S.length cap, .int .i64 most, .int .i64 bound] T (0, 0))
  hg : ∃ cur, w.heap[g]? = some (.cells (bz S ++ cur).toArray 5 (0, 0)) ∧ S.length + cur.length = cap
  ne : p ≠ g

/-- All but two blocks is as it was. -/
structure Turned (p g : Nat) (w w' : World) : Prop where
  os : w'.os = w.os
  tape : w'.tape = w.tape
  output : w'.output = w.output
  size : w.heap.size ≤ w'.heap.size
  block : ∀ k, k < w.heap.size → k ≠ p → k ≠ g → w'.heap[k]? = w.heap[k]?

section
variable {T : TypeId} {w w' w2 : World} {p g cap : Nat} {S : List UInt8} {most bound : Int}
theorem Turned.refl (p g : Nat) (w : World) : Turned p g w w := ⟨rfl, rfl, rfl, Nat.le_refl _, fun _ _ _ _ => rfl⟩
theorem Turned.trans (h : Turned p g w w') (k : Turned p g w' w2) : Turned p g w w2 :=
  ⟨k.os.trans h.os, k.tape.trans h.tape, k.output.trans h.output, Nat.le_trans h.size k.size, fun i hi h1 h2 => (k.block i (Nat.lt_of_lt_of_le hi h.size) h1 h2).trans (h.block i hi h1 h2)⟩
theorem Turned.below (h : Turned p g w w') {B : Nat} (hp : B ≤ p) (hg : B ≤ g) (hB : B ≤ w.heap.size) : Below B w w' :=
  ⟨h.os, h.tape, h.output, h.size, fun k hk => h.block k (by omega) (by omega) (by omega)⟩
theorem MemAt.lt (h : MemAt T w p g cap S most bound) : p < w.heap.size ∧ g < w.heap.size := ⟨blk_lt h.hp, blk_lt h.hg.choose_spec.1⟩
theorem MemAt.kept (h : MemAt T w p g cap S most bound) {p' g' : Nat} (k : Turned p' g' w w') (h1 : p ≠ p') (h2 : p ≠ g') (h3 : g ≠ p') (h4 : g ≠ g') : MemAt T w' p g cap S most bound := by
  obtain ⟨hp, ⟨cur, hg, hc⟩, ne⟩ := h
  exact ⟨(k.block p (blk_lt hp) h1 h2).trans hp, ⟨cur, (k.block g (blk_lt hg) h3 h4).trans hg, hc⟩, ne⟩
theorem MemAt.below (h : MemAt T w p g cap S most bound) (k : Below w.heap.size w w') : MemAt T w' p g cap S most bound := by
  obtain ⟨hp, ⟨cur, hg, hc⟩, ne⟩ := h
  exact ⟨blk_below hp k, ⟨cur, blk_below hg k, hc⟩, ne⟩
theorem MemAt.c0 (h : MemAt T w p g cap S most bound) : w.cell? ⟨p, 0, none⟩ = some (.slice (some ⟨g, 0, none⟩) S.length cap) := (blk_cell h.hp 0).trans rfl
theorem MemAt.c1 (h : MemAt T w p g cap S most bound) : w.cell? ⟨p, 1, none⟩ = some (.int .i64 most) := (blk_cell h.hp 1).trans rfl
theorem MemAt.c2 (h : MemAt T w p g cap S most bound) : w.cell? ⟨p, 2, none⟩ = some (.int .i64 bound) := (blk_cell h.hp 2).trans rfl
theorem MemAt.byte (h : MemAt T w p g cap S most bound) {j : Nat} (hj : j < S.length) : w.cell? ⟨g, j, none⟩ = some (.int .u8 (S[j].toNat : Int)) := by
  obtain ⟨_, ⟨cur, hg, hc⟩, _⟩ := h
  rw [blk_cell hg]
  simp [bz, List.getElem?_append_left, hj]
theorem MemAt.le (h : MemAt T w p g cap S most bound) : S.length ≤ cap := by
  obtain ⟨_, ⟨cur, hg, hc⟩, _⟩ := h
  omega
end

theorem bytes_calls {w : World} {p g cap : Nat} {S : List UInt8} {most bound : Int} (h : MemAt 105 w p g cap S most bound) :
    Calls Try.prog 73 #[.pointer (some ⟨p, 0, none⟩)] w fun e w' => e = .returned (.slice (some ⟨g, 0, none⟩) S.length cap) ∧ w' = w := by
  have z0 := h.c0
  have HM := Aside0.mk h
  clear h
  go_enter Try.func73, Try.ntmps73
  go_wp2_with fail
  go_ret
  exact ⟨rfl, rfl⟩
theorem bytes_none {w : World} :
    Calls Try.prog 73 #[.pointer none] w fun e w' => e = .returned (.slice none 0 0) ∧ w' = w := by
  go_enter Try.func73, Try.ntmps73
  go_wp2_with fail
  go_ret
  exact ⟨rfl, rfl⟩

/-- Are these bytes there? -/
def fits (l : Nat) (at_ n : Int) : Bool := decide (0 ≤ at_ ∧ 0 ≤ n ∧ at_ ≤ (l : Int) ∧ n ≤ (l : Int) - at_)

theorem part_no {w : World} {p g cap : Nat} {S : List UInt8} {most bound : Int} {at_ n : Int} (h : MemAt 105 w p g cap S most bound) (hs : S.length ≤ 1048576) (hf : fits S.length at_ n = false) :
    Calls Try.prog 62 #[.pointer (some ⟨p, 0, none⟩), .int .i64 at_, .int .i64 n] w fun e w' => e = .returned (.tuple #[.slice none 0 0, .bool false]) ∧ w' = w := by
  have HM := Aside0.mk h
  have hf' := of_decide_eq_false hf
  clear h hf
  go_enter Try.func62, Try.ntmps62
  go_wp2_with fail
  refine (bytes_calls HM.out).mono ?_
  rintro e w1 ⟨rfl, rfl⟩
  go_wp2_with fail
  all_goals first
    | (exfalso; omega)
    | (exact bodyPost_ret (v := .tuple #[.slice none 0 0, .bool false]) (by simp [results, Try.results62, go_sem, *]) rfl ⟨rfl, rfl⟩)

theorem part_yes {w : World} {p g cap : Nat} {S : List UInt8} {most bound : Int} {at_ n : Nat} (h : MemAt 105 w p g cap S most bound) (hs : S.length ≤ 1048576) (hf : at_ + n ≤ S.length) :
    Calls Try.prog 62 #[.pointer (some ⟨p, 0, none⟩), .int .i64 at_, .int .i64 n] w fun e w' => ∃ off : Nat, (n ≠ 0 → off = at_) ∧ e = .returned (.tuple #[.slice (some ⟨g, off, none⟩) n n, .bool true]) ∧ w' = w := by
  have hle := h.le
  have HM := Aside0.mk h
  clear h
  go_enter Try.func62, Try.ntmps62
  go_wp2_with fail
  refine (bytes_calls HM.out).mono ?_
  rintro e w1 ⟨rfl, rfl⟩
  go_wp2_with fail
  · have hn : n = 0 := by omega
    subst hn
    exact bodyPost_ret (v := .tuple #[.slice (some ⟨g, 0, none⟩) 0 0, .bool true]) (by simp [results, Try.results62, go_sem, *]) rfl ⟨0, fun h => absurd rfl h, rfl, rfl⟩
  · exact bodyPost_ret (v := .tuple #[.slice (some ⟨g, at_, none⟩) n n, .bool true]) (by simp [results, Try.results62, go_sem, *]) rfl (by first | exact ⟨rfl, rfl⟩ | exact ⟨at_, fun _ => rfl, rfl, rfl⟩)

theorem part_none {w : World} {at_ n : Int} (hw1 : at_ ≤ 9223372036854775807) (hw0 : -9223372036854775808 ≤ at_) (hf : fits 0 at_ n = false) :
    Calls Try.prog 62 #[.pointer none, .int .i64 at_, .int .i64 n] w fun e w' => e = .returned (.tuple #[.slice none 0 0, .bool false]) ∧ w' = w := by
  have hf' := of_decide_eq_false hf
  clear hf
  go_enter Try.func62, Try.ntmps62
  go_wp2_with fail
  refine bytes_none.mono ?_
  rintro e w1 ⟨rfl, rfl⟩
  go_wp2_with fail
  all_goals first
    | (exfalso; omega)
    | (exact bodyPost_ret (v := .tuple #[.slice none 0 0, .bool false]) (by simp [results, Try.results62, go_sem, *]) rfl ⟨rfl, rfl⟩)
theorem part_none0 {w : World} :
    Calls Try.prog 62 #[.pointer none, .int .i64 0, .int .i64 0] w fun e w' => e = .returned (.tuple #[.slice none 0 0, .bool true]) ∧ w' = w := by
  go_enter Try.func62, Try.ntmps62
  go_wp2_with fail
  refine bytes_none.mono ?_
  rintro e w1 ⟨rfl, rfl⟩
  go_wp2_with fail
  exact bodyPost_ret (v := .tuple #[.slice none 0 0, .bool true]) (by simp [results, Try.results62, go_sem, *]) rfl ⟨rfl, rfl⟩

/-- Some bytes. -/
def getAt (S : List UInt8) (at_ n : Nat) : List UInt8 := (S.drop at_).take n
theorem getAt_length {S : List UInt8} {at_ n : Nat} (h : at_ + n ≤ S.length) : (getAt S at_ n).length = n := by simp [getAt]; omega
theorem getAt_get {S : List UInt8} {at_ n j : Nat} (hj : j < (getAt S at_ n).length) : ∃ h : at_ + j < S.length, (getAt S at_ n)[j] = S[at_ + j] := by
  have : j < n ∧ j < S.length - at_ := by
    have h2 : j < min n (S.length - at_) := by simpa [getAt] using hj
    omega
  exact ⟨by omega, by simp [getAt]⟩

theorem addr_add (g o j : Nat) : (⟨g, o, none⟩ : Addr).add j = ⟨g, o + j, none⟩ := by unfold Addr.add; split <;> simp_all

theorem read_no {w : World} {p g cap : Nat} {S : List UInt8} {most bound : Int} {at_ n : Int} (h : MemAt 105 w p g cap S most bound) (hs : S.length ≤ 1048576) (hf : fits S.length at_ n = false) :
    Calls Try.prog 33 #[.pointer (some ⟨p, 0, none⟩), .int .i64 at_, .int .i64 n] w fun e w' => e = .returned (.tuple #[.string ⟨#[]⟩, .int .i64 4]) ∧ w' = w := by
  have HM := Aside0.mk h
  clear h
  go_enter Try.func33, Try.ntmps33
  go_wp2_with fail
  refine (part_no HM.out hs hf).mono ?_
  rintro e w1 ⟨rfl, rfl⟩
  go_wp2_with fail
  exact bodyPost_ret (v := .tuple #[.string ⟨#[]⟩, .int .i64 4]) (by simp [results, Try.results33, go_sem, *]) rfl ⟨rfl, rfl⟩

theorem read_yes {w : World} {p g cap : Nat} {S : List UInt8} {most bound : Int} {at_ n : Nat} (h : MemAt 105 w p g cap S most bound) (hs : S.length ≤ 1048576) (hf : at_ + n ≤ S.length) :
    Calls Try.prog 33 #[.pointer (some ⟨p, 0, none⟩), .int .i64 at_, .int .i64 n] w fun e w' => e = .returned (.tuple #[.string ⟨(getAt S at_ n).toArray⟩, .int .i64 0]) ∧ w' = w := by
  have HM := Aside0.mk h
  clear h
  go_enter Try.func33, Try.ntmps33
  go_wp2_with fail
  refine (part_yes HM.out hs hf).mono ?_
  rintro e w1 ⟨off, ho, rfl, rfl⟩
  have hc : (convert 81 9 (.slice (some ⟨g, off, none⟩) n n)).run Try.prog w1 = .ok (.string ⟨(getAt S at_ n).toArray⟩) w1 := by
    have := run_convert_bytes_back (P := Try.prog) w1 81 9 5 ⟨g, off, none⟩ n (getAt S at_ n) Try.underlying81 Try.underlying5 Try.underlying9 (fun j hj => by
      obtain ⟨h1, h2⟩ := getAt_get hj
      rw [getAt_length hf] at hj
      rw [h2, addr_add, ho (by omega)]
      exact HM.out.byte h1)
    rwa [getAt_length hf] at this
  go_wp2_with fail
  exact bodyPost_ret (v := .tuple #[.string ⟨(getAt S at_ n).toArray⟩, .int .i64 0]) (by simp [results, Try.results33, go_sem, *]) rfl ⟨rfl, rfl⟩

theorem pages_calls {w : World} {p g cap : Nat} {S : List UInt8} {most bound : Int} (h : MemAt 105 w p g cap S most bound) (hs : S.length ≤ 1048576) :
    Calls Try.prog 45 #[.pointer (some ⟨p, 0, none⟩)] w fun e w' => e = .returned (.int .i64 ((S.length / 65536 : Nat) : Int)) ∧ w' = w := by
  have HM := Aside0.mk h
  clear h
  go_enter Try.func45, Try.ntmps45
  go_wp2_with fail
  refine (bytes_calls HM.out).mono ?_
  rintro e w1 ⟨rfl, rfl⟩
  go_wp2_with fail
  go_ret
  exact ⟨rfl, rfl⟩
theorem pages_none {w : World} :
    Calls Try.prog 45 #[.pointer none] w fun e w' => e = .returned (.int .i64 0) ∧ w' = w := by
  go_enter Try.func45, Try.ntmps45
  go_wp2_with fail
  refine bytes_none.mono ?_
  rintro e w1 ⟨rfl, rfl⟩
  go_wp2_with fail
  go_ret
  exact ⟨rfl, rfl⟩
theorem most_calls {w : World} {p g cap : Nat} {S : List UInt8} {most bound : Int} (h : MemAt 105 w p g cap S most bound) :
    Calls Try.prog 46 #[.pointer (some ⟨p, 0, none⟩)] w fun e w' => e = .returned (.int .i64 bound) ∧ w' = w := by
  have z2 := h.c2
  have HM := Aside0.mk h
  clear h
  go_enter Try.func46, Try.ntmps46
  go_wp2_with fail
  go_ret
  exact ⟨rfl, rfl⟩
theorem most_none {w : World} :
    Calls Try.prog 46 #[.pointer none] w fun e w' => e = .returned (.int .i64 0) ∧ w' = w := by
  go_enter Try.func46, Try.ntmps46
  go_wp2_with fail
  go_ret
  exact ⟨rfl, rfl⟩
end Go.Proofs.Ytmpmcffhlnlejaa.MemEq
