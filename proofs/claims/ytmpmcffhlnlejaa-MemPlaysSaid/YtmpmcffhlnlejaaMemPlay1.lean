/- What each deed comes to, by both packages: one plain function for both. -/
import Derived.Test.YtmpmcffhlnlejaaMemRefD
namespace Go.Proofs.Ytmpmcffhlnlejaa.MemEq
open Go.RowKit Go.Proofs.YtmpmcffhlnlejaaW.PrintWords Go.Proofs.YtmpmcffhlnlejaaW.PrintLast Go.Proofs.YtmpmcffhlnlejaaW.PrintMore
set_option linter.unusedVariables false
set_option linter.unusedSimpArgs false

/-- What becomes of one memory. -/
def Post (T : TypeId) (w : World) (p g : Nat) (S : List UInt8) (most bound : Int) (w' : World) : Prop :=
  ∃ g' cap', (g' = g ∨ g' = w.heap.size) ∧ MemAt T w' p g' cap' S most bound ∧ Turned p g w w'
section
variable {T : TypeId} {w w' : World} {p g cap : Nat} {S S' : List UInt8} {most bound : Int}
theorem Post.same (h : MemAt T w p g cap S most bound) : Post T w p g S most bound w := ⟨g, cap, .inl rfl, h, Turned.refl _ _ _⟩
theorem Post.of (h : MemAt T w' p g cap S' most bound) (t : Turned p g w w') : Post T w p g S' most bound w' := ⟨g, cap, .inl rfl, h, t⟩
theorem Post.below (h : MemAt T w p g cap S most bound) (b : Below w.heap.size w w') : Post T w p g S most bound w' := ⟨g, cap, .inl rfl, h.below b, Turned.ofBelow b⟩
theorem Post.drawn (h : MemAt T w p g cap S most bound) (b : Drawn0 w w') : Post T w p g S most bound w' := by
  obtain ⟨⟨d, rfl⟩⟩ := b
  exact ⟨g, cap, .inl rfl, h.drewN d, Turned.drewN d⟩
end

def storeF (S : List UInt8) (op at_ v : Int) : List UInt8 × Int :=
  if (widthF op).2.2 && fits S.length at_ (widthF op).1 then (splice S at_.toNat (stB v (widthF op).1), 0) else (S, 4)
def loadV (S : List UInt8) (op at_ : Int) : Int × Int :=
  if (widthF op).1 == 0 || (widthF op).2.2 || !fits S.length at_ (widthF op).1 then (0, 4) else (loadF op (getAt S at_.toNat (widthF op).1), 0)
def writeF (S : List UInt8) (at_ : Int) (s : ByteArray) : List UInt8 × Int :=
  if fits S.length at_ s.size then (splice S at_.toNat s.data.toList, 0) else (S, 4)
def readF (S : List UInt8) (at_ n : Int) : ByteArray × Int :=
  if fits S.length at_ n then (⟨(getAt S at_.toNat n.toNat).toArray⟩, 0) else (⟨#[]⟩, 4)
def fillF (S : List UInt8) (at_ v n : Int) : List UInt8 × Int :=
  if fits S.length at_ n then (splice S at_.toNat (List.replicate n.toNat (byteOf v 0)), 0) else (S, 4)
def copyF (S : List UInt8) (at_ : Int) (S2 : List UInt8) (b n : Int) : List UInt8 × Int :=
  if fits S.length at_ n && fits S2.length b n then (splice S at_.toNat (getAt S2 b.toNat n.toNat), 0) else (S, 4)
def growF (S : List UInt8) (most n : Int) : List UInt8 × Int :=
  if growOk S.length most n then (S ++ List.replicate (n.toNat * 65536) 0, ((S.length / 65536 : Nat) : Int)) else (S, -1)

theorem storeF_len (S : List UInt8) (op at_ v : Int) : (storeF S op at_ v).1.length = S.length := by
  unfold storeF
  split
  · rename_i h
    rw [Bool.and_eq_true] at h
    have h2 := of_decide_eq_true h.2
    exact length_splice S _ _ (by rw [stB_length]; omega)
  · rfl
theorem writeF_len (S : List UInt8) (at_ : Int) (s : ByteArray) : (writeF S at_ s).1.length = S.length := by
  unfold writeF
  split
  · rename_i h
    have h2 := of_decide_eq_true h
    have : s.data.toList.length = s.size := Array.length_toList
    exact length_splice S _ _ (by omega)
  · rfl
theorem fillF_len (S : List UInt8) (at_ v n : Int) : (fillF S at_ v n).1.length = S.length := by
  unfold fillF
  split
  · rename_i h
    have h2 := of_decide_eq_true h
    exact length_splice S _ _ (by rw [List.length_replicate]; omega)
  · rfl
theorem copyF_len (S : List UInt8) (at_ : Int) (S2 : List UInt8) (b n : Int) : (copyF S at_ S2 b n).1.length = S.length := by
  unfold copyF
  split
  · rename_i h
    rw [Bool.and_eq_true] at h
    have h1 := of_decide_eq_true h.1
    have h2 := of_decide_eq_true h.2
    exact length_splice S _ _ (by rw [getAt_length (by omega)]; omega)
  · rfl
theorem growF_len (S : List UInt8) (most n : Int) (hs : S.length ≤ 1048576) (hm : most ≤ 16) (hl : S.length % 65536 = 0) : (growF S most n).1.length ≤ 1048576 ∧ (growF S most n).1.length % 65536 = 0 := by
  unfold growF
  split
  · rename_i h
    have h2 := of_decide_eq_true h
    simp only [List.length_append, List.length_replicate]
    omega
  · exact ⟨hs, hl⟩

section
variable {w : World} {p g cap p2 g2 cap2 : Nat} {S S2 : List UInt8} {most bound most2 bound2 : Int}
theorem store_f (op at_ v : Int) (h : MemAt 105 w p g cap S most bound) (hs : S.length ≤ 1048576) :
    Calls Try.prog 34 #[.pointer (some ⟨p, 0, none⟩), .int .i64 op, .int .i64 at_, .int .i64 v] w fun e w' => e = .returned (.int .i64 (storeF S op at_ v).2) ∧ Post 105 w p g (storeF S op at_ v).1 most bound w' := by
  unfold storeF
  cases hf : ((widthF op).2.2 && fits S.length at_ (widthF op).1) with
  | false =>
    refine (store_no h hs hf).mono ?_
    rintro e w' ⟨rfl, hd⟩
    exact ⟨rfl, Post.drawn h hd⟩
  | true =>
    rw [Bool.and_eq_true] at hf
    have h2 := of_decide_eq_true hf.2
    obtain ⟨a, rfl⟩ := Int.eq_ofNat_of_zero_le h2.1
    refine (store_yes (t := (widthF op).2.1) (a := a) h hs (by rw [← hf.1]) (width_st' hf.1) (by omega)).mono ?_
    rintro e w' ⟨rfl, h3, h4⟩
    exact ⟨rfl, Post.of h3 h4⟩
theorem rstore_f (op at_ v : Int) (h : MemAt 83 w p g cap S most bound) (hs : S.length ≤ 1048576) :
    Calls Try.prog 65 #[.pointer (some ⟨p, 0, none⟩), .int .i64 op, .int .i64 at_, .int .i64 v] w fun e w' => e = .returned (.int .i64 (storeF S op at_ v).2) ∧ Post 83 w p g (storeF S op at_ v).1 most bound w' := by
  unfold storeF
  cases hf : ((widthF op).2.2 && fits S.length at_ (widthF op).1) with
  | false =>
    refine (rstore_no h hs hf).mono ?_
    rintro e w' ⟨rfl, hd⟩
    exact ⟨rfl, Post.below h hd⟩
  | true =>
    rw [Bool.and_eq_true] at hf
    have h2 := of_decide_eq_true hf.2
    obtain ⟨a, rfl⟩ := Int.eq_ofNat_of_zero_le h2.1
    refine (rstore_yes (t := (widthF op).2.1) (a := a) h hs (by rw [← hf.1]) (by omega)).mono ?_
    rintro e w' ⟨rfl, h3, h4⟩
    exact ⟨rfl, Post.of h3 h4⟩
theorem load_f (op at_ : Int) (h : MemAt 105 w p g cap S most bound) (hs : S.length ≤ 1048576) :
    Calls Try.prog 35 #[.pointer (some ⟨p, 0, none⟩), .int .i64 op, .int .i64 at_] w fun e w' => e = .returned (.tuple #[.int .i64 (loadV S op at_).1, .int .i64 (loadV S op at_).2]) ∧ Post 105 w p g S most bound w' := by
  unfold loadV
  cases hf : ((widthF op).1 == 0 || (widthF op).2.2 || !fits S.length at_ (widthF op).1) with
  | true =>
    refine (load_no h hs hf).mono ?_
    rintro e w' ⟨rfl, hd⟩
    exact ⟨rfl, Post.drawn h hd⟩
  | false =>
    simp only [Bool.or_eq_false_iff, Bool.not_eq_false'] at hf
    obtain ⟨⟨h0, h1⟩, h3⟩ := hf
    have h2 := of_decide_eq_true h3
    obtain ⟨a, rfl⟩ := Int.eq_ofNat_of_zero_le h2.1
    refine (load_yes (n := (widthF op).1) (t := (widthF op).2.1) (a := a) h hs (by rw [← h1]) (by simpa using h0) (by omega)).mono ?_
    rintro e w' ⟨rfl, hd⟩
    exact ⟨rfl, Post.drawn h hd⟩
theorem rload_f (op at_ : Int) (h : MemAt 83 w p g cap S most bound) (hs : S.length ≤ 1048576) :
    Calls Try.prog 66 #[.pointer (some ⟨p, 0, none⟩), .int .i64 op, .int .i64 at_] w fun e w' => e = .returned (.tuple #[.int .i64 (loadV S op at_).1, .int .i64 (loadV S op at_).2]) ∧ Post 83 w p g S most bound w' := by
  unfold loadV
  cases hf : ((widthF op).1 == 0 || (widthF op).2.2 || !fits S.length at_ (widthF op).1) with
  | true =>
    refine (rload_no h hs hf).mono ?_
    rintro e w' ⟨rfl, hd⟩
    exact ⟨rfl, Post.below h hd⟩
  | false =>
    simp only [Bool.or_eq_false_iff, Bool.not_eq_false'] at hf
    obtain ⟨⟨h0, h1⟩, h3⟩ := hf
    have h2 := of_decide_eq_true h3
    obtain ⟨a, rfl⟩ := Int.eq_ofNat_of_zero_le h2.1
    refine (rload_yes (n := (widthF op).1) (t := (widthF op).2.1) (a := a) h hs (by rw [← h1]) (by simpa using h0) (by omega)).mono ?_
    rintro e w' ⟨rfl, hd⟩
    exact ⟨rfl, Post.below h hd⟩
theorem write_f (at_ : Int) (s : ByteArray) (h : MemAt 105 w p g cap S most bound) (hs : S.length ≤ 1048576) :
    Calls Try.prog 48 #[.pointer (some ⟨p, 0, none⟩), .int .i64 at_, .string s] w fun e w' => e = .returned (.int .i64 (writeF S at_ s).2) ∧ Post 105 w p g (writeF S at_ s).1 most bound w' := by
  unfold writeF
  cases hf : fits S.length at_ s.size with
  | false =>
    refine (write_no h hs hf).mono ?_
    rintro e w' ⟨rfl, rfl⟩
    exact ⟨rfl, Post.same h⟩
  | true =>
    have h2 := of_decide_eq_true hf
    obtain ⟨a, rfl⟩ := Int.eq_ofNat_of_zero_le h2.1
    refine (write_yes (a := a) h hs (by omega)).mono ?_
    rintro e w' ⟨rfl, h3, h4⟩
    exact ⟨rfl, Post.of h3 h4⟩
theorem rwrite_f (at_ : Int) (s : ByteArray) (h : MemAt 83 w p g cap S most bound) (hs : S.length ≤ 1048576) :
    Calls Try.prog 68 #[.pointer (some ⟨p, 0, none⟩), .int .i64 at_, .string s] w fun e w' => e = .returned (.int .i64 (writeF S at_ s).2) ∧ Post 83 w p g (writeF S at_ s).1 most bound w' := by
  unfold writeF
  cases hf : fits S.length at_ s.size with
  | false =>
    refine (rwrite_no h hs hf).mono ?_
    rintro e w' ⟨rfl, rfl⟩
    exact ⟨rfl, Post.same h⟩
  | true =>
    have h2 := of_decide_eq_true hf
    obtain ⟨a, rfl⟩ := Int.eq_ofNat_of_zero_le h2.1
    refine (rwrite_yes (a := a) h hs (by omega)).mono ?_
    rintro e w' ⟨rfl, h3, h4⟩
    exact ⟨rfl, Post.of h3 h4⟩
theorem read_f (at_ n : Int) (h : MemAt 105 w p g cap S most bound) (hs : S.length ≤ 1048576) :
    Calls Try.prog 33 #[.pointer (some ⟨p, 0, none⟩), .int .i64 at_, .int .i64 n] w fun e w' => e = .returned (.tuple #[.string (readF S at_ n).1, .int .i64 (readF S at_ n).2]) ∧ Post 105 w p g S most bound w' := by
  unfold readF
  cases hf : fits S.length at_ n with
  | false =>
    refine (read_no h hs hf).mono ?_
    rintro e w' ⟨rfl, rfl⟩
    exact ⟨rfl, Post.same h⟩
  | true =>
    have h2 := of_decide_eq_true hf
    obtain ⟨a, rfl⟩ := Int.eq_ofNat_of_zero_le h2.1
    obtain ⟨n, rfl⟩ := Int.eq_ofNat_of_zero_le h2.2.1
    refine (read_yes (at_ := a) (n := n) h hs (by omega)).mono ?_
    rintro e w' ⟨rfl, rfl⟩
    exact ⟨rfl, Post.same h⟩
theorem rread_f (at_ n : Int) (h : MemAt 83 w p g cap S most bound) (hs : S.length ≤ 1048576) :
    Calls Try.prog 69 #[.pointer (some ⟨p, 0, none⟩), .int .i64 at_, .int .i64 n] w fun e w' => e = .returned (.tuple #[.string (readF S at_ n).1, .int .i64 (readF S at_ n).2]) ∧ Post 83 w p g S most bound w' := by
  unfold readF
  cases hf : fits S.length at_ n with
  | false =>
    refine (rread_no h hs hf).mono ?_
    rintro e w' ⟨rfl, rfl⟩
    exact ⟨rfl, Post.same h⟩
  | true =>
    have h2 := of_decide_eq_true hf
    obtain ⟨a, rfl⟩ := Int.eq_ofNat_of_zero_le h2.1
    obtain ⟨n, rfl⟩ := Int.eq_ofNat_of_zero_le h2.2.1
    refine (rread_yes (a := a) (n := n) h hs (by omega)).mono ?_
    rintro e w' ⟨rfl, rfl⟩
    exact ⟨rfl, Post.same h⟩
theorem fill_f (at_ v n : Int) (h : MemAt 105 w p g cap S most bound) (hs : S.length ≤ 1048576) :
    Calls Try.prog 49 #[.pointer (some ⟨p, 0, none⟩), .int .i64 at_, .int .i64 v, .int .i64 n] w fun e w' => e = .returned (.int .i64 (fillF S at_ v n).2) ∧ Post 105 w p g (fillF S at_ v n).1 most bound w' := by
  unfold fillF
  cases hf : fits S.length at_ n with
  | false =>
    refine (fill_no h hs hf).mono ?_
    rintro e w' ⟨rfl, rfl⟩
    exact ⟨rfl, Post.same h⟩
  | true =>
    have h2 := of_decide_eq_true hf
    obtain ⟨a, rfl⟩ := Int.eq_ofNat_of_zero_le h2.1
    obtain ⟨n, rfl⟩ := Int.eq_ofNat_of_zero_le h2.2.1
    refine (fill_yes (a := a) (n := n) h hs (by omega)).mono ?_
    rintro e w' ⟨rfl, h3, h4⟩
    exact ⟨rfl, Post.of h3 h4⟩
theorem rfill_f (at_ v n : Int) (h : MemAt 83 w p g cap S most bound) (hs : S.length ≤ 1048576) :
    Calls Try.prog 70 #[.pointer (some ⟨p, 0, none⟩), .int .i64 at_, .int .i64 v, .int .i64 n] w fun e w' => e = .returned (.int .i64 (fillF S at_ v n).2) ∧ Post 83 w p g (fillF S at_ v n).1 most bound w' := by
  unfold fillF
  cases hf : fits S.length at_ n with
  | false =>
    refine (rfill_no h hs hf).mono ?_
    rintro e w' ⟨rfl, rfl⟩
    exact ⟨rfl, Post.same h⟩
  | true =>
    have h2 := of_decide_eq_true hf
    obtain ⟨a, rfl⟩ := Int.eq_ofNat_of_zero_le h2.1
    obtain ⟨n, rfl⟩ := Int.eq_ofNat_of_zero_le h2.2.1
    refine (rfill_yes (a := a) (n := n) h hs (by omega)).mono ?_
    rintro e w' ⟨rfl, h3, h4⟩
    exact ⟨rfl, Post.of h3 h4⟩
theorem copy_f (at_ b n : Int) (h : MemAt 105 w p g cap S most bound) (h2 : MemAt 105 w p2 g2 cap2 S2 most2 bound2) (hs : S.length ≤ 1048576) (hs2 : S2.length ≤ 1048576) :
    Calls Try.prog 36 #[.pointer (some ⟨p, 0, none⟩), .int .i64 at_, .pointer (some ⟨p2, 0, none⟩), .int .i64 b, .int .i64 n] w fun e w' => e = .returned (.int .i64 (copyF S at_ S2 b n).2) ∧ Post 105 w p g (copyF S at_ S2 b n).1 most bound w' := by
  unfold copyF
  cases hf : (fits S.length at_ n && fits S2.length b n) with
  | false =>
    refine (copy_no h h2 hs hs2 hf).mono ?_
    rintro e w' ⟨rfl, rfl⟩
    exact ⟨rfl, Post.same h⟩
  | true =>
    rw [Bool.and_eq_true] at hf
    have k1 := of_decide_eq_true hf.1
    have k2 := of_decide_eq_true hf.2
    obtain ⟨a, rfl⟩ := Int.eq_ofNat_of_zero_le k1.1
    obtain ⟨b, rfl⟩ := Int.eq_ofNat_of_zero_le k2.1
    obtain ⟨n, rfl⟩ := Int.eq_ofNat_of_zero_le k1.2.1
    refine (copy_yes (a := a) (b := b) (n := n) h h2 hs hs2 (by omega) (by omega)).mono ?_
    rintro e w' ⟨rfl, h3, h4⟩
    exact ⟨rfl, Post.of h3 h4⟩
theorem rcopy_f (at_ b n : Int) (h : MemAt 83 w p g cap S most bound) (h2 : MemAt 83 w p2 g2 cap2 S2 most2 bound2) (hs : S.length ≤ 1048576) (hs2 : S2.length ≤ 1048576) :
    Calls Try.prog 71 #[.pointer (some ⟨p, 0, none⟩), .int .i64 at_, .pointer (some ⟨p2, 0, none⟩), .int .i64 b, .int .i64 n] w fun e w' => e = .returned (.int .i64 (copyF S at_ S2 b n).2) ∧ Post 83 w p g (copyF S at_ S2 b n).1 most bound w' := by
  unfold copyF
  cases hf : (fits S.length at_ n && fits S2.length b n) with
  | false =>
    refine (rcopy_no h h2 hs hs2 hf).mono ?_
    rintro e w' ⟨rfl, rfl⟩
    exact ⟨rfl, Post.same h⟩
  | true =>
    rw [Bool.and_eq_true] at hf
    have k1 := of_decide_eq_true hf.1
    have k2 := of_decide_eq_true hf.2
    obtain ⟨a, rfl⟩ := Int.eq_ofNat_of_zero_le k1.1
    obtain ⟨b, rfl⟩ := Int.eq_ofNat_of_zero_le k2.1
    obtain ⟨n, rfl⟩ := Int.eq_ofNat_of_zero_le k1.2.1
    refine (rcopy_yes (a := a) (b := b) (n := n) h h2 hs hs2 (by omega) (by omega)).mono ?_
    rintro e w' ⟨rfl, h3, h4⟩
    exact ⟨rfl, Post.of h3 h4⟩
theorem grow_f (n : Int) (h : MemAt 105 w p g cap S most bound) (hs : S.length ≤ 1048576) (hm : -1 ≤ most ∧ most ≤ 16) :
    Calls Try.prog 47 #[.pointer (some ⟨p, 0, none⟩), .int .i64 n] w fun e w' => e = .returned (.int .i64 (growF S most n).2) ∧ Post 105 w p g (growF S most n).1 most bound w' := by
  unfold growF
  cases hf : growOk S.length most n with
  | false =>
    refine (grow_no h hs hm hf).mono ?_
    rintro e w' ⟨rfl, rfl⟩
    exact ⟨rfl, Post.same h⟩
  | true =>
    have h2 := of_decide_eq_true hf
    obtain ⟨n, rfl⟩ := Int.eq_ofNat_of_zero_le h2.1
    refine (grow_yes (n := n) h hs hm hf).mono ?_
    rintro e w' ⟨rfl, g', c', h3, h4, h5⟩
    exact ⟨rfl, g', c', h3, h4, h5⟩
theorem rgrow_f (n : Int) (h : MemAt 83 w p g cap S most bound) (hs : S.length ≤ 1048576) (hm : -1 ≤ most ∧ most ≤ 16) (hl : S.length % 65536 = 0) :
    Calls Try.prog 67 #[.pointer (some ⟨p, 0, none⟩), .int .i64 n] w fun e w' => e = .returned (.int .i64 (growF S most n).2) ∧ Post 83 w p g (growF S most n).1 most bound w' := by
  unfold growF
  cases hf : growOk S.length most n with
  | false =>
    refine (rgrow_no h hs hm hf).mono ?_
    rintro e w' ⟨rfl, rfl⟩
    exact ⟨rfl, Post.same h⟩
  | true =>
    have h2 := of_decide_eq_true hf
    obtain ⟨n, rfl⟩ := Int.eq_ofNat_of_zero_le h2.1
    refine (rgrow_yes (n := n) h hs hm hl hf).mono ?_
    rintro e w' ⟨rfl, c', h4, h5⟩
    exact ⟨rfl, _, c', .inr rfl, h4, h5⟩
end
end Go.Proofs.Ytmpmcffhlnlejaa.MemEq
