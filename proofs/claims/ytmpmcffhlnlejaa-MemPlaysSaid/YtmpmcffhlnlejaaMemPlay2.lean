/- The four memories of MemPlays at once, and scarflaw04.step. -/
import Derived.Test.YtmpmcffhlnlejaaMemPlay1
import Derived.Test.YtmpmcffhlnlejaaMemAim
namespace Go.Proofs.Ytmpmcffhlnlejaa.MemEq
open Go.RowKit Go.Proofs.YtmpmcffhlnlejaaW.PrintWords Go.Proofs.YtmpmcffhlnlejaaW.PrintLast Go.Proofs.YtmpmcffhlnlejaaW.PrintMore
open Go.Proofs.Ytmpmcffhlnlejaa.PMemBack
set_option linter.unusedVariables false
set_option linter.unusedSimpArgs false

/-- The program's memories m, o and the reference's r, q; K: blocks that are kept; B: what was there before. -/
structure Both (K : Nat → Prop) (B : Nat) (w : World) (m gm cm r gr cr o go co q gq cq : Nat) (S1 S2 S3 S4 : List UInt8) (M b : Int) : Prop where
  hm : MemAt 105 w m gm cm S1 M b
  hr : MemAt 83 w r gr cr S2 M b
  ho : MemAt 105 w o go co S3 1 1
  hq : MemAt 83 w q gq cq S4 1 1
  ap : m ≠ gm ∧ m ≠ r ∧ m ≠ gr ∧ m ≠ o ∧ m ≠ go ∧ m ≠ q ∧ m ≠ gq ∧ gm ≠ r ∧ gm ≠ gr ∧ gm ≠ o ∧ gm ≠ go ∧ gm ≠ q ∧ gm ≠ gq ∧ r ≠ gr ∧ r ≠ o ∧ r ≠ go ∧ r ≠ q ∧ r ≠ gq ∧ gr ≠ o ∧ gr ≠ go ∧ gr ≠ q ∧ gr ≠ gq ∧ o ≠ go ∧ o ≠ q ∧ o ≠ gq ∧ go ≠ q ∧ go ≠ gq ∧ q ≠ gq
  lo : B ≤ m ∧ B ≤ gm ∧ B ≤ r ∧ B ≤ gr ∧ B ≤ o ∧ B ≤ go ∧ B ≤ q ∧ B ≤ gq
  kp : ∀ k, K k → k < w.heap.size ∧ k ≠ m ∧ k ≠ gm ∧ k ≠ r ∧ k ≠ gr ∧ k ≠ o ∧ k ≠ go ∧ k ≠ q ∧ k ≠ gq

/-- Blocks that are kept, and all from before. -/
def Kept8 (K : Nat → Prop) (B : Nat) (w w' : World) : Prop := (∀ k, K k → w'.heap[k]? = w.heap[k]?) ∧ Below B w w'
theorem Kept8.refl (K : Nat → Prop) (B : Nat) (w : World) : Kept8 K B w w := ⟨fun _ _ => rfl, Below.refl _ _⟩
theorem Kept8.sub {K K' : Nat → Prop} {B : Nat} {w w' : World} (h : Kept8 K' B w w') (hk : ∀ k, K k → K' k) : Kept8 K B w w' := ⟨fun k h1 => h.1 k (hk k h1), h.2⟩
theorem Kept8.drew {K : Nat → Prop} {B : Nat} {w w' : World} (h : Kept8 K B w w') : Kept8 K B w w'.drew := ⟨fun k h1 => h.1 k h1, below_drew1 h.2⟩
theorem Kept8.trans {K : Nat → Prop} {B : Nat} {w w' w2 : World} (h : Kept8 K B w w') (k : Kept8 K B w' w2) : Kept8 K B w w2 :=
  ⟨fun i hi => (k.1 i hi).trans (h.1 i hi), h.2.trans k.2⟩

section
variable {K : Nat → Prop} {B : Nat} {w w' : World} {m gm cm r gr cr o go co q gq cq : Nat} {S1 S2 S3 S4 S' : List UInt8} {M b : Int}
theorem Both.drewN (h : Both K B w m gm cm r gr cr o go co q gq cq S1 S2 S3 S4 M b) (n : Nat) : Both K B (w.drewN n) m gm cm r gr cr o go co q gq cq S1 S2 S3 S4 M b :=
  ⟨h.hm.drewN n, h.hr.drewN n, h.ho.drewN n, h.hq.drewN n, h.ap, h.lo, h.kp⟩
theorem Both.drew (h : Both K B w m gm cm r gr cr o go co q gq cq S1 S2 S3 S4 M b) : Both K B w.drew m gm cm r gr cr o go co q gq cq S1 S2 S3 S4 M b :=
  h.drewN 1
theorem Both.below (h : Both K B w m gm cm r gr cr o go co q gq cq S1 S2 S3 S4 M b) (hb : Below w.heap.size w w') : Both K B w' m gm cm r gr cr o go co q gq cq S1 S2 S3 S4 M b :=
  ⟨h.hm.below hb, h.hr.below hb, h.ho.below hb, h.hq.below hb, h.ap, h.lo, fun k hk => ⟨Nat.lt_of_lt_of_le (h.kp k hk).1 hb.size, (h.kp k hk).2⟩⟩
theorem Both.mono (h : Both K B w m gm cm r gr cr o go co q gq cq S1 S2 S3 S4 M b) {K' : Nat → Prop} (hk : ∀ k, K' k → K k) : Both K' B w m gm cm r gr cr o go co q gq cq S1 S2 S3 S4 M b :=
  ⟨h.hm, h.hr, h.ho, h.hq, h.ap, h.lo, fun k h1 => h.kp k (hk k h1)⟩
/-- A new block, kept from now on. -/
theorem Both.box (h : Both K B w m gm cm r gr cr o go co q gq cq S1 S2 S3 S4 M b) (ob : Obj) : Both (fun k => K k ∨ k = w.heap.size) B (w.alloc ob) m gm cm r gr cr o go co q gq cq S1 S2 S3 S4 M b := by
  have hb := below_alloc (Below.refl w.heap.size w) ob
  have h1 := h.hm.lt
  have h2 := h.hr.lt
  have h3 := h.ho.lt
  have h4 := h.hq.lt
  refine ⟨h.hm.below hb, h.hr.below hb, h.ho.below hb, h.hq.below hb, h.ap, h.lo, fun k hk => ?_⟩
  rcases hk with hk | rfl
  · exact ⟨Nat.lt_of_lt_of_le (h.kp k hk).1 hb.size, (h.kp k hk).2⟩
  · exact ⟨by simp, Nat.ne_of_gt h1.1, Nat.ne_of_gt h1.2, Nat.ne_of_gt h2.1, Nat.ne_of_gt h2.2, Nat.ne_of_gt h3.1, Nat.ne_of_gt h3.2, Nat.ne_of_gt h4.1, Nat.ne_of_gt h4.2⟩
theorem Both.turnM (h : Both K B w m gm cm r gr cr o go co q gq cq S1 S2 S3 S4 M b) (hp : Post 105 w m gm S' M b w') (hB : B ≤ w.heap.size) :
    ∃ g' c', Both K B w' m g' c' r gr cr o go co q gq cq S' S2 S3 S4 M b ∧ Kept8 K B w w' := by
  obtain ⟨g', c', hg, h', t⟩ := hp
  obtain ⟨b0, b1, b2, b3, b4, b5, b6, b7⟩ := h.lo
  have kb : Kept8 K B w w' := ⟨fun k hk => by
    obtain ⟨kl, k0, k1, k2, k3, k4, k5, k6, k7⟩ := h.kp k hk
    exact t.block k kl k0 k1, t.below b0 b1 hB⟩
  have l1 := h.hm.lt
  have l2 := h.hr.lt
  have l3 := h.ho.lt
  have l4 := h.hq.lt
  obtain ⟨a01, a02, a03, a04, a05, a06, a07, a12, a13, a14, a15, a16, a17, a23, a24, a25, a26, a27, a34, a35, a36, a37, a45, a46, a47, a56, a57, a67⟩ := h.ap
  rcases hg with rfl | rfl
  · exact ⟨g', c', ⟨h', (h.hr.kept t (Ne.symm a02) (Ne.symm a12) (Ne.symm a03) (Ne.symm a13)), (h.ho.kept t (Ne.symm a04) (Ne.symm a14) (Ne.symm a05) (Ne.symm a15)), (h.hq.kept t (Ne.symm a06) (Ne.symm a16) (Ne.symm a07) (Ne.symm a17)), h.ap, h.lo, fun k hk => ⟨Nat.lt_of_lt_of_le (h.kp k hk).1 t.size, (h.kp k hk).2⟩⟩, kb⟩
  · refine ⟨_, c', ⟨h', (h.hr.kept t (Ne.symm a02) (Ne.symm a12) (Ne.symm a03) (Ne.symm a13)), (h.ho.kept t (Ne.symm a04) (Ne.symm a14) (Ne.symm a05) (Ne.symm a15)), (h.hq.kept t (Ne.symm a06) (Ne.symm a16) (Ne.symm a07) (Ne.symm a17)), ⟨Nat.ne_of_lt l1.1, a02, a03, a04, a05, a06, a07, Nat.ne_of_gt l2.1, Nat.ne_of_gt l2.2, Nat.ne_of_gt l3.1, Nat.ne_of_gt l3.2, Nat.ne_of_gt l4.1, Nat.ne_of_gt l4.2, a23, a24, a25, a26, a27, a34, a35, a36, a37, a45, a46, a47, a56, a57, a67⟩, ⟨b0, hB, b2, b3, b4, b5, b6, b7⟩, fun k hk => ?_⟩, kb⟩
    obtain ⟨kl, k0, k1, k2, k3, k4, k5, k6, k7⟩ := h.kp k hk
    exact ⟨Nat.lt_of_lt_of_le kl t.size, k0, Nat.ne_of_lt kl, k2, k3, k4, k5, k6, k7⟩
theorem Both.turnR (h : Both K B w m gm cm r gr cr o go co q gq cq S1 S2 S3 S4 M b) (hp : Post 83 w r gr S' M b w') (hB : B ≤ w.heap.size) :
    ∃ g' c', Both K B w' m gm cm r g' c' o go co q gq cq S1 S' S3 S4 M b ∧ Kept8 K B w w' := by
  obtain ⟨g', c', hg, h', t⟩ := hp
  obtain ⟨b0, b1, b2, b3, b4, b5, b6, b7⟩ := h.lo
  have kb : Kept8 K B w w' := ⟨fun k hk => by
    obtain ⟨kl, k0, k1, k2, k3, k4, k5, k6, k7⟩ := h.kp k hk
    exact t.block k kl k2 k3, t.below b2 b3 hB⟩
  have l1 := h.hm.lt
  have l2 := h.hr.lt
  have l3 := h.ho.lt
  have l4 := h.hq.lt
  obtain ⟨a01, a02, a03, a04, a05, a06, a07, a12, a13, a14, a15, a16, a17, a23, a24, a25, a26, a27, a34, a35, a36, a37, a45, a46, a47, a56, a57, a67⟩ := h.ap
  rcases hg with rfl | rfl
  · exact ⟨g', c', ⟨(h.hm.kept t a02 a03 a12 a13), h', (h.ho.kept t (Ne.symm a24) (Ne.symm a34) (Ne.symm a25) (Ne.symm a35)), (h.hq.kept t (Ne.symm a26) (Ne.symm a36) (Ne.symm a27) (Ne.symm a37)), h.ap, h.lo, fun k hk => ⟨Nat.lt_of_lt_of_le (h.kp k hk).1 t.size, (h.kp k hk).2⟩⟩, kb⟩
  · refine ⟨_, c', ⟨(h.hm.kept t a02 a03 a12 a13), h', (h.ho.kept t (Ne.symm a24) (Ne.symm a34) (Ne.symm a25) (Ne.symm a35)), (h.hq.kept t (Ne.symm a26) (Ne.symm a36) (Ne.symm a27) (Ne.symm a37)), ⟨a01, a02, Nat.ne_of_lt l1.1, a04, a05, a06, a07, a12, Nat.ne_of_lt l1.2, a14, a15, a16, a17, Nat.ne_of_lt l2.1, a24, a25, a26, a27, Nat.ne_of_gt l3.1, Nat.ne_of_gt l3.2, Nat.ne_of_gt l4.1, Nat.ne_of_gt l4.2, a45, a46, a47, a56, a57, a67⟩, ⟨b0, b1, b2, hB, b4, b5, b6, b7⟩, fun k hk => ?_⟩, kb⟩
    obtain ⟨kl, k0, k1, k2, k3, k4, k5, k6, k7⟩ := h.kp k hk
    exact ⟨Nat.lt_of_lt_of_le kl t.size, k0, k1, k2, Nat.ne_of_lt kl, k4, k5, k6, k7⟩
theorem Both.turnO (h : Both K B w m gm cm r gr cr o go co q gq cq S1 S2 S3 S4 M b) (hp : Post 105 w o go S' 1 1 w') (hB : B ≤ w.heap.size) :
    ∃ g' c', Both K B w' m gm cm r gr cr o g' c' q gq cq S1 S2 S' S4 M b ∧ Kept8 K B w w' := by
  obtain ⟨g', c', hg, h', t⟩ := hp
  obtain ⟨b0, b1, b2, b3, b4, b5, b6, b7⟩ := h.lo
  have kb : Kept8 K B w w' := ⟨fun k hk => by
    obtain ⟨kl, k0, k1, k2, k3, k4, k5, k6, k7⟩ := h.kp k hk
    exact t.block k kl k4 k5, t.below b4 b5 hB⟩
  have l1 := h.hm.lt
  have l2 := h.hr.lt
  have l3 := h.ho.lt
  have l4 := h.hq.lt
  obtain ⟨a01, a02, a03, a04, a05, a06, a07, a12, a13, a14, a15, a16, a17, a23, a24, a25, a26, a27, a34, a35, a36, a37, a45, a46, a47, a56, a57, a67⟩ := h.ap
  rcases hg with rfl | rfl
  · exact ⟨g', c', ⟨(h.hm.kept t a04 a05 a14 a15), (h.hr.kept t a24 a25 a34 a35), h', (h.hq.kept t (Ne.symm a46) (Ne.symm a56) (Ne.symm a47) (Ne.symm a57)), h.ap, h.lo, fun k hk => ⟨Nat.lt_of_lt_of_le (h.kp k hk).1 t.size, (h.kp k hk).2⟩⟩, kb⟩
  · refine ⟨_, c', ⟨(h.hm.kept t a04 a05 a14 a15), (h.hr.kept t a24 a25 a34 a35), h', (h.hq.kept t (Ne.symm a46) (Ne.symm a56) (Ne.symm a47) (Ne.symm a57)), ⟨a01, a02, a03, a04, Nat.ne_of_lt l1.1, a06, a07, a12, a13, a14, Nat.ne_of_lt l1.2, a16, a17, a23, a24, Nat.ne_of_lt l2.1, a26, a27, a34, Nat.ne_of_lt l2.2, a36, a37, Nat.ne_of_lt l3.1, a46, a47, Nat.ne_of_gt l4.1, Nat.ne_of_gt l4.2, a67⟩, ⟨b0, b1, b2, b3, b4, hB, b6, b7⟩, fun k hk => ?_⟩, kb⟩
    obtain ⟨kl, k0, k1, k2, k3, k4, k5, k6, k7⟩ := h.kp k hk
    exact ⟨Nat.lt_of_lt_of_le kl t.size, k0, k1, k2, k3, k4, Nat.ne_of_lt kl, k6, k7⟩
theorem Both.turnQ (h : Both K B w m gm cm r gr cr o go co q gq cq S1 S2 S3 S4 M b) (hp : Post 83 w q gq S' 1 1 w') (hB : B ≤ w.heap.size) :
    ∃ g' c', Both K B w' m gm cm r gr cr o go co q g' c' S1 S2 S3 S' M b ∧ Kept8 K B w w' := by
  obtain ⟨g', c', hg, h', t⟩ := hp
  obtain ⟨b0, b1, b2, b3, b4, b5, b6, b7⟩ := h.lo
  have kb : Kept8 K B w w' := ⟨fun k hk => by
    obtain ⟨kl, k0, k1, k2, k3, k4, k5, k6, k7⟩ := h.kp k hk
    exact t.block k kl k6 k7, t.below b6 b7 hB⟩
  have l1 := h.hm.lt
  have l2 := h.hr.lt
  have l3 := h.ho.lt
  have l4 := h.hq.lt
  obtain ⟨a01, a02, a03, a04, a05, a06, a07, a12, a13, a14, a15, a16, a17, a23, a24, a25, a26, a27, a34, a35, a36, a37, a45, a46, a47, a56, a57, a67⟩ := h.ap
  rcases hg with rfl | rfl
  · exact ⟨g', c', ⟨(h.hm.kept t a06 a07 a16 a17), (h.hr.kept t a26 a27 a36 a37), (h.ho.kept t a46 a47 a56 a57), h', h.ap, h.lo, fun k hk => ⟨Nat.lt_of_lt_of_le (h.kp k hk).1 t.size, (h.kp k hk).2⟩⟩, kb⟩
  · refine ⟨_, c', ⟨(h.hm.kept t a06 a07 a16 a17), (h.hr.kept t a26 a27 a36 a37), (h.ho.kept t a46 a47 a56 a57), h', ⟨a01, a02, a03, a04, a05, a06, Nat.ne_of_lt l1.1, a12, a13, a14, a15, a16, Nat.ne_of_lt l1.2, a23, a24, a25, a26, Nat.ne_of_lt l2.1, a34, a35, a36, Nat.ne_of_lt l2.2, a45, a46, Nat.ne_of_lt l3.1, a56, Nat.ne_of_lt l3.2, Nat.ne_of_lt l4.1⟩, ⟨b0, b1, b2, b3, b4, b5, b6, hB⟩, fun k hk => ?_⟩, kb⟩
    obtain ⟨kl, k0, k1, k2, k3, k4, k5, k6, k7⟩ := h.kp k hk
    exact ⟨Nat.lt_of_lt_of_le kl t.size, k0, k1, k2, k3, k4, k5, k6, Nat.ne_of_lt kl⟩
end

/-- What a step finds and leaves. -/
def StepInv (K : Nat → Prop) (B : Nat) (w : World) (m r o q : Nat) (M b : Int) : Prop :=
  ∃ gm cm gr cr go co gq cq S So, Both K B w m gm cm r gr cr o go co q gq cq S S So So M b ∧ S.length ≤ 1048576 ∧ S.length % 65536 = 0 ∧ So.length = 65536

set_option maxHeartbeats 4000000 in
set_option maxRecDepth 100000 in
theorem step_0 {K : Nat → Prop} {B : Nat} {w : World} {m r o q : Nat} {M b : Int} (x : S79) (h : StepInv K B w m r o q M b) (hM : -1 ≤ M ∧ M ≤ 16) (hB : B ≤ w.heap.size) (h0 : x.f0 = 0) :
    Calls Try.prog 41 #[.pointer (some ⟨m, 0, none⟩), .pointer (some ⟨o, 0, none⟩), .pointer (some ⟨r, 0, none⟩), .pointer (some ⟨q, 0, none⟩), .agg #[.int .i64 x.f0, .int .i64 x.f1, .int .i64 x.f2, .int .i64 x.f3, .int .i64 x.f4, .int .i64 x.f5, .string x.f6, .bool x.f7]] w
      fun e w' => e = .returned (.bool true) ∧ StepInv K B w' m r o q M b ∧ Kept8 K B w w' := by
  obtain ⟨gm, cm, gr, cr, go, co, gq, cq, S, So, hb0, hs, hl, ho⟩ := h
  have HB0 := Aside0.mk hb0
  have HL := Aside0.mk hl
  have HO := Aside0.mk ho
  obtain ⟨x0, x1, x2, x3, x4, x5, x6, x7⟩ := x
  have hso : So.length ≤ 1048576 := by omega
  clear hb0 hl ho
  replace h0 : x0 = 0 := h0
  subst h0
  have HK := Aside0.mk (blk_new w (.cells #[.int .i64 0, .int .i64 x1, .int .i64 x2, .int .i64 x3, .int .i64 x4, .int .i64 x5, .string x6, .bool x7] 79))
  have HB1 := Aside0.mk (HB0.out.box (.cells #[.int .i64 0, .int .i64 x1, .int .i64 x2, .int .i64 x3, .int .i64 x4, .int .i64 x5, .string x6, .bool x7] 79))
  have HE0 : Aside0 (Kept8 K B w (w.alloc (.cells #[.int .i64 0, .int .i64 x1, .int .i64 x2, .int .i64 x3, .int .i64 x4, .int .i64 x5, .string x6, .bool x7] 79))) := ⟨⟨fun k hk => Below.heap_alloc w _ k (HB0.out.kp k hk).1, (below_alloc (Below.refl w.heap.size w) _).mono hB⟩⟩
  have hB1 : B ≤ (w.alloc (.cells #[.int .i64 0, .int .i64 x1, .int .i64 x2, .int .i64 x3, .int .i64 x4, .int .i64 x5, .string x6, .bool x7] 79)).heap.size := by simp; omega
  clear HB0
  go_enter Try.func41, Try.ntmps41
  go_wp2_with fail
  obtain ⟨bx, hbx⟩ : ∃ bx, bx = w.heap.size := ⟨_, rfl⟩
  rw [← hbx] at HK HB1
  rw [← hbx]
  clear hbx
  generalize w.alloc (.cells #[.int .i64 0, .int .i64 x1, .int .i64 x2, .int .i64 x3, .int .i64 x4, .int .i64 x5, .string x6, .bool x7] 79) = wb at *
  clear hB
  have HS : Aside0 (∀ w' : World, w'.heap[bx]? = wb.heap[bx]? → w'.cell? ⟨bx, 0, none⟩ = some (.int .i64 0) ∧ w'.cell? ⟨bx, 1, none⟩ = some (.int .i64 x1) ∧ w'.cell? ⟨bx, 2, none⟩ = some (.int .i64 x2) ∧ w'.cell? ⟨bx, 3, none⟩ = some (.int .i64 x3) ∧ w'.cell? ⟨bx, 4, none⟩ = some (.int .i64 x4) ∧ w'.cell? ⟨bx, 5, none⟩ = some (.int .i64 x5) ∧ w'.cell? ⟨bx, 6, none⟩ = some (.string x6)) :=
    ⟨fun w' e => by have hq := e.trans HK.out; exact ⟨(blk_cell hq 0).trans rfl, (blk_cell hq 1).trans rfl, (blk_cell hq 2).trans rfl, (blk_cell hq 3).trans rfl, (blk_cell hq 4).trans rfl, (blk_cell hq 5).trans rfl, (blk_cell hq 6).trans rfl⟩⟩

  go_region_held3 (fun w' => w'.cell? ⟨bx, 0, none⟩ = some (.int .i64 0) ∧ w'.cell? ⟨bx, 1, none⟩ = some (.int .i64 x1) ∧ w'.cell? ⟨bx, 2, none⟩ = some (.int .i64 x2) ∧ w'.cell? ⟨bx, 3, none⟩ = some (.int .i64 x3) ∧ w'.cell? ⟨bx, 4, none⟩ = some (.int .i64 x4) ∧ w'.cell? ⟨bx, 5, none⟩ = some (.int .i64 x5) ∧ w'.cell? ⟨bx, 6, none⟩ = some (.string x6))
    (first
      | exact HS.out _ rfl
      | exact HS.out _ ((HK2.out.1 bx (.inr rfl)).trans (HK1.out.1 bx (.inr rfl)))
      | exact HS.out _ (HK1.out.1 bx (.inr rfl)))
    (first
      | (go_at_call 34; refine (store_f x1 x2 x4 HB1.out.drew.hm hs).mono ?_; rintro e w1 ⟨rfl, hp1⟩; obtain ⟨g1, c1, hb2, hk1⟩ := HB1.out.drew.turnM hp1 hB1; have HB2 := Aside0.mk hb2; have HK1 := Aside0.mk hk1; have hB2 : B ≤ w1.heap.size := Nat.le_trans hB1 hk1.2.size; clear hp1 hb2 hk1)
      | (go_at_call 65; refine (rstore_f x1 x2 x4 HB2.out.hr hs).mono ?_; rintro e w2 ⟨rfl, hp1⟩; obtain ⟨g2, c2, hb3, hk2⟩ := HB2.out.turnR hp1 hB2; have HB3 := Aside0.mk hb3; have HK2 := Aside0.mk hk2; clear hp1 hb3 hk2))
  go_wp2_with fail
  go_ret
  exact ⟨rfl, ⟨g1, c1, g2, c2, go, co, gq, cq, (storeF S x1 x2 x4).1, So, HB3.out.mono (fun k hk => .inl hk), ⟨by rw [storeF_len]; exact hs, by rw [storeF_len]; exact HL.out, HO.out⟩⟩, HE0.out.drew.trans ((HK1.out.trans HK2.out).sub fun k hk => .inl hk)⟩

set_option maxHeartbeats 4000000 in
set_option maxRecDepth 100000 in
theorem step_1 {K : Nat → Prop} {B : Nat} {w : World} {m r o q : Nat} {M b : Int} (x : S79) (h : StepInv K B w m r o q M b) (hM : -1 ≤ M ∧ M ≤ 16) (hB : B ≤ w.heap.size) (h0 : x.f0 = 1) :
    Calls Try.prog 41 #[.pointer (some ⟨m, 0, none⟩), .pointer (some ⟨o, 0, none⟩), .pointer (some ⟨r, 0, none⟩), .pointer (some ⟨q, 0, none⟩), .agg #[.int .i64 x.f0, .int .i64 x.f1, .int .i64 x.f2, .int .i64 x.f3, .int .i64 x.f4, .int .i64 x.f5, .string x.f6, .bool x.f7]] w
      fun e w' => e = .returned (.bool true) ∧ StepInv K B w' m r o q M b ∧ Kept8 K B w w' := by
  obtain ⟨gm, cm, gr, cr, go, co, gq, cq, S, So, hb0, hs, hl, ho⟩ := h
  have HB0 := Aside0.mk hb0
  have HL := Aside0.mk hl
  have HO := Aside0.mk ho
  obtain ⟨x0, x1, x2, x3, x4, x5, x6, x7⟩ := x
  have hso : So.length ≤ 1048576 := by omega
  clear hb0 hl ho
  replace h0 : x0 = 1 := h0
  subst h0
  have HK := Aside0.mk (blk_new w (.cells #[.int .i64 1, .int .i64 x1, .int .i64 x2, .int .i64 x3, .int .i64 x4, .int .i64 x5, .string x6, .bool x7] 79))
  have HB1 := Aside0.mk (HB0.out.box (.cells #[.int .i64 1, .int .i64 x1, .int .i64 x2, .int .i64 x3, .int .i64 x4, .int .i64 x5, .string x6, .bool x7] 79))
  have HE0 : Aside0 (Kept8 K B w (w.alloc (.cells #[.int .i64 1, .int .i64 x1, .int .i64 x2, .int .i64 x3, .int .i64 x4, .int .i64 x5, .string x6, .bool x7] 79))) := ⟨⟨fun k hk => Below.heap_alloc w _ k (HB0.out.kp k hk).1, (below_alloc (Below.refl w.heap.size w) _).mono hB⟩⟩
  have hB1 : B ≤ (w.alloc (.cells #[.int .i64 1, .int .i64 x1, .int .i64 x2, .int .i64 x3, .int .i64 x4, .int .i64 x5, .string x6, .bool x7] 79)).heap.size := by simp; omega
  clear HB0
  go_enter Try.func41, Try.ntmps41
  go_wp2_with fail
  obtain ⟨bx, hbx⟩ : ∃ bx, bx = w.heap.size := ⟨_, rfl⟩
  rw [← hbx] at HK HB1
  rw [← hbx]
  clear hbx
  generalize w.alloc (.cells #[.int .i64 1, .int .i64 x1, .int .i64 x2, .int .i64 x3, .int .i64 x4, .int .i64 x5, .string x6, .bool x7] 79) = wb at *
  clear hB
  have HS : Aside0 (∀ w' : World, w'.heap[bx]? = wb.heap[bx]? → w'.cell? ⟨bx, 0, none⟩ = some (.int .i64 1) ∧ w'.cell? ⟨bx, 1, none⟩ = some (.int .i64 x1) ∧ w'.cell? ⟨bx, 2, none⟩ = some (.int .i64 x2) ∧ w'.cell? ⟨bx, 3, none⟩ = some (.int .i64 x3) ∧ w'.cell? ⟨bx, 4, none⟩ = some (.int .i64 x4) ∧ w'.cell? ⟨bx, 5, none⟩ = some (.int .i64 x5) ∧ w'.cell? ⟨bx, 6, none⟩ = some (.string x6)) :=
    ⟨fun w' e => by have hq := e.trans HK.out; exact ⟨(blk_cell hq 0).trans rfl, (blk_cell hq 1).trans rfl, (blk_cell hq 2).trans rfl, (blk_cell hq 3).trans rfl, (blk_cell hq 4).trans rfl, (blk_cell hq 5).trans rfl, (blk_cell hq 6).trans rfl⟩⟩

  go_region_held3 (fun w' => w'.cell? ⟨bx, 0, none⟩ = some (.int .i64 1) ∧ w'.cell? ⟨bx, 1, none⟩ = some (.int .i64 x1) ∧ w'.cell? ⟨bx, 2, none⟩ = some (.int .i64 x2) ∧ w'.cell? ⟨bx, 3, none⟩ = some (.int .i64 x3) ∧ w'.cell? ⟨bx, 4, none⟩ = some (.int .i64 x4) ∧ w'.cell? ⟨bx, 5, none⟩ = some (.int .i64 x5) ∧ w'.cell? ⟨bx, 6, none⟩ = some (.string x6))
    (first
      | exact HS.out _ rfl
      | exact HS.out _ ((HK2.out.1 bx (.inr rfl)).trans (HK1.out.1 bx (.inr rfl)))
      | exact HS.out _ (HK1.out.1 bx (.inr rfl)))
    (first
      | (go_at_call 34; refine (store_f x1 x2 x4 HB1.out.drew.hm hs).mono ?_; rintro e w1 ⟨rfl, hp1⟩; obtain ⟨g1, c1, hb2, hk1⟩ := HB1.out.drew.turnM hp1 hB1; have HB2 := Aside0.mk hb2; have HK1 := Aside0.mk hk1; have hB2 : B ≤ w1.heap.size := Nat.le_trans hB1 hk1.2.size; clear hp1 hb2 hk1)
      | (go_at_call 65; refine (rstore_f x1 x2 x4 HB2.out.hr hs).mono ?_; rintro e w2 ⟨rfl, hp1⟩; obtain ⟨g2, c2, hb3, hk2⟩ := HB2.out.turnR hp1 hB2; have HB3 := Aside0.mk hb3; have HK2 := Aside0.mk hk2; clear hp1 hb3 hk2))
  go_wp2_with fail
  go_ret
  exact ⟨rfl, ⟨g1, c1, g2, c2, go, co, gq, cq, (storeF S x1 x2 x4).1, So, HB3.out.mono (fun k hk => .inl hk), ⟨by rw [storeF_len]; exact hs, by rw [storeF_len]; exact HL.out, HO.out⟩⟩, HE0.out.drew.trans ((HK1.out.trans HK2.out).sub fun k hk => .inl hk)⟩

set_option maxHeartbeats 4000000 in
set_option maxRecDepth 100000 in
theorem step_2 {K : Nat → Prop} {B : Nat} {w : World} {m r o q : Nat} {M b : Int} (x : S79) (h : StepInv K B w m r o q M b) (hM : -1 ≤ M ∧ M ≤ 16) (hB : B ≤ w.heap.size) (h0 : x.f0 = 2) :
    Calls Try.prog 41 #[.pointer (some ⟨m, 0, none⟩), .pointer (some ⟨o, 0, none⟩), .pointer (some ⟨r, 0, none⟩), .pointer (some ⟨q, 0, none⟩), .agg #[.int .i64 x.f0, .int .i64 x.f1, .int .i64 x.f2, .int .i64 x.f3, .int .i64 x.f4, .int .i64 x.f5, .string x.f6, .bool x.f7]] w
      fun e w' => e = .returned (.bool true) ∧ StepInv K B w' m r o q M b ∧ Kept8 K B w w' := by
  obtain ⟨gm, cm, gr, cr, go, co, gq, cq, S, So, hb0, hs, hl, ho⟩ := h
  have HB0 := Aside0.mk hb0
  have HL := Aside0.mk hl
  have HO := Aside0.mk ho
  obtain ⟨x0, x1, x2, x3, x4, x5, x6, x7⟩ := x
  have hso : So.length ≤ 1048576 := by omega
  clear hb0 hl ho
  replace h0 : x0 = 2 := h0
  subst h0
  have HK := Aside0.mk (blk_new w (.cells #[.int .i64 2, .int .i64 x1, .int .i64 x2, .int .i64 x3, .int .i64 x4, .int .i64 x5, .string x6, .bool x7] 79))
  have HB1 := Aside0.mk (HB0.out.box (.cells #[.int .i64 2, .int .i64 x1, .int .i64 x2, .int .i64 x3, .int .i64 x4, .int .i64 x5, .string x6, .bool x7] 79))
  have HE0 : Aside0 (Kept8 K B w (w.alloc (.cells #[.int .i64 2, .int .i64 x1, .int .i64 x2, .int .i64 x3, .int .i64 x4, .int .i64 x5, .string x6, .bool x7] 79))) := ⟨⟨fun k hk => Below.heap_alloc w _ k (HB0.out.kp k hk).1, (below_alloc (Below.refl w.heap.size w) _).mono hB⟩⟩
  have hB1 : B ≤ (w.alloc (.cells #[.int .i64 2, .int .i64 x1, .int .i64 x2, .int .i64 x3, .int .i64 x4, .int .i64 x5, .string x6, .bool x7] 79)).heap.size := by simp; omega
  clear HB0
  go_enter Try.func41, Try.ntmps41
  go_wp2_with fail
  obtain ⟨bx, hbx⟩ : ∃ bx, bx = w.heap.size := ⟨_, rfl⟩
  rw [← hbx] at HK HB1
  rw [← hbx]
  clear hbx
  generalize w.alloc (.cells #[.int .i64 2, .int .i64 x1, .int .i64 x2, .int .i64 x3, .int .i64 x4, .int .i64 x5, .string x6, .bool x7] 79) = wb at *
  clear hB
  have HS : Aside0 (∀ w' : World, w'.heap[bx]? = wb.heap[bx]? → w'.cell? ⟨bx, 0, none⟩ = some (.int .i64 2) ∧ w'.cell? ⟨bx, 1, none⟩ = some (.int .i64 x1) ∧ w'.cell? ⟨bx, 2, none⟩ = some (.int .i64 x2) ∧ w'.cell? ⟨bx, 3, none⟩ = some (.int .i64 x3) ∧ w'.cell? ⟨bx, 4, none⟩ = some (.int .i64 x4) ∧ w'.cell? ⟨bx, 5, none⟩ = some (.int .i64 x5) ∧ w'.cell? ⟨bx, 6, none⟩ = some (.string x6)) :=
    ⟨fun w' e => by have hq := e.trans HK.out; exact ⟨(blk_cell hq 0).trans rfl, (blk_cell hq 1).trans rfl, (blk_cell hq 2).trans rfl, (blk_cell hq 3).trans rfl, (blk_cell hq 4).trans rfl, (blk_cell hq 5).trans rfl, (blk_cell hq 6).trans rfl⟩⟩

  obtain ⟨z0, z1, z2, z3, z4, z5, z6⟩ := HS.out wb rfl
  go_wp2_with fail
  refine (load_f x1 x2 HB1.out.hm hs).mono ?_
  rintro e w1 ⟨rfl, hp1⟩
  obtain ⟨g1, c1, hb2, hk1⟩ := HB1.out.turnM hp1 hB1
  have HB2 := Aside0.mk hb2
  have HK1 := Aside0.mk hk1
  have hB2 : B ≤ w1.heap.size := Nat.le_trans hB1 hk1.2.size
  clear hp1 hb2 hk1 z0 z1 z2 z3 z4 z5 z6
  obtain ⟨z0, z1, z2, z3, z4, z5, z6⟩ := HS.out w1 (HK1.out.1 bx (.inr rfl))
  go_wp2_with fail
  refine (rload_f x1 x2 HB2.out.hr hs).mono ?_
  rintro e w2 ⟨rfl, hp1⟩
  obtain ⟨g2, c2, hb3, hk2⟩ := HB2.out.turnR hp1 hB2
  have HB3 := Aside0.mk hb3
  have HK2 := Aside0.mk hk2
  clear hp1 hb3 hk2 z0 z1 z2 z3 z4 z5 z6
  go_wp2_with fail
  go_ret
  exact ⟨rfl, ⟨g1, c1, g2, c2, go, co, gq, cq, S, So, HB3.out.mono (fun k hk => .inl hk), ⟨hs, HL.out, HO.out⟩⟩, HE0.out.trans ((HK1.out.trans HK2.out).sub fun k hk => .inl hk)⟩

set_option maxHeartbeats 4000000 in
set_option maxRecDepth 100000 in
theorem step_3 {K : Nat → Prop} {B : Nat} {w : World} {m r o q : Nat} {M b : Int} (x : S79) (h : StepInv K B w m r o q M b) (hM : -1 ≤ M ∧ M ≤ 16) (hB : B ≤ w.heap.size) (h0 : x.f0 = 3) :
    Calls Try.prog 41 #[.pointer (some ⟨m, 0, none⟩), .pointer (some ⟨o, 0, none⟩), .pointer (some ⟨r, 0, none⟩), .pointer (some ⟨q, 0, none⟩), .agg #[.int .i64 x.f0, .int .i64 x.f1, .int .i64 x.f2, .int .i64 x.f3, .int .i64 x.f4, .int .i64 x.f5, .string x.f6, .bool x.f7]] w
      fun e w' => e = .returned (.bool true) ∧ StepInv K B w' m r o q M b ∧ Kept8 K B w w' := by
  obtain ⟨gm, cm, gr, cr, go, co, gq, cq, S, So, hb0, hs, hl, ho⟩ := h
  have HB0 := Aside0.mk hb0
  have HL := Aside0.mk hl
  have HO := Aside0.mk ho
  obtain ⟨x0, x1, x2, x3, x4, x5, x6, x7⟩ := x
  have hso : So.length ≤ 1048576 := by omega
  clear hb0 hl ho
  replace h0 : x0 = 3 := h0
  subst h0
  have HK := Aside0.mk (blk_new w (.cells #[.int .i64 3, .int .i64 x1, .int .i64 x2, .int .i64 x3, .int .i64 x4, .int .i64 x5, .string x6, .bool x7] 79))
  have HB1 := Aside0.mk (HB0.out.box (.cells #[.int .i64 3, .int .i64 x1, .int .i64 x2, .int .i64 x3, .int .i64 x4, .int .i64 x5, .string x6, .bool x7] 79))
  have HE0 : Aside0 (Kept8 K B w (w.alloc (.cells #[.int .i64 3, .int .i64 x1, .int .i64 x2, .int .i64 x3, .int .i64 x4, .int .i64 x5, .string x6, .bool x7] 79))) := ⟨⟨fun k hk => Below.heap_alloc w _ k (HB0.out.kp k hk).1, (below_alloc (Below.refl w.heap.size w) _).mono hB⟩⟩
  have hB1 : B ≤ (w.alloc (.cells #[.int .i64 3, .int .i64 x1, .int .i64 x2, .int .i64 x3, .int .i64 x4, .int .i64 x5, .string x6, .bool x7] 79)).heap.size := by simp; omega
  clear HB0
  go_enter Try.func41, Try.ntmps41
  go_wp2_with fail
  obtain ⟨bx, hbx⟩ : ∃ bx, bx = w.heap.size := ⟨_, rfl⟩
  rw [← hbx] at HK HB1
  rw [← hbx]
  clear hbx
  generalize w.alloc (.cells #[.int .i64 3, .int .i64 x1, .int .i64 x2, .int .i64 x3, .int .i64 x4, .int .i64 x5, .string x6, .bool x7] 79) = wb at *
  clear hB
  have HS : Aside0 (∀ w' : World, w'.heap[bx]? = wb.heap[bx]? → w'.cell? ⟨bx, 0, none⟩ = some (.int .i64 3) ∧ w'.cell? ⟨bx, 1, none⟩ = some (.int .i64 x1) ∧ w'.cell? ⟨bx, 2, none⟩ = some (.int .i64 x2) ∧ w'.cell? ⟨bx, 3, none⟩ = some (.int .i64 x3) ∧ w'.cell? ⟨bx, 4, none⟩ = some (.int .i64 x4) ∧ w'.cell? ⟨bx, 5, none⟩ = some (.int .i64 x5) ∧ w'.cell? ⟨bx, 6, none⟩ = some (.string x6)) :=
    ⟨fun w' e => by have hq := e.trans HK.out; exact ⟨(blk_cell hq 0).trans rfl, (blk_cell hq 1).trans rfl, (blk_cell hq 2).trans rfl, (blk_cell hq 3).trans rfl, (blk_cell hq 4).trans rfl, (blk_cell hq 5).trans rfl, (blk_cell hq 6).trans rfl⟩⟩

  go_region_held3 (fun w' => w'.cell? ⟨bx, 0, none⟩ = some (.int .i64 3) ∧ w'.cell? ⟨bx, 1, none⟩ = some (.int .i64 x1) ∧ w'.cell? ⟨bx, 2, none⟩ = some (.int .i64 x2) ∧ w'.cell? ⟨bx, 3, none⟩ = some (.int .i64 x3) ∧ w'.cell? ⟨bx, 4, none⟩ = some (.int .i64 x4) ∧ w'.cell? ⟨bx, 5, none⟩ = some (.int .i64 x5) ∧ w'.cell? ⟨bx, 6, none⟩ = some (.string x6))
    (first
      | exact HS.out _ rfl
      | exact HS.out _ ((HK2.out.1 bx (.inr rfl)).trans (HK1.out.1 bx (.inr rfl)))
      | exact HS.out _ (HK1.out.1 bx (.inr rfl)))
    (first
      | (go_at_call 47; refine (grow_f x4 HB1.out.drew.hm hs hM).mono ?_; rintro e w1 ⟨rfl, hp1⟩; obtain ⟨g1, c1, hb2, hk1⟩ := HB1.out.drew.turnM hp1 hB1; have HB2 := Aside0.mk hb2; have HK1 := Aside0.mk hk1; have hB2 : B ≤ w1.heap.size := Nat.le_trans hB1 hk1.2.size; clear hp1 hb2 hk1)
      | (go_at_call 67; refine (rgrow_f x4 HB2.out.hr hs hM HL.out).mono ?_; rintro e w2 ⟨rfl, hp1⟩; obtain ⟨g2, c2, hb3, hk2⟩ := HB2.out.turnR hp1 hB2; have HB3 := Aside0.mk hb3; have HK2 := Aside0.mk hk2; clear hp1 hb3 hk2))
  go_wp2_with fail
  go_ret
  exact ⟨rfl, ⟨g1, c1, g2, c2, go, co, gq, cq, (growF S M x4).1, So, HB3.out.mono (fun k hk => .inl hk), ⟨(growF_len S M x4 hs hM.2 HL.out).1, (growF_len S M x4 hs hM.2 HL.out).2, HO.out⟩⟩, HE0.out.drew.trans ((HK1.out.trans HK2.out).sub fun k hk => .inl hk)⟩

set_option maxHeartbeats 4000000 in
set_option maxRecDepth 100000 in
theorem step_4 {K : Nat → Prop} {B : Nat} {w : World} {m r o q : Nat} {M b : Int} (x : S79) (h : StepInv K B w m r o q M b) (hM : -1 ≤ M ∧ M ≤ 16) (hB : B ≤ w.heap.size) (h0 : x.f0 = 4) :
    Calls Try.prog 41 #[.pointer (some ⟨m, 0, none⟩), .pointer (some ⟨o, 0, none⟩), .pointer (some ⟨r, 0, none⟩), .pointer (some ⟨q, 0, none⟩), .agg #[.int .i64 x.f0, .int .i64 x.f1, .int .i64 x.f2, .int .i64 x.f3, .int .i64 x.f4, .int .i64 x.f5, .string x.f6, .bool x.f7]] w
      fun e w' => e = .returned (.bool true) ∧ StepInv K B w' m r o q M b ∧ Kept8 K B w w' := by
  obtain ⟨gm, cm, gr, cr, go, co, gq, cq, S, So, hb0, hs, hl, ho⟩ := h
  have HB0 := Aside0.mk hb0
  have HL := Aside0.mk hl
  have HO := Aside0.mk ho
  obtain ⟨x0, x1, x2, x3, x4, x5, x6, x7⟩ := x
  have hso : So.length ≤ 1048576 := by omega
  clear hb0 hl ho
  replace h0 : x0 = 4 := h0
  subst h0
  have HK := Aside0.mk (blk_new w (.cells #[.int .i64 4, .int .i64 x1, .int .i64 x2, .int .i64 x3, .int .i64 x4, .int .i64 x5, .string x6, .bool x7] 79))
  have HB1 := Aside0.mk (HB0.out.box (.cells #[.int .i64 4, .int .i64 x1, .int .i64 x2, .int .i64 x3, .int .i64 x4, .int .i64 x5, .string x6, .bool x7] 79))
  have HE0 : Aside0 (Kept8 K B w (w.alloc (.cells #[.int .i64 4, .int .i64 x1, .int .i64 x2, .int .i64 x3, .int .i64 x4, .int .i64 x5, .string x6, .bool x7] 79))) := ⟨⟨fun k hk => Below.heap_alloc w _ k (HB0.out.kp k hk).1, (below_alloc (Below.refl w.heap.size w) _).mono hB⟩⟩
  have hB1 : B ≤ (w.alloc (.cells #[.int .i64 4, .int .i64 x1, .int .i64 x2, .int .i64 x3, .int .i64 x4, .int .i64 x5, .string x6, .bool x7] 79)).heap.size := by simp; omega
  clear HB0
  go_enter Try.func41, Try.ntmps41
  go_wp2_with fail
  obtain ⟨bx, hbx⟩ : ∃ bx, bx = w.heap.size := ⟨_, rfl⟩
  rw [← hbx] at HK HB1
  rw [← hbx]
  clear hbx
  generalize w.alloc (.cells #[.int .i64 4, .int .i64 x1, .int .i64 x2, .int .i64 x3, .int .i64 x4, .int .i64 x5, .string x6, .bool x7] 79) = wb at *
  clear hB
  have HS : Aside0 (∀ w' : World, w'.heap[bx]? = wb.heap[bx]? → w'.cell? ⟨bx, 0, none⟩ = some (.int .i64 4) ∧ w'.cell? ⟨bx, 1, none⟩ = some (.int .i64 x1) ∧ w'.cell? ⟨bx, 2, none⟩ = some (.int .i64 x2) ∧ w'.cell? ⟨bx, 3, none⟩ = some (.int .i64 x3) ∧ w'.cell? ⟨bx, 4, none⟩ = some (.int .i64 x4) ∧ w'.cell? ⟨bx, 5, none⟩ = some (.int .i64 x5) ∧ w'.cell? ⟨bx, 6, none⟩ = some (.string x6)) :=
    ⟨fun w' e => by have hq := e.trans HK.out; exact ⟨(blk_cell hq 0).trans rfl, (blk_cell hq 1).trans rfl, (blk_cell hq 2).trans rfl, (blk_cell hq 3).trans rfl, (blk_cell hq 4).trans rfl, (blk_cell hq 5).trans rfl, (blk_cell hq 6).trans rfl⟩⟩

  go_region_held3 (fun w' => w'.cell? ⟨bx, 0, none⟩ = some (.int .i64 4) ∧ w'.cell? ⟨bx, 1, none⟩ = some (.int .i64 x1) ∧ w'.cell? ⟨bx, 2, none⟩ = some (.int .i64 x2) ∧ w'.cell? ⟨bx, 3, none⟩ = some (.int .i64 x3) ∧ w'.cell? ⟨bx, 4, none⟩ = some (.int .i64 x4) ∧ w'.cell? ⟨bx, 5, none⟩ = some (.int .i64 x5) ∧ w'.cell? ⟨bx, 6, none⟩ = some (.string x6))
    (first
      | exact HS.out _ rfl
      | exact HS.out _ ((HK2.out.1 bx (.inr rfl)).trans (HK1.out.1 bx (.inr rfl)))
      | exact HS.out _ (HK1.out.1 bx (.inr rfl)))
    (first
      | (go_at_call 48; refine (write_f x2 x6 HB1.out.drew.hm hs).mono ?_; rintro e w1 ⟨rfl, hp1⟩; obtain ⟨g1, c1, hb2, hk1⟩ := HB1.out.drew.turnM hp1 hB1; have HB2 := Aside0.mk hb2; have HK1 := Aside0.mk hk1; have hB2 : B ≤ w1.heap.size := Nat.le_trans hB1 hk1.2.size; clear hp1 hb2 hk1)
      | (go_at_call 68; refine (rwrite_f x2 x6 HB2.out.hr hs).mono ?_; rintro e w2 ⟨rfl, hp1⟩; obtain ⟨g2, c2, hb3, hk2⟩ := HB2.out.turnR hp1 hB2; have HB3 := Aside0.mk hb3; have HK2 := Aside0.mk hk2; clear hp1 hb3 hk2))
  go_wp2_with fail
  go_ret
  exact ⟨rfl, ⟨g1, c1, g2, c2, go, co, gq, cq, (writeF S x2 x6).1, So, HB3.out.mono (fun k hk => .inl hk), ⟨by rw [writeF_len]; exact hs, by rw [writeF_len]; exact HL.out, HO.out⟩⟩, HE0.out.drew.trans ((HK1.out.trans HK2.out).sub fun k hk => .inl hk)⟩

set_option maxHeartbeats 4000000 in
set_option maxRecDepth 100000 in
theorem step_5 {K : Nat → Prop} {B : Nat} {w : World} {m r o q : Nat} {M b : Int} (x : S79) (h : StepInv K B w m r o q M b) (hM : -1 ≤ M ∧ M ≤ 16) (hB : B ≤ w.heap.size) (h0 : x.f0 = 5) :
    Calls Try.prog 41 #[.pointer (some ⟨m, 0, none⟩), .pointer (some ⟨o, 0, none⟩), .pointer (some ⟨r, 0, none⟩), .pointer (some ⟨q, 0, none⟩), .agg #[.int .i64 x.f0, .int .i64 x.f1, .int .i64 x.f2, .int .i64 x.f3, .int .i64 x.f4, .int .i64 x.f5, .string x.f6, .bool x.f7]] w
      fun e w' => e = .returned (.bool true) ∧ StepInv K B w' m r o q M b ∧ Kept8 K B w w' := by
  obtain ⟨gm, cm, gr, cr, go, co, gq, cq, S, So, hb0, hs, hl, ho⟩ := h
  have HB0 := Aside0.mk hb0
  have HL := Aside0.mk hl
  have HO := Aside0.mk ho
  obtain ⟨x0, x1, x2, x3, x4, x5, x6, x7⟩ := x
  have hso : So.length ≤ 1048576 := by omega
  clear hb0 hl ho
  replace h0 : x0 = 5 := h0
  subst h0
  have HK := Aside0.mk (blk_new w (.cells #[.int .i64 5, .int .i64 x1, .int .i64 x2, .int .i64 x3, .int .i64 x4, .int .i64 x5, .string x6, .bool x7] 79))
  have HB1 := Aside0.mk (HB0.out.box (.cells #[.int .i64 5, .int .i64 x1, .int .i64 x2, .int .i64 x3, .int .i64 x4, .int .i64 x5, .string x6, .bool x7] 79))
  have HE0 : Aside0 (Kept8 K B w (w.alloc (.cells #[.int .i64 5, .int .i64 x1, .int .i64 x2, .int .i64 x3, .int .i64 x4, .int .i64 x5, .string x6, .bool x7] 79))) := ⟨⟨fun k hk => Below.heap_alloc w _ k (HB0.out.kp k hk).1, (below_alloc (Below.refl w.heap.size w) _).mono hB⟩⟩
  have hB1 : B ≤ (w.alloc (.cells #[.int .i64 5, .int .i64 x1, .int .i64 x2, .int .i64 x3, .int .i64 x4, .int .i64 x5, .string x6, .bool x7] 79)).heap.size := by simp; omega
  clear HB0
  go_enter Try.func41, Try.ntmps41
  go_wp2_with fail
  obtain ⟨bx, hbx⟩ : ∃ bx, bx = w.heap.size := ⟨_, rfl⟩
  rw [← hbx] at HK HB1
  rw [← hbx]
  clear hbx
  generalize w.alloc (.cells #[.int .i64 5, .int .i64 x1, .int .i64 x2, .int .i64 x3, .int .i64 x4, .int .i64 x5, .string x6, .bool x7] 79) = wb at *
  clear hB
  have HS : Aside0 (∀ w' : World, w'.heap[bx]? = wb.heap[bx]? → w'.cell? ⟨bx, 0, none⟩ = some (.int .i64 5) ∧ w'.cell? ⟨bx, 1, none⟩ = some (.int .i64 x1) ∧ w'.cell? ⟨bx, 2, none⟩ = some (.int .i64 x2) ∧ w'.cell? ⟨bx, 3, none⟩ = some (.int .i64 x3) ∧ w'.cell? ⟨bx, 4, none⟩ = some (.int .i64 x4) ∧ w'.cell? ⟨bx, 5, none⟩ = some (.int .i64 x5) ∧ w'.cell? ⟨bx, 6, none⟩ = some (.string x6)) :=
    ⟨fun w' e => by have hq := e.trans HK.out; exact ⟨(blk_cell hq 0).trans rfl, (blk_cell hq 1).trans rfl, (blk_cell hq 2).trans rfl, (blk_cell hq 3).trans rfl, (blk_cell hq 4).trans rfl, (blk_cell hq 5).trans rfl, (blk_cell hq 6).trans rfl⟩⟩

  obtain ⟨z0, z1, z2, z3, z4, z5, z6⟩ := HS.out wb rfl
  go_wp2_with fail
  refine (read_f x2 x5 HB1.out.hm hs).mono ?_
  rintro e w1 ⟨rfl, hp1⟩
  obtain ⟨g1, c1, hb2, hk1⟩ := HB1.out.turnM hp1 hB1
  have HB2 := Aside0.mk hb2
  have HK1 := Aside0.mk hk1
  have hB2 : B ≤ w1.heap.size := Nat.le_trans hB1 hk1.2.size
  clear hp1 hb2 hk1 z0 z1 z2 z3 z4 z5 z6
  obtain ⟨z0, z1, z2, z3, z4, z5, z6⟩ := HS.out w1 (HK1.out.1 bx (.inr rfl))
  obtain ⟨str, hstr⟩ : ∃ s : ByteArray, s = (readF S x2 x5).1 := ⟨_, rfl⟩
  rw [← hstr]
  have HSTR := Aside0.mk hstr
  clear hstr
  go_wp2_with fail
  refine (rread_f x2 x5 HB2.out.hr hs).mono ?_
  rintro e w2 ⟨rfl, hp1⟩
  obtain ⟨g2, c2, hb3, hk2⟩ := HB2.out.turnR hp1 hB2
  have HB3 := Aside0.mk hb3
  have HK2 := Aside0.mk hk2
  clear hp1 hb3 hk2 z0 z1 z2 z3 z4 z5 z6
  rw [← HSTR.out]
  have q0 : (str.toList == str.toList) = true := beq_self_eq_true _
  go_wp2_with fail
  go_ret
  exact ⟨rfl, ⟨g1, c1, g2, c2, go, co, gq, cq, S, So, HB3.out.mono (fun k hk => .inl hk), ⟨hs, HL.out, HO.out⟩⟩, HE0.out.trans ((HK1.out.trans HK2.out).sub fun k hk => .inl hk)⟩

set_option maxHeartbeats 4000000 in
set_option maxRecDepth 100000 in
theorem step_6 {K : Nat → Prop} {B : Nat} {w : World} {m r o q : Nat} {M b : Int} (x : S79) (h : StepInv K B w m r o q M b) (hM : -1 ≤ M ∧ M ≤ 16) (hB : B ≤ w.heap.size) (h0 : x.f0 = 6) :
    Calls Try.prog 41 #[.pointer (some ⟨m, 0, none⟩), .pointer (some ⟨o, 0, none⟩), .pointer (some ⟨r, 0, none⟩), .pointer (some ⟨q, 0, none⟩), .agg #[.int .i64 x.f0, .int .i64 x.f1, .int .i64 x.f2, .int .i64 x.f3, .int .i64 x.f4, .int .i64 x.f5, .string x.f6, .bool x.f7]] w
      fun e w' => e = .returned (.bool true) ∧ StepInv K B w' m r o q M b ∧ Kept8 K B w w' := by
  obtain ⟨gm, cm, gr, cr, go, co, gq, cq, S, So, hb0, hs, hl, ho⟩ := h
  have HB0 := Aside0.mk hb0
  have HL := Aside0.mk hl
  have HO := Aside0.mk ho
  obtain ⟨x0, x1, x2, x3, x4, x5, x6, x7⟩ := x
  have hso : So.length ≤ 1048576 := by omega
  clear hb0 hl ho
  replace h0 : x0 = 6 := h0
  subst h0
  have HK := Aside0.mk (blk_new w (.cells #[.int .i64 6, .int .i64 x1, .int .i64 x2, .int .i64 x3, .int .i64 x4, .int .i64 x5, .string x6, .bool x7] 79))
  have HB1 := Aside0.mk (HB0.out.box (.cells #[.int .i64 6, .int .i64 x1, .int .i64 x2, .int .i64 x3, .int .i64 x4, .int .i64 x5, .string x6, .bool x7] 79))
  have HE0 : Aside0 (Kept8 K B w (w.alloc (.cells #[.int .i64 6, .int .i64 x1, .int .i64 x2, .int .i64 x3, .int .i64 x4, .int .i64 x5, .string x6, .bool x7] 79))) := ⟨⟨fun k hk => Below.heap_alloc w _ k (HB0.out.kp k hk).1, (below_alloc (Below.refl w.heap.size w) _).mono hB⟩⟩
  have hB1 : B ≤ (w.alloc (.cells #[.int .i64 6, .int .i64 x1, .int .i64 x2, .int .i64 x3, .int .i64 x4, .int .i64 x5, .string x6, .bool x7] 79)).heap.size := by simp; omega
  clear HB0
  go_enter Try.func41, Try.ntmps41
  go_wp2_with fail
  obtain ⟨bx, hbx⟩ : ∃ bx, bx = w.heap.size := ⟨_, rfl⟩
  rw [← hbx] at HK HB1
  rw [← hbx]
  clear hbx
  generalize w.alloc (.cells #[.int .i64 6, .int .i64 x1, .int .i64 x2, .int .i64 x3, .int .i64 x4, .int .i64 x5, .string x6, .bool x7] 79) = wb at *
  clear hB
  have HS : Aside0 (∀ w' : World, w'.heap[bx]? = wb.heap[bx]? → w'.cell? ⟨bx, 0, none⟩ = some (.int .i64 6) ∧ w'.cell? ⟨bx, 1, none⟩ = some (.int .i64 x1) ∧ w'.cell? ⟨bx, 2, none⟩ = some (.int .i64 x2) ∧ w'.cell? ⟨bx, 3, none⟩ = some (.int .i64 x3) ∧ w'.cell? ⟨bx, 4, none⟩ = some (.int .i64 x4) ∧ w'.cell? ⟨bx, 5, none⟩ = some (.int .i64 x5) ∧ w'.cell? ⟨bx, 6, none⟩ = some (.string x6)) :=
    ⟨fun w' e => by have hq := e.trans HK.out; exact ⟨(blk_cell hq 0).trans rfl, (blk_cell hq 1).trans rfl, (blk_cell hq 2).trans rfl, (blk_cell hq 3).trans rfl, (blk_cell hq 4).trans rfl, (blk_cell hq 5).trans rfl, (blk_cell hq 6).trans rfl⟩⟩

  go_region_held3 (fun w' => w'.cell? ⟨bx, 0, none⟩ = some (.int .i64 6) ∧ w'.cell? ⟨bx, 1, none⟩ = some (.int .i64 x1) ∧ w'.cell? ⟨bx, 2, none⟩ = some (.int .i64 x2) ∧ w'.cell? ⟨bx, 3, none⟩ = some (.int .i64 x3) ∧ w'.cell? ⟨bx, 4, none⟩ = some (.int .i64 x4) ∧ w'.cell? ⟨bx, 5, none⟩ = some (.int .i64 x5) ∧ w'.cell? ⟨bx, 6, none⟩ = some (.string x6))
    (first
      | exact HS.out _ rfl
      | exact HS.out _ ((HK2.out.1 bx (.inr rfl)).trans (HK1.out.1 bx (.inr rfl)))
      | exact HS.out _ (HK1.out.1 bx (.inr rfl)))
    (first
      | (go_at_call 49; refine (fill_f x2 x4 x5 HB1.out.drew.hm hs).mono ?_; rintro e w1 ⟨rfl, hp1⟩; obtain ⟨g1, c1, hb2, hk1⟩ := HB1.out.drew.turnM hp1 hB1; have HB2 := Aside0.mk hb2; have HK1 := Aside0.mk hk1; have hB2 : B ≤ w1.heap.size := Nat.le_trans hB1 hk1.2.size; clear hp1 hb2 hk1)
      | (go_at_call 70; refine (rfill_f x2 x4 x5 HB2.out.hr hs).mono ?_; rintro e w2 ⟨rfl, hp1⟩; obtain ⟨g2, c2, hb3, hk2⟩ := HB2.out.turnR hp1 hB2; have HB3 := Aside0.mk hb3; have HK2 := Aside0.mk hk2; clear hp1 hb3 hk2))
  go_wp2_with fail
  go_ret
  exact ⟨rfl, ⟨g1, c1, g2, c2, go, co, gq, cq, (fillF S x2 x4 x5).1, So, HB3.out.mono (fun k hk => .inl hk), ⟨by rw [fillF_len]; exact hs, by rw [fillF_len]; exact HL.out, HO.out⟩⟩, HE0.out.drew.trans ((HK1.out.trans HK2.out).sub fun k hk => .inl hk)⟩

set_option maxHeartbeats 4000000 in
set_option maxRecDepth 100000 in
theorem step_7 {K : Nat → Prop} {B : Nat} {w : World} {m r o q : Nat} {M b : Int} (x : S79) (h : StepInv K B w m r o q M b) (hM : -1 ≤ M ∧ M ≤ 16) (hB : B ≤ w.heap.size) (h0 : x.f0 = 7) :
    Calls Try.prog 41 #[.pointer (some ⟨m, 0, none⟩), .pointer (some ⟨o, 0, none⟩), .pointer (some ⟨r, 0, none⟩), .pointer (some ⟨q, 0, none⟩), .agg #[.int .i64 x.f0, .int .i64 x.f1, .int .i64 x.f2, .int .i64 x.f3, .int .i64 x.f4, .int .i64 x.f5, .string x.f6, .bool x.f7]] w
      fun e w' => e = .returned (.bool true) ∧ StepInv K B w' m r o q M b ∧ Kept8 K B w w' := by
  obtain ⟨gm, cm, gr, cr, go, co, gq, cq, S, So, hb0, hs, hl, ho⟩ := h
  have HB0 := Aside0.mk hb0
  have HL := Aside0.mk hl
  have HO := Aside0.mk ho
  obtain ⟨x0, x1, x2, x3, x4, x5, x6, x7⟩ := x
  have hso : So.length ≤ 1048576 := by omega
  clear hb0 hl ho
  replace h0 : x0 = 7 := h0
  subst h0
  have HK := Aside0.mk (blk_new w (.cells #[.int .i64 7, .int .i64 x1, .int .i64 x2, .int .i64 x3, .int .i64 x4, .int .i64 x5, .string x6, .bool x7] 79))
  have HB1 := Aside0.mk (HB0.out.box (.cells #[.int .i64 7, .int .i64 x1, .int .i64 x2, .int .i64 x3, .int .i64 x4, .int .i64 x5, .string x6, .bool x7] 79))
  have HE0 : Aside0 (Kept8 K B w (w.alloc (.cells #[.int .i64 7, .int .i64 x1, .int .i64 x2, .int .i64 x3, .int .i64 x4, .int .i64 x5, .string x6, .bool x7] 79))) := ⟨⟨fun k hk => Below.heap_alloc w _ k (HB0.out.kp k hk).1, (below_alloc (Below.refl w.heap.size w) _).mono hB⟩⟩
  have hB1 : B ≤ (w.alloc (.cells #[.int .i64 7, .int .i64 x1, .int .i64 x2, .int .i64 x3, .int .i64 x4, .int .i64 x5, .string x6, .bool x7] 79)).heap.size := by simp; omega
  clear HB0
  go_enter Try.func41, Try.ntmps41
  go_wp2_with fail
  obtain ⟨bx, hbx⟩ : ∃ bx, bx = w.heap.size := ⟨_, rfl⟩
  rw [← hbx] at HK HB1
  rw [← hbx]
  clear hbx
  generalize w.alloc (.cells #[.int .i64 7, .int .i64 x1, .int .i64 x2, .int .i64 x3, .int .i64 x4, .int .i64 x5, .string x6, .bool x7] 79) = wb at *
  clear hB
  have HS : Aside0 (∀ w' : World, w'.heap[bx]? = wb.heap[bx]? → w'.cell? ⟨bx, 0, none⟩ = some (.int .i64 7) ∧ w'.cell? ⟨bx, 1, none⟩ = some (.int .i64 x1) ∧ w'.cell? ⟨bx, 2, none⟩ = some (.int .i64 x2) ∧ w'.cell? ⟨bx, 3, none⟩ = some (.int .i64 x3) ∧ w'.cell? ⟨bx, 4, none⟩ = some (.int .i64 x4) ∧ w'.cell? ⟨bx, 5, none⟩ = some (.int .i64 x5) ∧ w'.cell? ⟨bx, 6, none⟩ = some (.string x6)) :=
    ⟨fun w' e => by have hq := e.trans HK.out; exact ⟨(blk_cell hq 0).trans rfl, (blk_cell hq 1).trans rfl, (blk_cell hq 2).trans rfl, (blk_cell hq 3).trans rfl, (blk_cell hq 4).trans rfl, (blk_cell hq 5).trans rfl, (blk_cell hq 6).trans rfl⟩⟩

  go_region_held3 (fun w' => w'.cell? ⟨bx, 0, none⟩ = some (.int .i64 7) ∧ w'.cell? ⟨bx, 1, none⟩ = some (.int .i64 x1) ∧ w'.cell? ⟨bx, 2, none⟩ = some (.int .i64 x2) ∧ w'.cell? ⟨bx, 3, none⟩ = some (.int .i64 x3) ∧ w'.cell? ⟨bx, 4, none⟩ = some (.int .i64 x4) ∧ w'.cell? ⟨bx, 5, none⟩ = some (.int .i64 x5) ∧ w'.cell? ⟨bx, 6, none⟩ = some (.string x6))
    (first
      | exact HS.out _ rfl
      | exact HS.out _ ((HK2.out.1 bx (.inr rfl)).trans (HK1.out.1 bx (.inr rfl)))
      | exact HS.out _ (HK1.out.1 bx (.inr rfl)))
    (first
      | (go_at_call 36; refine (copy_f x2 x3 x5 HB1.out.drew.hm HB1.out.drew.hm hs hs).mono ?_; rintro e w1 ⟨rfl, hp1⟩; obtain ⟨g1, c1, hb2, hk1⟩ := HB1.out.drew.turnM hp1 hB1; have HB2 := Aside0.mk hb2; have HK1 := Aside0.mk hk1; have hB2 : B ≤ w1.heap.size := Nat.le_trans hB1 hk1.2.size; clear hp1 hb2 hk1)
      | (go_at_call 71; refine (rcopy_f x2 x3 x5 HB2.out.hr HB2.out.hr hs hs).mono ?_; rintro e w2 ⟨rfl, hp1⟩; obtain ⟨g2, c2, hb3, hk2⟩ := HB2.out.turnR hp1 hB2; have HB3 := Aside0.mk hb3; have HK2 := Aside0.mk hk2; clear hp1 hb3 hk2))
  go_wp2_with fail
  go_ret
  exact ⟨rfl, ⟨g1, c1, g2, c2, go, co, gq, cq, (copyF S x2 S x3 x5).1, So, HB3.out.mono (fun k hk => .inl hk), ⟨by rw [copyF_len]; exact hs, by rw [copyF_len]; exact HL.out, HO.out⟩⟩, HE0.out.drew.trans ((HK1.out.trans HK2.out).sub fun k hk => .inl hk)⟩

set_option maxHeartbeats 4000000 in
set_option maxRecDepth 100000 in
theorem step_8 {K : Nat → Prop} {B : Nat} {w : World} {m r o q : Nat} {M b : Int} (x : S79) (h : StepInv K B w m r o q M b) (hM : -1 ≤ M ∧ M ≤ 16) (hB : B ≤ w.heap.size) (h0 : x.f0 = 8) :
    Calls Try.prog 41 #[.pointer (some ⟨m, 0, none⟩), .pointer (some ⟨o, 0, none⟩), .pointer (some ⟨r, 0, none⟩), .pointer (some ⟨q, 0, none⟩), .agg #[.int .i64 x.f0, .int .i64 x.f1, .int .i64 x.f2, .int .i64 x.f3, .int .i64 x.f4, .int .i64 x.f5, .string x.f6, .bool x.f7]] w
      fun e w' => e = .returned (.bool true) ∧ StepInv K B w' m r o q M b ∧ Kept8 K B w w' := by
  obtain ⟨gm, cm, gr, cr, go, co, gq, cq, S, So, hb0, hs, hl, ho⟩ := h
  have HB0 := Aside0.mk hb0
  have HL := Aside0.mk hl
  have HO := Aside0.mk ho
  obtain ⟨x0, x1, x2, x3, x4, x5, x6, x7⟩ := x
  have hso : So.length ≤ 1048576 := by omega
  clear hb0 hl ho
  replace h0 : x0 = 8 := h0
  subst h0
  have HK := Aside0.mk (blk_new w (.cells #[.int .i64 8, .int .i64 x1, .int .i64 x2, .int .i64 x3, .int .i64 x4, .int .i64 x5, .string x6, .bool x7] 79))
  have HB1 := Aside0.mk (HB0.out.box (.cells #[.int .i64 8, .int .i64 x1, .int .i64 x2, .int .i64 x3, .int .i64 x4, .int .i64 x5, .string x6, .bool x7] 79))
  have HE0 : Aside0 (Kept8 K B w (w.alloc (.cells #[.int .i64 8, .int .i64 x1, .int .i64 x2, .int .i64 x3, .int .i64 x4, .int .i64 x5, .string x6, .bool x7] 79))) := ⟨⟨fun k hk => Below.heap_alloc w _ k (HB0.out.kp k hk).1, (below_alloc (Below.refl w.heap.size w) _).mono hB⟩⟩
  have hB1 : B ≤ (w.alloc (.cells #[.int .i64 8, .int .i64 x1, .int .i64 x2, .int .i64 x3, .int .i64 x4, .int .i64 x5, .string x6, .bool x7] 79)).heap.size := by simp; omega
  clear HB0
  go_enter Try.func41, Try.ntmps41
  go_wp2_with fail
  obtain ⟨bx, hbx⟩ : ∃ bx, bx = w.heap.size := ⟨_, rfl⟩
  rw [← hbx] at HK HB1
  rw [← hbx]
  clear hbx
  generalize w.alloc (.cells #[.int .i64 8, .int .i64 x1, .int .i64 x2, .int .i64 x3, .int .i64 x4, .int .i64 x5, .string x6, .bool x7] 79) = wb at *
  clear hB
  have HS : Aside0 (∀ w' : World, w'.heap[bx]? = wb.heap[bx]? → w'.cell? ⟨bx, 0, none⟩ = some (.int .i64 8) ∧ w'.cell? ⟨bx, 1, none⟩ = some (.int .i64 x1) ∧ w'.cell? ⟨bx, 2, none⟩ = some (.int .i64 x2) ∧ w'.cell? ⟨bx, 3, none⟩ = some (.int .i64 x3) ∧ w'.cell? ⟨bx, 4, none⟩ = some (.int .i64 x4) ∧ w'.cell? ⟨bx, 5, none⟩ = some (.int .i64 x5) ∧ w'.cell? ⟨bx, 6, none⟩ = some (.string x6)) :=
    ⟨fun w' e => by have hq := e.trans HK.out; exact ⟨(blk_cell hq 0).trans rfl, (blk_cell hq 1).trans rfl, (blk_cell hq 2).trans rfl, (blk_cell hq 3).trans rfl, (blk_cell hq 4).trans rfl, (blk_cell hq 5).trans rfl, (blk_cell hq 6).trans rfl⟩⟩

  go_region_held3 (fun w' => w'.cell? ⟨bx, 0, none⟩ = some (.int .i64 8) ∧ w'.cell? ⟨bx, 1, none⟩ = some (.int .i64 x1) ∧ w'.cell? ⟨bx, 2, none⟩ = some (.int .i64 x2) ∧ w'.cell? ⟨bx, 3, none⟩ = some (.int .i64 x3) ∧ w'.cell? ⟨bx, 4, none⟩ = some (.int .i64 x4) ∧ w'.cell? ⟨bx, 5, none⟩ = some (.int .i64 x5) ∧ w'.cell? ⟨bx, 6, none⟩ = some (.string x6))
    (first
      | exact HS.out _ rfl
      | exact HS.out _ ((HK2.out.1 bx (.inr rfl)).trans (HK1.out.1 bx (.inr rfl)))
      | exact HS.out _ (HK1.out.1 bx (.inr rfl)))
    (first
      | (go_at_call 36; refine (copy_f x2 x3 x5 HB1.out.drew.hm HB1.out.drew.ho hs hso).mono ?_; rintro e w1 ⟨rfl, hp1⟩; obtain ⟨g1, c1, hb2, hk1⟩ := HB1.out.drew.turnM hp1 hB1; have HB2 := Aside0.mk hb2; have HK1 := Aside0.mk hk1; have hB2 : B ≤ w1.heap.size := Nat.le_trans hB1 hk1.2.size; clear hp1 hb2 hk1)
      | (go_at_call 71; refine (rcopy_f x2 x3 x5 HB2.out.hr HB2.out.hq hs hso).mono ?_; rintro e w2 ⟨rfl, hp1⟩; obtain ⟨g2, c2, hb3, hk2⟩ := HB2.out.turnR hp1 hB2; have HB3 := Aside0.mk hb3; have HK2 := Aside0.mk hk2; clear hp1 hb3 hk2))
  go_wp2_with fail
  go_ret
  exact ⟨rfl, ⟨g1, c1, g2, c2, go, co, gq, cq, (copyF S x2 So x3 x5).1, So, HB3.out.mono (fun k hk => .inl hk), ⟨by rw [copyF_len]; exact hs, by rw [copyF_len]; exact HL.out, HO.out⟩⟩, HE0.out.drew.trans ((HK1.out.trans HK2.out).sub fun k hk => .inl hk)⟩

set_option maxHeartbeats 4000000 in
set_option maxRecDepth 100000 in
theorem step_9 {K : Nat → Prop} {B : Nat} {w : World} {m r o q : Nat} {M b : Int} (x : S79) (h : StepInv K B w m r o q M b) (hM : -1 ≤ M ∧ M ≤ 16) (hB : B ≤ w.heap.size) (h0 : x.f0 ≠ 0 ∧ x.f0 ≠ 1 ∧ x.f0 ≠ 2 ∧ x.f0 ≠ 3 ∧ x.f0 ≠ 4 ∧ x.f0 ≠ 5 ∧ x.f0 ≠ 6 ∧ x.f0 ≠ 7 ∧ x.f0 ≠ 8) :
    Calls Try.prog 41 #[.pointer (some ⟨m, 0, none⟩), .pointer (some ⟨o, 0, none⟩), .pointer (some ⟨r, 0, none⟩), .pointer (some ⟨q, 0, none⟩), .agg #[.int .i64 x.f0, .int .i64 x.f1, .int .i64 x.f2, .int .i64 x.f3, .int .i64 x.f4, .int .i64 x.f5, .string x.f6, .bool x.f7]] w
      fun e w' => e = .returned (.bool true) ∧ StepInv K B w' m r o q M b ∧ Kept8 K B w w' := by
  obtain ⟨gm, cm, gr, cr, go, co, gq, cq, S, So, hb0, hs, hl, ho⟩ := h
  have HB0 := Aside0.mk hb0
  have HL := Aside0.mk hl
  have HO := Aside0.mk ho
  obtain ⟨x0, x1, x2, x3, x4, x5, x6, x7⟩ := x
  have hso : So.length ≤ 1048576 := by omega
  clear hb0 hl ho
  have n0 : (x0 == 0) = false := beq_eq_false_iff_ne.mpr h0.1
  have n1 : (x0 == 1) = false := beq_eq_false_iff_ne.mpr h0.2.1
  have n2 : (x0 == 2) = false := beq_eq_false_iff_ne.mpr h0.2.2.1
  have n3 : (x0 == 3) = false := beq_eq_false_iff_ne.mpr h0.2.2.2.1
  have n4 : (x0 == 4) = false := beq_eq_false_iff_ne.mpr h0.2.2.2.2.1
  have n5 : (x0 == 5) = false := beq_eq_false_iff_ne.mpr h0.2.2.2.2.2.1
  have n6 : (x0 == 6) = false := beq_eq_false_iff_ne.mpr h0.2.2.2.2.2.2.1
  have n7 : (x0 == 7) = false := beq_eq_false_iff_ne.mpr h0.2.2.2.2.2.2.2.1
  have n8 : (x0 == 8) = false := beq_eq_false_iff_ne.mpr h0.2.2.2.2.2.2.2.2
  clear h0
  have HK := Aside0.mk (blk_new w (.cells #[.int .i64 x0, .int .i64 x1, .int .i64 x2, .int .i64 x3, .int .i64 x4, .int .i64 x5, .string x6, .bool x7] 79))
  have HB1 := Aside0.mk (HB0.out.box (.cells #[.int .i64 x0, .int .i64 x1, .int .i64 x2, .int .i64 x3, .int .i64 x4, .int .i64 x5, .string x6, .bool x7] 79))
  have HE0 : Aside0 (Kept8 K B w (w.alloc (.cells #[.int .i64 x0, .int .i64 x1, .int .i64 x2, .int .i64 x3, .int .i64 x4, .int .i64 x5, .string x6, .bool x7] 79))) := ⟨⟨fun k hk => Below.heap_alloc w _ k (HB0.out.kp k hk).1, (below_alloc (Below.refl w.heap.size w) _).mono hB⟩⟩
  have hB1 : B ≤ (w.alloc (.cells #[.int .i64 x0, .int .i64 x1, .int .i64 x2, .int .i64 x3, .int .i64 x4, .int .i64 x5, .string x6, .bool x7] 79)).heap.size := by simp; omega
  clear HB0
  go_enter Try.func41, Try.ntmps41
  go_wp2_with fail
  obtain ⟨bx, hbx⟩ : ∃ bx, bx = w.heap.size := ⟨_, rfl⟩
  rw [← hbx] at HK HB1
  rw [← hbx]
  clear hbx
  generalize w.alloc (.cells #[.int .i64 x0, .int .i64 x1, .int .i64 x2, .int .i64 x3, .int .i64 x4, .int .i64 x5, .string x6, .bool x7] 79) = wb at *
  clear hB
  have HS : Aside0 (∀ w' : World, w'.heap[bx]? = wb.heap[bx]? → w'.cell? ⟨bx, 0, none⟩ = some (.int .i64 x0) ∧ w'.cell? ⟨bx, 1, none⟩ = some (.int .i64 x1) ∧ w'.cell? ⟨bx, 2, none⟩ = some (.int .i64 x2) ∧ w'.cell? ⟨bx, 3, none⟩ = some (.int .i64 x3) ∧ w'.cell? ⟨bx, 4, none⟩ = some (.int .i64 x4) ∧ w'.cell? ⟨bx, 5, none⟩ = some (.int .i64 x5) ∧ w'.cell? ⟨bx, 6, none⟩ = some (.string x6)) :=
    ⟨fun w' e => by have hq := e.trans HK.out; exact ⟨(blk_cell hq 0).trans rfl, (blk_cell hq 1).trans rfl, (blk_cell hq 2).trans rfl, (blk_cell hq 3).trans rfl, (blk_cell hq 4).trans rfl, (blk_cell hq 5).trans rfl, (blk_cell hq 6).trans rfl⟩⟩

  go_region_held3 (fun w' => w'.cell? ⟨bx, 0, none⟩ = some (.int .i64 x0) ∧ w'.cell? ⟨bx, 1, none⟩ = some (.int .i64 x1) ∧ w'.cell? ⟨bx, 2, none⟩ = some (.int .i64 x2) ∧ w'.cell? ⟨bx, 3, none⟩ = some (.int .i64 x3) ∧ w'.cell? ⟨bx, 4, none⟩ = some (.int .i64 x4) ∧ w'.cell? ⟨bx, 5, none⟩ = some (.int .i64 x5) ∧ w'.cell? ⟨bx, 6, none⟩ = some (.string x6))
    (first
      | exact HS.out _ rfl
      | exact HS.out _ ((HK2.out.1 bx (.inr rfl)).trans (HK1.out.1 bx (.inr rfl)))
      | exact HS.out _ (HK1.out.1 bx (.inr rfl)))
    (first
      | (go_at_call 36; refine (copy_f x2 x3 x5 HB1.out.drew.ho HB1.out.drew.hm hso hs).mono ?_; rintro e w1 ⟨rfl, hp1⟩; obtain ⟨g1, c1, hb2, hk1⟩ := HB1.out.drew.turnO hp1 hB1; have HB2 := Aside0.mk hb2; have HK1 := Aside0.mk hk1; have hB2 : B ≤ w1.heap.size := Nat.le_trans hB1 hk1.2.size; clear hp1 hb2 hk1)
      | (go_at_call 71; refine (rcopy_f x2 x3 x5 HB2.out.hq HB2.out.hr hso hs).mono ?_; rintro e w2 ⟨rfl, hp1⟩; obtain ⟨g2, c2, hb3, hk2⟩ := HB2.out.turnQ hp1 hB2; have HB3 := Aside0.mk hb3; have HK2 := Aside0.mk hk2; clear hp1 hb3 hk2))
  go_wp2_with fail
  go_ret
  exact ⟨rfl, ⟨gm, cm, gr, cr, g1, c1, g2, c2, S, (copyF So x2 S x3 x5).1, HB3.out.mono (fun k hk => .inl hk), ⟨hs, HL.out, by rw [copyF_len]; exact HO.out⟩⟩, HE0.out.drew.trans ((HK1.out.trans HK2.out).sub fun k hk => .inl hk)⟩
end Go.Proofs.Ytmpmcffhlnlejaa.MemEq
