/- The walk of the law MemPlays: it returns true at whatever limits and deeds. -/
import Derived.Test.YtmpmcffhlnlejaaMemPlay4
import Derived.Test.YtmpmcffhlnlejaaMemMade
import Derived.StillTailTactics
namespace Go.Proofs.Ytmpmcffhlnlejaa.MemEq
open Go.RowKit Go.Proofs.YtmpmcffhlnlejaaW.PrintWords Go.Proofs.YtmpmcffhlnlejaaW.PrintLast Go.Proofs.YtmpmcffhlnlejaaW.PrintMore
open Go.Proofs.Ytmpmcffhlnlejaa.PMemBack
set_option linter.unusedVariables false
set_option linter.unusedSimpArgs false

set_option maxHeartbeats 8000000 in
set_option maxRecDepth 100000 in
theorem plays_no (l : List S79) (A : Option Addr) (c : Nat) (mn mx : Int) (W : World) (hl : k79.C W A l.length l) (hc : l.length ≤ c) (ho : limOk mn mx = false) :
    Calls Try.prog 13 #[.agg #[.int .i64 mn, .int .i64 mx], .slice A l.length c] W fun e w' => e = .returned (.bool true) ∧ Below W.heap.size W w' := by
  have hk := fun w => check_calls mn mx w
  rw [ho] at hk
  have HK := Aside0.mk hk
  have HN := Aside0.mk (fun w => @new_no mn mx w ho)
  have HR := Aside0.mk (fun w => @rnew_no mn mx w ho)
  have K0 := blk_new W (.cells #[.int .i64 mn, .int .i64 mx] 69)
  have HB0 := Aside0.mk (below_alloc (Below.refl W.heap.size W) (.cells #[.int .i64 mn, .int .i64 mx] 69))
  clear hk hl ho
  go_enter Try.func13, Try.ntmps13
  go_wp2_with fail
  refine (HN.out _).mono ?_
  rintro e w1 ⟨rfl, hb⟩
  have z0 : w1.cell? ⟨W.heap.size, 0, none⟩ = some (.int .i64 mn) := (blk_cell (blk_below K0 hb) 0).trans rfl
  have z1 : w1.cell? ⟨W.heap.size, 1, none⟩ = some (.int .i64 mx) := (blk_cell (blk_below K0 hb) 1).trans rfl
  have K1 := Aside0.mk (blk_below K0 hb)
  have HB1 := Aside0.mk (below_step HB0.out hb)
  clear hb K0
  go_wp2_with fail
  refine (HR.out _).mono ?_
  rintro e w2 ⟨rfl, hb⟩
  clear z0 z1
  have z0 : w2.cell? ⟨W.heap.size, 0, none⟩ = some (.int .i64 mn) := (blk_cell (blk_below K1.out hb) 0).trans rfl
  have z1 : w2.cell? ⟨W.heap.size, 1, none⟩ = some (.int .i64 mx) := (blk_cell (blk_below K1.out hb) 1).trans rfl
  have HB2 := Aside0.mk (below_step HB1.out hb)
  clear hb
  go_wp2_with fail
  refine (HK.out _).mono ?_
  rintro e w3 ⟨rfl, hb⟩
  have HB3 := Aside0.mk (below_step HB2.out hb)
  clear hb z0 z1
  go_wp2_with fail
  refine (awake_calls _).mono ?_
  rintro e w4 ⟨rfl, hb⟩
  have HE := Aside0.mk (below_step HB3.out hb)
  clear hb
  go_wp2_with fail
  go_ret
  exact ⟨rfl, HE.out⟩

/-- Four memories, made one behind the other, lie apart. -/
theorem apart8 {m gm r gr o go q gq N1 N2 N3 : Nat} (n1 : m ≠ gm) (n2 : r ≠ gr) (n3 : o ≠ go) (n4 : q ≠ gq) (h1 : m < N1) (h2 : gm < N1) (h3 : N1 ≤ r) (h4 : N1 ≤ gr) (h5 : r < N2) (h6 : gr < N2) (h7 : N2 ≤ o) (h8 : N2 ≤ go) (h9 : o < N3) (h10 : go < N3) (h11 : N3 ≤ q) (h12 : N3 ≤ gq) :
  m ≠ gm ∧ m ≠ r ∧ m ≠ gr ∧ m ≠ o ∧ m ≠ go ∧ m ≠ q ∧ m ≠ gq ∧ gm ≠ r ∧ gm ≠ gr ∧ gm ≠ o ∧ gm ≠ go ∧ gm ≠ q ∧ gm ≠ gq ∧ r ≠ gr ∧ r ≠ o ∧ r ≠ go ∧ r ≠ q ∧ r ≠ gq ∧ gr ≠ o ∧ gr ≠ go ∧ gr ≠ q ∧ gr ≠ gq ∧ o ≠ go ∧ o ≠ q ∧ o ≠ gq ∧ go ≠ q ∧ go ≠ gq ∧ q ≠ gq := by
  refine ⟨n1, ?_, ?_, ?_, ?_, ?_, ?_, ?_, ?_, ?_, ?_, ?_, ?_, n2, ?_, ?_, ?_, ?_, ?_, ?_, ?_, ?_, n3, ?_, ?_, ?_, ?_, n4⟩ <;> clear n1 n2 n3 n4 <;> omega

/-- The deeds' block. -/
def DeedK (A : Option Addr) (n : Nat) : Nat → Prop := fun k => 0 < n ∧ ∃ ad, A = some ad ∧ ad.block = k
theorem C79_kept {A : Option Addr} {l : List S79} {B : Nat} {w w' : World} (h : k79.C w A l.length l) (hk : Kept8 (DeedK A l.length) B w w') : k79.C w' A l.length l :=
  C79_block h fun ad e h0 => hk.1 _ ⟨h0, ad, e, rfl⟩

/-- Four new memories and some deeds. -/
theorem plays_start {w1 w2 w3 w4 w5 : World} {m gm cm r gr cr o go co q gq cq B : Nat} {S So : List UInt8} {M b : Int} {A : Option Addr} {l : List S79}
    (hm : MemAt 105 w1 m gm cm S M b) (hr : MemAt 83 w2 r gr cr S M b) (ho : MemAt 105 w3 o go co So 1 1) (hq : MemAt 83 w4 q gq cq So 1 1)
    (b2 : Below w1.heap.size w1 w2) (b3 : Below w2.heap.size w2 w3) (b4 : Below w3.heap.size w3 w4) (b5 : Below w4.heap.size w4 w5)
    (l1 : B ≤ m ∧ B ≤ gm) (l2 : w1.heap.size ≤ r ∧ w1.heap.size ≤ gr) (l3 : w2.heap.size ≤ o ∧ w2.heap.size ≤ go) (l4 : w3.heap.size ≤ q ∧ w3.heap.size ≤ gq)
    (hC : k79.C w5 A l.length l) (hF : ∀ ad, A = some ad → w4.heap.size ≤ ad.block) (hs : S.length ≤ 1048576 ∧ S.length % 65536 = 0) (hso : So.length = 65536) :
    StepInv (DeedK A l.length) B w5 m r o q M b := by
  have k1 := hm.lt
  have k2 := hr.lt
  have k3 := ho.lt
  have k4 := hq.lt
  have s2 := b2.size
  have s3 := b3.size
  have s4 := b4.size
  refine ⟨gm, cm, gr, cr, go, co, gq, cq, S, So, ⟨(((hm.below b2).below b3).below b4).below b5, ((hr.below b3).below b4).below b5, (ho.below b4).below b5, hq.below b5, ?_, ?_, ?_⟩, hs.1, hs.2, hso⟩
  · exact apart8 (N1 := w1.heap.size) (N2 := w2.heap.size) (N3 := w3.heap.size) hm.ne hr.ne ho.ne hq.ne k1.1 k1.2 l2.1 l2.2 k2.1 k2.2 l3.1 l3.2 k3.1 k3.2 l4.1 l4.2
  · omega
  · rintro k ⟨h0, ad, rfl, rfl⟩
    have h1 := hF ad rfl
    have h2 := C79_lt hC h0
    refine ⟨h2, ?_, ?_, ?_, ?_, ?_, ?_, ?_, ?_⟩ <;> omega

theorem StepInv.below {K : Nat → Prop} {B : Nat} {w w' : World} {m r o q : Nat} {M b : Int} (h : StepInv K B w m r o q M b) (hb : Below w.heap.size w w') : StepInv K B w' m r o q M b := by
  obtain ⟨gm, cm, gr, cr, go, co, gq, cq, S, So, h0, h1⟩ := h
  exact ⟨gm, cm, gr, cr, go, co, gq, cq, S, So, h0.below hb, h1⟩

set_option maxHeartbeats 16000000 in
set_option maxRecDepth 100000 in
theorem plays_yes (l : List S79) (A : Option Addr) (c : Nat) (mn : Nat) (mx : Int) (W : World) (hl : k79.C W A l.length l) (hc : l.length ≤ c) (ho : limOk mn mx = true) :
    Calls Try.prog 13 #[.agg #[.int .i64 mn, .int .i64 mx], .slice A l.length c] W fun e w' => e = .returned (.bool true) ∧ Below W.heap.size W w' := by
  have hk := fun w => check_calls mn mx w
  rw [ho] at hk
  have HK := Aside0.mk hk
  have HN := Aside0.mk (fun w => @new_yes mn mx w ho)
  have HR := Aside0.mk (fun w => @rnew_yes mn mx w ho)
  have HN1 := Aside0.mk (fun w => @new_yes 1 1 w (by decide))
  have HR1 := Aside0.mk (fun w => @rnew_yes 1 1 w (by decide))
  have ho' := of_decide_eq_true ho
  have hM : -1 ≤ (if mx < 0 then 16 else mx) ∧ (if mx < 0 then 16 else mx) ≤ 16 := by split <;> omega
  obtain ⟨M, hMM⟩ : ∃ M : Int, M = if mx < 0 then 16 else mx := ⟨_, rfl⟩
  obtain ⟨S0, hS0⟩ : ∃ S : List UInt8, S = List.replicate (mn * 65536) 0 := ⟨_, rfl⟩
  obtain ⟨T0, hT0⟩ : ∃ S : List UInt8, S = List.replicate (1 * 65536) 0 := ⟨_, rfl⟩
  have hSl : S0.length ≤ 1048576 ∧ S0.length % 65536 = 0 := by rw [hS0, List.length_replicate]; omega
  have hTl : T0.length = 65536 := by rw [hT0, List.length_replicate]
  rw [← hMM] at hM HN HR
  rw [← hS0] at HN HR
  rw [← hT0, if_neg (by decide)] at HN1 HR1
  have HSL := Aside0.mk hSl
  have HTL := Aside0.mk hTl
  have K0 := blk_new W (.cells #[.int .i64 mn, .int .i64 mx] 69)
  have HB0 := Aside0.mk (below_alloc (Below.refl W.heap.size W) (.cells #[.int .i64 mn, .int .i64 mx] 69))
  have HL := Aside0.mk hl
  clear hk hl ho hMM hS0 hT0 hSl hTl ho'
  go_enter Try.func13, Try.ntmps13
  go_wp2_with fail
  refine (HN.out _).mono ?_
  rintro e w1 ⟨m, gm, rfl, hp1, hg1, hm1, hb⟩
  have HM1 := Aside0.mk hm1
  have HL1 := Aside0.mk (show W.heap.size ≤ m ∧ W.heap.size ≤ gm by simp at hp1 hg1; omega)
  have z0 : w1.cell? ⟨W.heap.size, 0, none⟩ = some (.int .i64 mn) := (blk_cell (blk_below K0 hb) 0).trans rfl
  have z1 : w1.cell? ⟨W.heap.size, 1, none⟩ = some (.int .i64 mx) := (blk_cell (blk_below K0 hb) 1).trans rfl
  have K1 := Aside0.mk (blk_below K0 hb)
  have HB1 := Aside0.mk (below_step HB0.out hb)
  clear hb K0 hp1 hg1 hm1
  go_wp2_with fail
  refine (HR.out _).mono ?_
  rintro e w2 ⟨r, gr, rfl, hp1, hg1, hm1, hb⟩
  have HM2 := Aside0.mk hm1
  have HL2 := Aside0.mk (And.intro hp1 hg1)
  have HX2 := Aside0.mk hb
  clear z0 z1
  have z0 : w2.cell? ⟨W.heap.size, 0, none⟩ = some (.int .i64 mn) := (blk_cell (blk_below K1.out hb) 0).trans rfl
  have z1 : w2.cell? ⟨W.heap.size, 1, none⟩ = some (.int .i64 mx) := (blk_cell (blk_below K1.out hb) 1).trans rfl
  have HB2 := Aside0.mk (below_step HB1.out hb)
  clear hb hp1 hg1 hm1
  go_wp2_with fail
  refine (HK.out _).mono ?_
  rintro e w2' ⟨rfl, hb⟩
  have HB2' := Aside0.mk (below_step HB2.out hb)
  have HX2' := Aside0.mk (below_step HX2.out hb)
  have HM2' := Aside0.mk (HM2.out.below hb)
  have HS2 := Aside0.mk hb.size
  clear hb z0 z1
  go_wp2_with fail
  refine (HN1.out _).mono ?_
  rintro e w3 ⟨o, go, rfl, hp1, hg1, hm1, hb⟩
  have HM3 := Aside0.mk hm1
  have HL3 := Aside0.mk (And.intro hp1 hg1)
  have HX3 := Aside0.mk hb
  have HB3 := Aside0.mk (below_step HB2'.out hb)
  clear hb hp1 hg1 hm1
  go_wp2_with fail
  refine (HR1.out _).mono ?_
  rintro e w4 ⟨q, gq, rfl, hp1, hg1, hm1, hb⟩
  have HM4 := Aside0.mk hm1
  have HL4 := Aside0.mk (And.intro hp1 hg1)
  have HX4 := Aside0.mk hb
  have HB4 := Aside0.mk (below_step HB3.out hb)
  clear hb hp1 hg1 hm1
  go_wp2_with fail
  refine (some_calls (Kd.C_below HL.out HB4.out) hc).mono ?_
  rintro e w5 ⟨A', c', rl, rfl, h60, hC, hF, hb⟩
  have HB5 := Aside0.mk (below_step HB4.out hb)
  have HI := Aside0.mk (plays_start (B := W.heap.size) HM1.out HM2'.out HM3.out HM4.out HX2'.out HX3.out HX4.out hb HL1.out HL2.out HL3.out HL4.out hC hF HSL.out HTL.out)
  have HC := Aside0.mk hC
  clear hb hF hC HM1 HM2 HM2' HM3 HM4 HX2 HX2' HX3 HX4 HL1 HL2 HL3 HL4 HB0 HB1 HB2 HB2' HB3 HB4 HL HS2 HN HR HN1 HR1 HK K1
  go_wp2_with fail
  go_loopw [13] (fun v13 wr => ∃ k : Nat, k ≤ rl.length ∧ v13 = .int .i64 k ∧ Aside0 (StepInv (DeedK A' rl.length) W.heap.size wr m r o q M mx) ∧ Aside0 (Below W.heap.size W wr) ∧ Aside0 (k79.C wr A' rl.length rl)) (fun v13 _ => rl.length - (intOf v13).toNat)
  case atStart => exact ⟨0, Nat.zero_le _, rfl, HI, HB5, HC⟩
  case round =>
    clear HI HB5 HC
    obtain ⟨k, hk, rfl, HI, HB, HC⟩ := hrel
    by_cases hlt : k < rl.length
    · obtain ⟨ad, hae, x0, x1, x2, x3, x4, x5, x6, x7⟩ := at_T79 HC.out (k : Int) (by omega) (by omega)
      rw [Int.toNat_natCast] at x0 x1 x2 x3 x4 x5 x6 x7
      cases hae
      generalize rd_T79 rl (k : Int) = x at *
      have HI' := HI.out
      obtain ⟨gm2, cm2, gr2, cr2, go2, co2, gq2, cq2, S, So, hbo, hs, hl, ho⟩ := HI'
      have zr := hbo.hr.c0
      clear hbo hl ho
      have i0 : (0 : Int) ≤ (k : Int) := by omega
      have i1 : (k : Int) < (rl.length : Int) := by omega
      go_wp2_with fail
      go_region_with (first
        | (go_at_call 42; refine (aimed_calls x (S.length : Int) _).mono ?_; rintro e w1 ⟨y, rfl, hb⟩; have hq := below_step (below_drew1 (Below.refl wr.heap.size wr)) hb; have HI1 := Aside0.mk (HI.out.below hq); have HB1 := Aside0.mk (below_step HB.out hq); have HC1 := Aside0.mk (Kd.C_below HC.out hq); clear hb hq)
        | (go_at_call 41; refine (step_calls y HI1.out hM HB1.out.size).mono ?_; rintro e w2 ⟨rfl, hI, hk2⟩; have HI2 := Aside0.mk hI; have HB2 := Aside0.mk (HB1.out.trans hk2.2); have HC2 := Aside0.mk (C79_kept HC1.out hk2); clear hI hk2))
      all_goals
        clear x0 x1 x2 x3 x4 x5 x6 x7 zr HI HB HC HI1 HB1 HC1
        go_wp2_with fail
        go_roundw
        case rel => exact ⟨k + 1, by omega, by go_num, HI2, HB2, HC2⟩
        case measure => simp [intOf]; omega
    · obtain rfl : k = rl.length := by omega
      obtain ⟨gm2, cm2, gr2, cr2, go2, co2, gq2, cq2, S, So, hbo, hs, hl, ho⟩ := HI.out
      have HBO := Aside0.mk hbo
      have hso : So.length ≤ 1048576 := by omega
      clear hl ho hbo HI
      go_wp2_with fail
      refine (same_calls (fun n => (HBO.out.hm.drewN n).reads hs) HBO.out.hr hs).mono ?_
      rintro e w1 ⟨rfl, ⟨⟨d1, rfl⟩⟩⟩
      go_wp2_with fail
      refine (same_calls (fun n => ((HBO.out.drewN d1).ho.drewN n).reads hso) (HBO.out.drewN d1).hq hso).mono ?_
      rintro e w1 ⟨rfl, ⟨⟨d2, rfl⟩⟩⟩
      go_wp2_with fail
      refine (clone_calls (HBO.out.drewN (d1 + d2)).hm hs).mono ?_
      rintro e w6 ⟨p', rfl, hcl, hb⟩
      have HCL := Aside0.mk hcl
      have HB6 := Aside0.mk ((HBO.out.drewN (d1 + d2)).below hb)
      have HX6 := Aside0.mk (below_step (pw_below_drewN HB.out (d1 + d2)) hb)
      clear hcl hb
      go_wp2_with fail
      refine (same_calls (fun n => (HCL.out.drewN n).reads hs) HB6.out.hr hs).mono ?_
      rintro e w7 ⟨rfl, ⟨⟨d3, rfl⟩⟩⟩
      go_wp2_with fail
      refine (awake_calls _).mono ?_
      rintro e w8 ⟨rfl, hb⟩
      have HE := Aside0.mk (below_step (pw_below_drewN HX6.out d3) hb)
      clear hb
      go_wp2_with fail
      go_ret
      exact ⟨rfl, HE.out⟩

theorem law_plays (mn mx : Int) (l : List S79) (A : Option Addr) (c : Nat) (W : World) (hl : k79.C W A l.length l) (hc : l.length ≤ c) :
    Calls Try.prog 13 #[.agg #[.int .i64 mn, .int .i64 mx], .slice A l.length c] W fun e w' => e = .returned (.bool true) ∧ Below W.heap.size W w' := by
  cases h : limOk mn mx with
  | false => exact plays_no l A c mn mx W hl hc h
  | true =>
    obtain ⟨n, rfl⟩ := Int.eq_ofNat_of_zero_le (of_decide_eq_true h).1
    exact plays_yes l A c n mx W hl hc h
end Go.Proofs.Ytmpmcffhlnlejaa.MemEq
