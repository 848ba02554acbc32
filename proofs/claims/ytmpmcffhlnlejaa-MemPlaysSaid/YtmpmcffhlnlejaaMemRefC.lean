/- The reference's memories (scarfref04): Store, New, Grow. -/
import Derived.Test.YtmpmcffhlnlejaaMemRefB
namespace Go.Proofs.Ytmpmcffhlnlejaa.MemEq
open Go.RowKit Go.Proofs.YtmpmcffhlnlejaaW.PrintWords Go.Proofs.YtmpmcffhlnlejaaW.PrintLast Go.Proofs.YtmpmcffhlnlejaaW.PrintMore
set_option linter.unusedVariables false
set_option linter.unusedSimpArgs false

theorem rstore_no {w : World} {p g cap : Nat} {S : List UInt8} {most bound : Int} {op at_ v : Int} (h : MemAt 83 w p g cap S most bound) (hs : S.length ≤ 1048576)
    (hf : ((widthF op).2.2 && fits S.length at_ (widthF op).1) = false) :
    Calls Try.prog 65 #[.pointer (some ⟨p, 0, none⟩), .int .i64 op, .int .i64 at_, .int .i64 v] w fun e w' => e = .returned (.int .i64 4) ∧ Below w.heap.size w w' := by
  have HM := Aside0.mk h
  have hle := width_le op
  clear h
  have HW := Aside0.mk (fun w => rwidth_calls op w)
  have HF := Aside0.mk hf
  clear hf
  generalize (widthF op) = W at *
  obtain ⟨n, t, st⟩ := W
  replace hle : n ≤ 8 := hle
  cases st with
  | false =>
    clear HF
    go_enter Try.func65, Try.ntmps65
    go_wp2_with fail
    refine (HW.out w).mono ?_
    rintro e w1 ⟨rfl, hb⟩
    have HB := Aside0.mk hb
    clear hb
    go_wp2_with fail
    go_ret
    exact ⟨rfl, HB.out⟩
  | true =>
    have hff : fits S.length at_ n = false := by
      have := HF.out
      simpa using this
    clear HF
    go_enter Try.func65, Try.ntmps65
    go_wp2_with fail
    refine (HW.out w).mono ?_
    rintro e w1 ⟨rfl, hb⟩
    have HB := Aside0.mk hb
    have HM1 := Aside0.mk (HM.out.below hb)
    clear hb
    go_wp2_with fail
    refine (rin_no HM1.out hs hff).mono ?_
    rintro e w2 ⟨rfl, rfl⟩
    clear hff
    go_wp2_with fail
    go_ret
    exact ⟨rfl, HB.out⟩

theorem Turned.ofBelow {p g : Nat} {w w' : World} (h : Below w.heap.size w w') : Turned p g w w' := ⟨h.os, h.tape, h.output, h.size, fun k hk _ _ => h.block k hk⟩

theorem shr8 (v : Int) (k : Nat) : v / 2 ^ (8 * k) / 256 = v / 2 ^ (8 * (k + 1)) := by
  rw [show (2 : Int) ^ (8 * (k + 1)) = 2 ^ (8 * k) * 256 by rw [show 8 * (k + 1) = 8 * k + 8 by omega, Int.pow_add]; rfl]
  rw [Int.ediv_ediv_of_nonneg (Int.pow_nonneg (by decide))]

set_option maxHeartbeats 4000000 in
theorem rstore_yes {w : World} {p g cap : Nat} {S : List UInt8} {most bound : Int} {op v : Int} {a n : Nat} {t : Int} (h : MemAt 83 w p g cap S most bound) (hs : S.length ≤ 1048576)
    (hw : widthF op = (n, t, true)) (hf : a + n ≤ S.length) :
    Calls Try.prog 65 #[.pointer (some ⟨p, 0, none⟩), .int .i64 op, .int .i64 a, .int .i64 v] w fun e w' => e = .returned (.int .i64 0) ∧ MemAt 83 w' p g cap (splice S a (stB v n)) most bound ∧ Turned p g w w' := by
  have HM := Aside0.mk h
  have hle := width_le op
  clear h
  have HW := Aside0.mk (fun w => rwidth_calls op w)
  rw [hw] at HW hle
  clear hw
  replace hle : n ≤ 8 := hle
  go_enter Try.func65, Try.ntmps65
  go_wp2_with fail
  refine (HW.out w).mono ?_
  rintro e w1 ⟨rfl, hb⟩
  have HT := Aside0.mk (Turned.ofBelow (p := p) (g := g) hb)
  have HM1 := Aside0.mk (HM.out.below hb)
  clear hb
  go_wp2_with fail
  refine (rin_yes HM1.out hs hf).mono ?_
  rintro e w2 ⟨rfl, rfl⟩
  go_wp2_with fail
  go_loopw [3, 12] (fun v3 v12 wr => ∃ k : Nat, k ≤ n ∧ v3 = .int .i64 (v / 2 ^ (8 * k)) ∧ v12 = .int .i64 k ∧ Aside0 (MemAt 83 wr p g cap (splice S a (stB v k)) most bound) ∧ Aside0 (Turned p g w wr)) (fun _ v12 _ => n - (intOf v12).toNat)
  case atStart => exact ⟨0, Nat.zero_le _, by simp, rfl, ⟨by rw [show stB v 0 = [] from rfl, splice_nil]; exact HM1.out⟩, HT⟩
  case round =>
    obtain ⟨k, hk, rfl, rfl, HM2, HT2⟩ := hrel
    by_cases hlt : k < n
    · have hl0 : (splice S a (stB v k)).length = S.length := length_splice S a _ (by rw [stB_length]; omega)
      have hl1 : a + k < (splice S a (stB v k)).length := by omega
      obtain ⟨u0, z0⟩ : ∃ u, wr.cell? ⟨g, a + k, none⟩ = some u := ⟨_, HM2.out.byte hl1⟩
      have zs : wr.cell? ⟨p, 0, none⟩ = some (.slice (some ⟨g, 0, none⟩) S.length cap) := by rw [HM2.out.c0, hl0]
      have f0 : wr.frozen? ⟨g, a + k, none⟩ = false := blk_frozen HM2.out.hg.choose_spec.1 _
      obtain ⟨R1, R2⟩ := put_step (byteOf v k) (stB_length v k) HM2.out HT2.out (by omega)
      rw [← stB_succ, byteOf_toNat] at R1
      rw [byteOf_toNat] at R2
      have HE := Aside0.mk (shr8 v k)
      clear HM2 HT2 hl1 hl0
      generalize v / 2 ^ (8 * k) = x at *
      have A255 := and255 x
      have v1 : IntKind.i64.wrap ((a : Int) + (k : Int)) = (a : Int) + (k : Int) := IntWalk.i64_in _ (by omega)
      have v2 : ((a : Int) + (k : Int)).toNat = a + k := by omega
      have v3 : (a : Int) + (k : Int) < (S.length : Int) := by omega
      go_wp2_with fail
      go_roundw
      case rel => exact ⟨k + 1, by omega, by rw [← HE.out], by go_num, R1, R2⟩
      case measure => simp [intOf]; omega
    · obtain rfl : k = n := by omega
      generalize v / 2 ^ (8 * k) = x at *
      go_wp2_with fail
      go_ret
      exact ⟨rfl, HM2.out, HT2.out⟩

theorem rnew_no {mn mx : Int} {w : World} (h : limOk mn mx = false) :
    Calls Try.prog 38 #[.agg #[.int .i64 mn, .int .i64 mx]] w fun e w' => e = .returned (.tuple #[.pointer none, .int .i64 8]) ∧ Below w.heap.size w w' := by
  have hc := fun w => rmay_calls mn mx w
  rw [h] at hc
  have HC := Aside0.mk hc
  clear hc h
  go_enter Try.func38, Try.ntmps38
  go_wp2_with fail
  have HB := Aside0.mk (below_alloc (Below.refl w.heap.size w) (.cells #[.int .i64 mn, .int .i64 mx] 69))
  refine (HC.out _).mono ?_
  rintro e w1 ⟨rfl, hb⟩
  have HB1 := Aside0.mk (below_step HB.out hb)
  clear hb
  go_wp2_with fail
  exact bodyPost_ret (v := .tuple #[.pointer none, .int .i64 8]) (by simp [results, Try.results38, go_sem, *]) rfl ⟨rfl, HB1.out⟩

/-- What a new memory of the reference's is. -/
theorem rnew_at (T : TypeId) (w1 : World) (n : Nat) (M mx : Int) :
    MemAt T ((w1.alloc (.cells #[.slice (some ⟨w1.heap.size + 1, 0, none⟩) n n, .int .i64 M, .int .i64 mx] T)).alloc (.cells (madeCells #[.int .u8 0] n) 5)) w1.heap.size (w1.heap.size + 1) n (List.replicate n 0) M mx := by
  refine ⟨?_, ⟨[], ?_, by simp⟩, by omega⟩
  · rw [List.length_replicate]
    exact blk_alloc (blk_new w1 _) _
  · rw [← madeB]
    have h := blk_new (w1.alloc (.cells #[.slice (some ⟨w1.heap.size + 1, 0, none⟩) n n, .int .i64 M, .int .i64 mx] T)) (.cells (madeCells #[.int .u8 0] n) 5)
    simp only [World.size_alloc] at h
    exact h

set_option maxHeartbeats 4000000 in
theorem rnew_yes {mn : Nat} {mx : Int} {w : World} (h : limOk mn mx = true) :
    Calls Try.prog 38 #[.agg #[.int .i64 mn, .int .i64 mx]] w fun e w' => ∃ p g, e = .returned (.tuple #[.pointer (some ⟨p, 0, none⟩), .int .i64 0]) ∧ w.heap.size ≤ p ∧ w.heap.size ≤ g ∧
      MemAt 83 w' p g (mn * 65536) (List.replicate (mn * 65536) 0) (if mx < 0 then 16 else mx) mx ∧ Below w.heap.size w w' := by
  have hc := fun w => rmay_calls mn mx w
  rw [h] at hc
  have HC := Aside0.mk hc
  have hl := of_decide_eq_true h
  clear hc h
  have hmk := run_make_row' (P := Try.prog) 81 5 (.int .u8 0) 1 Try.underlying81 info5' rfl .i64 .i64 (mn * 65536) (by omega) (by omega)
  rw [Int.natCast_mul] at hmk
  have hmk' : ∀ w : World, (Instr.makeSlice 81 (.int .i64 ((mn : Int) * 65536)) (.int .i64 ((mn : Int) * 65536))).run Try.prog w = .ok (.slice (some ⟨w.heap.size, 0, none⟩) (mn * 65536) (mn * 65536)) (w.alloc (.cells (madeCells #[.int .u8 0] (mn * 65536)) 5)) := hmk
  clear hmk
  obtain ⟨M, hM⟩ : ∃ M : Int, M = if mx < 0 then 16 else mx := ⟨_, rfl⟩
  rw [← hM]
  have HM := Aside0.mk hM
  clear hM
  go_enter Try.func38, Try.ntmps38
  go_wp2_with fail
  have HB := Aside0.mk (below_alloc (Below.refl w.heap.size w) (.cells #[.int .i64 mn, .int .i64 mx] 69))
  have K0 := blk_new w (.cells #[.int .i64 mn, .int .i64 mx] 69)
  refine (HC.out _).mono ?_
  rintro e w1 ⟨rfl, hb⟩
  have z0 : w1.cell? ⟨w.heap.size, 0, none⟩ = some (.int .i64 mn) := (blk_cell (blk_below K0 hb) 0).trans rfl
  have z1 : w1.cell? ⟨w.heap.size, 1, none⟩ = some (.int .i64 mx) := (blk_cell (blk_below K0 hb) 1).trans rfl
  have HB1 := Aside0.mk (below_step HB.out hb)
  clear hb K0
  have y0 : ∀ o, (w1.alloc o).cell? ⟨w.heap.size, 0, none⟩ = some (.int .i64 mn) := fun o => (World.cell?_alloc_lt w1 o _ (World.block_lt_of_cell? w1 _ z0)).trans z0
  have y1 : ∀ o, (w1.alloc o).cell? ⟨w.heap.size, 1, none⟩ = some (.int .i64 mx) := fun o => (World.cell?_alloc_lt w1 o _ (World.block_lt_of_cell? w1 _ z1)).trans z1
  by_cases hx : mx < 0
  · obtain rfl : M = 16 := HM.out.trans (if_pos hx)
    obtain rfl : mx = -1 := by omega
    go_wp2_with fail
    exact bodyPost_ret (v := .tuple #[.pointer (some ⟨w1.heap.size, 0, none⟩), .int .i64 0]) (by simp [results, Try.results38, go_sem, *]) rfl ⟨_, _, rfl, HB1.out.size, Nat.le_succ_of_le HB1.out.size, rnew_at 83 w1 _ _ _, below_alloc (below_alloc HB1.out _) _⟩
  · obtain rfl : M = mx := HM.out.trans (if_neg hx)
    have hx1 : (M == -1) = false := beq_eq_false_iff_ne.mpr (by omega)
    go_wp2_with fail
    exact bodyPost_ret (v := .tuple #[.pointer (some ⟨w1.heap.size, 0, none⟩), .int .i64 0]) (by simp [results, Try.results38, go_sem, *]) rfl ⟨_, _, rfl, HB1.out.size, Nat.le_succ_of_le HB1.out.size, rnew_at 83 w1 _ _ _, below_alloc (below_alloc HB1.out _) _⟩

theorem rgrow_no {w : World} {p g cap : Nat} {S : List UInt8} {most bound n : Int} (h : MemAt 83 w p g cap S most bound) (hs : S.length ≤ 1048576) (hm : -1 ≤ most ∧ most ≤ 16) (hf : growOk S.length most n = false) :
    Calls Try.prog 67 #[.pointer (some ⟨p, 0, none⟩), .int .i64 n] w fun e w' => e = .returned (.int .i64 (-1)) ∧ w' = w := by
  have z0 := h.c0
  have z1 := h.c1
  have hf' := of_decide_eq_false hf
  clear h hf
  have hdiv : ((S.length : Int) / 65536) = ((S.length / 65536 : Nat) : Int) := by omega
  have hq16 : S.length / 65536 ≤ 16 := by omega
  generalize hq : S.length / 65536 = q at *
  clear hq
  by_cases hn : n < 0
  · have hd : decide (n < 0) = true := decide_eq_true hn
    clear hf'
    go_enter Try.func67, Try.ntmps67
    go_wp2_with fail
    go_ret
    exact ⟨rfl, rfl⟩
  · have hd : decide (n < 0) = false := decide_eq_false hn
    have hd2 : decide (most - (q : Int) < n) = true := decide_eq_true (by omega)
    clear hf'
    go_enter Try.func67, Try.ntmps67
    go_wp2_with fail
    go_ret
    exact ⟨rfl, rfl⟩

theorem wpList_copy_new {w : World} {ops : Array Oper} {rest : List Oper} {o : Oper} {a : Act} {Q : Exit → Act → World → Prop} (hgd : o.guard = none) (d s : Operand)
    (hop : o.op = .call { callee := .builtin .copy, args := #[d, s], argTypes := #[81, 81] })
    (g dl dc g2 sl sc : Nat) (hd : a.eval d = .slice (some ⟨g, 0, none⟩) dl dc) (hs : a.eval s = .slice (some ⟨g2, 0, none⟩) sl sc) (hle : sl ≤ dl)
    (S : List UInt8) (hg : w.heap[g]? = some (.cells (bz S ++ []).toArray 5 (0, 0))) (hfit : sl ≤ S.length)
    (L : List UInt8) (hL : L.length = sl) (hc : ∀ j v, (bz L)[j]? = some v → w.cell? ((⟨g2, 0, none⟩ : Addr).add j) = some v)
    (h : ∀ x w', w'.heap[g]? = some (.cells (bz (splice S 0 L) ++ []).toArray 5 (0, 0)) → w.grownBy w' (some g) → wpList Try.prog ops Q rest (a.put o.dst x) w') :
    wpList Try.prog ops Q (o :: rest) a w := by
  refine wpList_copy_own hgd d s 81 81 hop 5 Try.underlying81 info5s' g 0 dl dc ⟨g2, 0, none⟩ sl sc hd hs (bz S ++ []).toArray 5 hg (bz L) (by rw [bz_length, hL]; exact (Nat.min_eq_left hle).symm) hc (by rw [bz_length]; simp [bz_length]; omega) (bz_one L) ?_
  refine h _ _ ?_ ⟨rfl, rfl, rfl, by simp [World.setRow], fun k _ hk => setRow_other w g k _ (fun e => hk (by rw [e]))⟩
  have hr : (bz S ++ []).toArray.toList.take 0 ++ (bz L ++ (bz S ++ []).toArray.toList.drop (0 + (bz L).length)) = bz (splice S 0 L) ++ [] := by
    rw [bz_length]
    exact splice_row (by omega)
  rw [hr]
  exact setRow_heap w g _ _ 5 _ hg

theorem splice_zeros (S : List UInt8) (n : Nat) (h : S.length ≤ n) : splice (List.replicate n 0) 0 S = S ++ List.replicate (n - S.length) 0 := by
  simp [splice]

theorem rgrow_yes {w : World} {p g cap : Nat} {S : List UInt8} {most bound : Int} {n : Nat} (h : MemAt 83 w p g cap S most bound) (hs : S.length ≤ 1048576) (hm : -1 ≤ most ∧ most ≤ 16) (hl : S.length % 65536 = 0) (hf : growOk S.length most n = true) :
    Calls Try.prog 67 #[.pointer (some ⟨p, 0, none⟩), .int .i64 n] w fun e w' => e = .returned (.int .i64 ((S.length / 65536 : Nat) : Int)) ∧ ∃ cap', MemAt 83 w' p w.heap.size cap' (S ++ List.replicate (n * 65536) 0) most bound ∧ Turned p g w w' := by
  have HM := Aside0.mk h
  have z0 := h.c0
  have z1 := h.c1
  have f0 : w.frozen? ⟨p, 0, none⟩ = false := blk_frozen h.hp 0
  have hlt := h.lt
  have hf' := of_decide_eq_true hf
  clear h hf
  have hdiv : ((S.length : Int) / 65536) = ((S.length / 65536 : Nat) : Int) := by omega
  have hq16 : S.length / 65536 ≤ 16 := by omega
  have hqs : S.length = (S.length / 65536) * 65536 := by omega
  generalize hq : S.length / 65536 = q at *
  clear hq
  have HQ := Aside0.mk hqs
  have HLT := Aside0.mk hlt
  clear hqs hl hlt
  have hd : decide ((n : Int) < 0) = false := decide_eq_false (by omega)
  have hd2 : decide (most - (q : Int) < (n : Int)) = false := decide_eq_false (by omega)
  have v1 : IntKind.i64.wrap ((q : Int) + (n : Int)) = ((q + n : Nat) : Int) := by rw [IntWalk.i64_in _ (by omega)]; omega
  have hmk := run_make_row' (P := Try.prog) 81 5 (.int .u8 0) 1 Try.underlying81 info5' rfl .i64 .i64 ((q + n) * 65536) (by omega) (by omega)
  have hmk' : ∀ w : World, (Instr.makeSlice 81 (.int .i64 (((q : Int) + (n : Int)) * 65536)) (.int .i64 (((q : Int) + (n : Int)) * 65536))).run Try.prog w = .ok (.slice (some ⟨w.heap.size, 0, none⟩) ((q + n) * 65536) ((q + n) * 65536)) (w.alloc (.cells (madeCells #[.int .u8 0] ((q + n) * 65536)) 5)) := by
    rw [Int.natCast_mul, Int.natCast_add] at hmk
    exact hmk
  clear hmk
  have y0 : ∀ o, (w.alloc o).cell? ⟨p, 0, none⟩ = some (.slice (some ⟨g, 0, none⟩) S.length cap) := fun o => (World.cell?_alloc_lt w o _ HLT.out.1).trans z0
  have HCP : Aside0 (∀ j v, (bz S)[j]? = some v → (w.alloc (.cells (madeCells #[.int .u8 0] ((q + n) * 65536)) 5)).cell? ((⟨g, 0, none⟩ : Addr).add j) = some v) := by
    refine ⟨fun j v hv => ?_⟩
    have HM1 := HM.out.below (below_alloc (Below.refl w.heap.size w) (.cells (madeCells #[.int .u8 0] ((q + n) * 65536)) 5))
    have hj : j < S.length := by have := (List.getElem?_eq_some_iff.1 hv).1; rwa [bz_length] at this
    rw [addr_add, Nat.zero_add, HM1.byte hj]
    simpa [bz, hj] using hv
  go_enter Try.func67, Try.ntmps67
  go_wp2_with (with_reducible refine wpList_copy_new rfl (.tmp 30) (.tmp 34) rfl w.heap.size _ _ g S.length cap rfl rfl (by have := HQ.out; omega) (List.replicate ((q + n) * 65536) 0) (by rw [← madeB]; exact blk_new w _) (by rw [List.length_replicate]; have := HQ.out; omega) S rfl HCP.out ?_)
  intro x w2 h1 h2
  rw [splice_zeros S _ (by have := HQ.out; omega)] at h1
  have hK := blk_grown (blk_alloc HM.out.hp (.cells (madeCells #[.int .u8 0] ((q + n) * 65536)) 5)) h2 (fun e => by have := Option.some.inj e; have := HLT.out; omega)
  have K0 : w2.cell? ⟨p, 0, none⟩ = some (.slice (some ⟨g, 0, none⟩) S.length cap) := (blk_cell hK 0).trans rfl
  have F0 : w2.frozen? ⟨p, 0, none⟩ = false := blk_frozen hK 0
  have hlen : (q + n) * 65536 - S.length = n * 65536 := by have := HQ.out; omega
  rw [hlen] at h1
  have R1 : Aside0 (MemAt 83 (w2.setCell ⟨p, 0, none⟩ (.slice (some ⟨w.heap.size, 0, none⟩) ((q + n) * 65536) ((q + n) * 65536))) p w.heap.size ((q + n) * 65536) (S ++ List.replicate (n * 65536) 0) most bound) := by
    refine ⟨⟨?_, ⟨[], ?_, by have := HQ.out; simp; omega⟩, by have := HLT.out; omega⟩⟩
    · rw [blk_set hK]
      have : (S ++ List.replicate (n * 65536) (0 : UInt8)).length = (q + n) * 65536 := by have := HQ.out; simp; omega
      rw [this]
      simp
    · have h3 := blk_far h1 (p := ⟨p, 0, none⟩) (by have := HLT.out; show w.heap.size ≠ p; omega) (.slice (some ⟨w.heap.size, 0, none⟩) ((q + n) * 65536) ((q + n) * 65536))
      rw [List.append_nil]
      exact h3
  have R2 : Aside0 (Turned p g w (w2.setCell ⟨p, 0, none⟩ (.slice (some ⟨w.heap.size, 0, none⟩) ((q + n) * 65536) ((q + n) * 65536)))) := by
    refine ⟨⟨h2.os, h2.tape, h2.output, ?_, fun k hk h3 h4 => ?_⟩⟩
    · have := h2.size
      simp [World.setCell] at this ⊢
      omega
    · rw [Below.heap_setCell w2 _ _ k h3, h2.block k (by simp; omega) (fun e => by have := Option.some.inj e; omega)]
      exact Below.heap_alloc w _ k hk
  clear h1 h2 hK hlen
  go_wp2_with fail
  go_ret
  exact ⟨rfl, _, R1.out, R2.out⟩
end Go.Proofs.Ytmpmcffhlnlejaa.MemEq
