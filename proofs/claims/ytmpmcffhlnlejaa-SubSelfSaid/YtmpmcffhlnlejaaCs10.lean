/- A part of the proof of the law that its last file names: texts of this seat's author and of the kit's printer, cut to what the theorem uses. Part 10: Mk5, Mk6, Mk8s. -/
import Derived.Test.YtmpmcffhlnlejaaCs09
section
namespace Go.Proofs.Ytmpmcffhlnlejaa.Mkr
open Go.RowKit Go.Proofs.YtmpmcffhlnlejaaW.PrintWords Go.Proofs.YtmpmcffhlnlejaaW.PrintLast Go.Proofs.YtmpmcffhlnlejaaW.PrintMore
open Go.Proofs.Ytmpmcffhlnlejaa.PSubSelf Go.Proofs.Ytmpmcffhlnlejaa.Wld
set_option linter.unusedVariables false
set_option linter.unusedSimpArgs false
/-- Distinct ones among others are not more. -/
theorem nodup_le {α : Type} : ∀ {l T : List α}, l.Nodup → (∀ x ∈ l, x ∈ T) → l.length ≤ T.length
  | [], _, _, _ => Nat.zero_le _
  | x :: l, T, hn, hs => by
    obtain ⟨a, b, rfl⟩ := List.append_of_mem (hs x List.mem_cons_self)
    have hn' := List.nodup_cons.1 hn
    have := nodup_le (l := l) (T := a ++ b) hn'.2 (fun y hy => by
      have h1 := hs y (List.mem_cons_of_mem _ hy)
      have hne : y ≠ x := fun e => hn'.1 (e ▸ hy)
      simp only [List.mem_append, List.mem_cons] at h1 ⊢
      rcases h1 with h1 | h1 | h1
      · exact .inl h1
      · exact absurd h1 hne
      · exact .inr h1)
    simp only [List.length_append, List.length_cons] at this ⊢
    omega
theorem info9 : (Try.prog.info? 9).map (fun i => (i.zero, i.size, i.bytes)) = some (some (.string ⟨#[]⟩), 1, 16) := by kernel_rfl
/-- A text more. -/
theorem Mk.more {h : Hd} {p : Nat} {w w1 : World} {v v1 vi vo : Value} {dp : Nat} {sz E : Int} {res : List ByteArray} {t : ByteArray} (m : Mk h p w v vi vo dp sz E res) (ht : t ∈ h.T) (hn : t ∉ res)
    (hr : Kd.string.R 9 w1 h.W0.heap.size (fun _ => True) v1 (res ++ [t])) (hb : Below h.W0.heap.size h.W0 w1) (hg : w.grownBy w1 v.ownBlock) (hat : v1.ownBlock = v.ownBlock ∨ ∃ b, v1.ownBlock = some b ∧ w.heap.size ≤ b) :
    Mk h p (w1.setCell ⟨p, 7, none⟩ v1) v1 vi vo dp sz E (res ++ [t]) ∧ Go p w v (w1.setCell ⟨p, 7, none⟩ v1) v1 := by
  have hp1 := blk_grown m.hp hg (fun e => m.notp e.symm)
  refine ⟨⟨hb.setCell (p := ⟨p, 7, none⟩) m.p0 _, blk_put hp1 7 _ rfl, m.p0, Kd.R_set hr hp1 (by decide) 7 _, ?_, ?_⟩, ⟨hg.os, hg.tape, hg.output, (KeepBut.of_grown hg p).set_ 7 _, hat⟩⟩
  · rw [List.nodup_append]
    exact ⟨m.nd, by simp, fun a ha b hb2 => by rintro rfl; exact hn (by rw [List.mem_singleton.1 hb2] at ha; exact ha)⟩
  · intro x hx
    rcases List.mem_append.1 hx with hx | hx
    · exact m.sub x hx
    · rw [List.mem_singleton.1 hx]; exact ht
def ResOk (h : Hd) (p : Nat) (vi vo : Value) (dp : Nat) (w : World) (v : Value) (E : Int) (res : List ByteArray) (r : Ending) (w' : World) : Prop :=
  ∃ (v' : Value) (res' : List ByteArray) (i : Nat), r = .returned (.int .i64 (i : Int)) ∧ i < res'.length ∧ Nx h p vi vo dp w v E res w' v' E res'
set_option maxHeartbeats 8000000 in
set_option maxRecDepth 100000 in
theorem resource_false {h : Hd} (ok : h.Ok) {p : Nat} {w : World} {v vi vo : Value} {dp : Nat} {E : Int} {res : List ByteArray} (m : ∃ sz, Mk h p w v vi vo dp sz E res)
    (key : ByteArray) (at_ : Nat) (us : List S151) (U : Option Addr) (cU : Nat) (ds : List S154) (D : Option Addr) (cD : Nat) (n : ByteArray) (hk : key.size ≤ 1000) (hn : n.size ≤ 100) (ht : impOf key n ∈ h.T) :
    Calls Try.prog 103 #[.pointer (some ⟨p, 0, none⟩), .agg #[.string key, .int .i64 (at_ : Int), .slice U us.length cU, .slice D ds.length cD, .bool false], .string n] w (ResOk h p vi vo dp w v E res) := by
  have HT := Aside0.mk ht
  have M := Aside0.mk m
  have OK := Aside0.mk ok
  clear m ok ht
  have s1 : (9223372036854775807 < 7 + key.size) = False := eq_false (by omega)
  have s2 : (9223372036854775807 < 7 + key.size + 1) = False := eq_false (by omega)
  have s3 : (9223372036854775807 < 7 + key.size + 1 + n.size) = False := eq_false (by omega)
  go_enter Try.func103, Try.ntmps103
  go_wp2_with fail
  clear s1 s2 s3
  have HN : Aside0 (Nx h p vi vo dp w v E res (w.alloc (.cells #[.string key, .int .i64 (at_ : Int), .slice U us.length cU, .slice D ds.length cD, .bool false] 160)) v E res) := ⟨by obtain ⟨sz, m⟩ := M.out; exact (Nx.refl m).below (below_alloc (Below.refl _ _) _)⟩
  replace HT : Aside0 ((⟨#[105, 109, 112, 111, 114, 116, 32]⟩ : ByteArray) ++ key ++ (⟨#[35]⟩ : ByteArray) ++ n ∈ h.T) := ⟨HT.out⟩
  generalize (⟨#[105, 109, 112, 111, 114, 116, 32]⟩ : ByteArray) ++ key ++ (⟨#[35]⟩ : ByteArray) ++ n = t at *
  generalize w.alloc (.cells #[.string key, .int .i64 (at_ : Int), .slice U us.length cU, .slice D ds.length cD, .bool false] 160) = wb at *
  obtain ⟨sz, m1⟩ := HN.out.m1
  have HL := Aside0.mk (Nat.le_trans (nodup_le m1.nd m1.sub) OK.out.tl)
  obtain ⟨A, c, hv, hc, hC⟩ := Kd.R_reads m1.hr
  have z7 := m1.z7
  have HC := Aside0.mk hC
  have HV := Aside0.mk hv
  rw [hv] at z7
  have hlen : res.length ≤ 1000000 := HL.out
  have M1 := Aside0.mk m1
  clear hC m1 hv hc
  go_loop [8] (fun v8 => ∃ k : Nat, k ≤ res.length ∧ v8 = .int .i64 k ∧ Aside0 (∀ y ∈ res.take k, y ≠ t)) (fun v8 => res.length - (intOf v8).toNat)
  case atStart => exact ⟨0, Nat.zero_le _, rfl, ⟨take_none⟩⟩
  case round =>
    obtain ⟨k, hk2, rfl, HA⟩ := hrel
    by_cases hlt : k < res.length
    · obtain ⟨ad, hae, hx⟩ := str_at HC.out hlt
      rw [hae] at z7
      have x0 := hx wb (Below.refl _ _)
      have HW := Aside0.mk (fun h => take_all (P := fun y => y ≠ t) HA.out hlt h)
      clear hx
      generalize res[k] = s at *
      by_cases hd : s.toList = t.toList
      · have t2 : (s.toList == t.toList) = true := beq_iff_eq.mpr hd
        clear hd
        go_wp2_with fail
        go_ret
        exact ⟨v, res, k, rfl, hlt, HN.out⟩
      · have t2 : (s.toList == t.toList) = false := beq_eq_false_iff_ne.mpr hd
        have HD := Aside0.mk (fun e : s = t => hd (by rw [e]))
        clear hd
        go_wp2_with fail
        go_round
        case rel => exact ⟨k + 1, by omega, by go_num, ⟨HW.out HD.out⟩⟩
        case measure => simp [intOf]; omega
    · obtain rfl : k = res.length := by omega
      have HNI := Aside0.mk (fun e : t ∈ res => take_whole HA.out t e rfl)
      clear HA
      go_wp2_with (at_builtin; refine Kd.R_append Kd.string (w0 := h.W0) h.W0.heap.size rfl (.tmp 49) (.tmp 51) 22 9 (.string ⟨#[]⟩) 16 rfl Try.underlying22 info9 rfl (by decide) (by decide) v res t [.string t] (fun _ => True) (fun _ => False) HV.out.symm rfl rfl (fun _ hf => hf.elim) (fun _ _ => trivial) M1.out.hr M1.out.bl M1.out.bl.size (by omega) ?_)
      intro v1 w1 r1 r2 r3 r4
      obtain ⟨A1, c1, hv1, _⟩ := Kd.R_reads r1
      replace hv1 : v1 = .slice A1 (res.length + 1) c1 := by rw [hv1]; simp
      have MM := Aside0.mk (Mk.more M1.out HT.out HNI.out r1 r2 r3 r4)
      have hp1 := blk_grown M1.out.hp r3 (fun e => M1.out.notp e.symm)
      have y7 : w1.cell? ⟨p, 7, none⟩ = some v := (blk_cell hp1 7).trans rfl
      have f7 : w1.frozen? ⟨p, 7, none⟩ = false := blk_frozen hp1 7
      clear r1 r2 r3 r4 hp1 z7 hk2 hlt
      subst hv1
      go_wp2_with fail
      go_ret
      exact ⟨.slice A1 (res.length + 1) c1, res ++ [t], res.length, by go_num, by simp, HN.out.trans ⟨⟨_, M1.out⟩, ⟨_, MM.out.1⟩, MM.out.2, by simp, id⟩⟩
set_option maxHeartbeats 8000000 in
set_option maxRecDepth 100000 in
theorem resource_true {h : Hd} (ok : h.Ok) {p : Nat} {w : World} {v vi vo : Value} {dp : Nat} {E : Int} {res : List ByteArray} (m : ∃ sz, Mk h p w v vi vo dp sz E res)
    (key : ByteArray) (at_ : Nat) (us : List S151) (U : Option Addr) (cU : Nat) (ds : List S154) (D : Option Addr) (cD : Nat) (n : ByteArray) (hk : key.size ≤ 1000) (hn : n.size ≤ 100) (ht : expOf key n ∈ h.T) :
    Calls Try.prog 103 #[.pointer (some ⟨p, 0, none⟩), .agg #[.string key, .int .i64 (at_ : Int), .slice U us.length cU, .slice D ds.length cD, .bool true], .string n] w (ResOk h p vi vo dp w v E res) := by
  have HT := Aside0.mk ht
  have M := Aside0.mk m
  have OK := Aside0.mk ok
  clear m ok ht
  have s1 : (9223372036854775807 < 7 + key.size) = False := eq_false (by omega)
  have s2 : (9223372036854775807 < 7 + key.size + 1) = False := eq_false (by omega)
  have s3 : (9223372036854775807 < 7 + key.size + 1 + n.size) = False := eq_false (by omega)
  go_enter Try.func103, Try.ntmps103
  go_wp2_with fail
  clear s1 s2 s3
  have HN : Aside0 (Nx h p vi vo dp w v E res (w.alloc (.cells #[.string key, .int .i64 (at_ : Int), .slice U us.length cU, .slice D ds.length cD, .bool true] 160)) v E res) := ⟨by obtain ⟨sz, m⟩ := M.out; exact (Nx.refl m).below (below_alloc (Below.refl _ _) _)⟩
  replace HT : Aside0 ((⟨#[101, 120, 112, 111, 114, 116, 32]⟩ : ByteArray) ++ key ++ (⟨#[35]⟩ : ByteArray) ++ n ∈ h.T) := ⟨HT.out⟩
  generalize (⟨#[101, 120, 112, 111, 114, 116, 32]⟩ : ByteArray) ++ key ++ (⟨#[35]⟩ : ByteArray) ++ n = t at *
  generalize w.alloc (.cells #[.string key, .int .i64 (at_ : Int), .slice U us.length cU, .slice D ds.length cD, .bool true] 160) = wb at *
  obtain ⟨sz, m1⟩ := HN.out.m1
  have HL := Aside0.mk (Nat.le_trans (nodup_le m1.nd m1.sub) OK.out.tl)
  obtain ⟨A, c, hv, hc, hC⟩ := Kd.R_reads m1.hr
  have z7 := m1.z7
  have HC := Aside0.mk hC
  have HV := Aside0.mk hv
  rw [hv] at z7
  have hlen : res.length ≤ 1000000 := HL.out
  have M1 := Aside0.mk m1
  clear hC m1 hv hc
  go_loop [8] (fun v8 => ∃ k : Nat, k ≤ res.length ∧ v8 = .int .i64 k ∧ Aside0 (∀ y ∈ res.take k, y ≠ t)) (fun v8 => res.length - (intOf v8).toNat)
  case atStart => exact ⟨0, Nat.zero_le _, rfl, ⟨take_none⟩⟩
  case round =>
    obtain ⟨k, hk2, rfl, HA⟩ := hrel
    by_cases hlt : k < res.length
    · obtain ⟨ad, hae, hx⟩ := str_at HC.out hlt
      rw [hae] at z7
      have x0 := hx wb (Below.refl _ _)
      have HW := Aside0.mk (fun h => take_all (P := fun y => y ≠ t) HA.out hlt h)
      clear hx
      generalize res[k] = s at *
      by_cases hd : s.toList = t.toList
      · have t2 : (s.toList == t.toList) = true := beq_iff_eq.mpr hd
        clear hd
        go_wp2_with fail
        go_ret
        exact ⟨v, res, k, rfl, hlt, HN.out⟩
      · have t2 : (s.toList == t.toList) = false := beq_eq_false_iff_ne.mpr hd
        have HD := Aside0.mk (fun e : s = t => hd (by rw [e]))
        clear hd
        go_wp2_with fail
        go_round
        case rel => exact ⟨k + 1, by omega, by go_num, ⟨HW.out HD.out⟩⟩
        case measure => simp [intOf]; omega
    · obtain rfl : k = res.length := by omega
      have HNI := Aside0.mk (fun e : t ∈ res => take_whole HA.out t e rfl)
      clear HA
      go_wp2_with (at_builtin; refine Kd.R_append Kd.string (w0 := h.W0) h.W0.heap.size rfl (.tmp 49) (.tmp 51) 22 9 (.string ⟨#[]⟩) 16 rfl Try.underlying22 info9 rfl (by decide) (by decide) v res t [.string t] (fun _ => True) (fun _ => False) HV.out.symm rfl rfl (fun _ hf => hf.elim) (fun _ _ => trivial) M1.out.hr M1.out.bl M1.out.bl.size (by omega) ?_)
      intro v1 w1 r1 r2 r3 r4
      obtain ⟨A1, c1, hv1, _⟩ := Kd.R_reads r1
      replace hv1 : v1 = .slice A1 (res.length + 1) c1 := by rw [hv1]; simp
      have MM := Aside0.mk (Mk.more M1.out HT.out HNI.out r1 r2 r3 r4)
      have hp1 := blk_grown M1.out.hp r3 (fun e => M1.out.notp e.symm)
      have y7 : w1.cell? ⟨p, 7, none⟩ = some v := (blk_cell hp1 7).trans rfl
      have f7 : w1.frozen? ⟨p, 7, none⟩ = false := blk_frozen hp1 7
      clear r1 r2 r3 r4 hp1 z7 hk2 hlt
      subst hv1
      go_wp2_with fail
      go_ret
      exact ⟨.slice A1 (res.length + 1) c1, res ++ [t], res.length, by go_num, by simp, HN.out.trans ⟨⟨_, M1.out⟩, ⟨_, MM.out.1⟩, MM.out.2, by simp, id⟩⟩
theorem resource_any {h : Hd} (ok : h.Ok) {p : Nat} {w : World} {v vi vo : Value} {dp : Nat} {E : Int} {res : List ByteArray} (m : ∃ sz, Mk h p w v vi vo dp sz E res)
    {key : ByteArray} {at_ : Nat} {us : List S151} {U : Option Addr} (cU : Nat) {ds : List S154} {D : Option Addr} (cD : Nat) (out : Bool) (sc : Scp h key at_ us U ds D) {n : ByteArray} (hn : n.size ≤ 100) (ht : ∃ d ∈ ds, d.f1 = n) :
    Calls Try.prog 103 #[.pointer (some ⟨p, 0, none⟩), scV key at_ us U cU ds D cD out, .string n] w (ResOk h p vi vo dp w v E res) := by
  obtain ⟨d, hd, rfl⟩ := ht
  cases out with
  | false => exact resource_false ok m key at_ us U cU ds D cD d.f1 sc.ks hn (sc.has.1 d hd).1
  | true => exact resource_true ok m key at_ us U cU ds D cD d.f1 sc.ks hn (sc.has.1 d hd).2
theorem resource_none {h : Hd} (ok : h.Ok) {p : Nat} {w : World} {v vi vo : Value} {dp : Nat} {E : Int} {res : List ByteArray} (m : ∃ sz, Mk h p w v vi vo dp sz E res)
    {key : ByteArray} {at_ : Nat} {us : List S151} {U : Option Addr} (cU : Nat) {ds : List S154} {D : Option Addr} (cD : Nat) (out : Bool) (sc : Scp h key at_ us U ds D) {n : ByteArray} (hn : n.size ≤ 100) (ht : (∃ d ∈ ds, d.f1 = n) ∨ n = ⟨#[]⟩) :
    Calls Try.prog 103 #[.pointer (some ⟨p, 0, none⟩), scV key at_ us U cU ds D cD out, .string n] w (ResOk h p vi vo dp w v E res) := by
  rcases ht with ht | rfl
  · exact resource_any ok m cU cD out sc hn ht
  · cases out with
    | false => exact resource_false ok m key at_ us U cU ds D cD ⟨#[]⟩ sc.ks hn sc.has.2.1
    | true => exact resource_true ok m key at_ us U cU ds D cD ⟨#[]⟩ sc.ks hn sc.has.2.2
end Go.Proofs.Ytmpmcffhlnlejaa.Mkr
end
section
namespace Go.Proofs.Ytmpmcffhlnlejaa.Mkr
open Go.RowKit Go.Proofs.YtmpmcffhlnlejaaW.PrintWords Go.Proofs.YtmpmcffhlnlejaaW.PrintLast Go.Proofs.YtmpmcffhlnlejaaW.PrintMore
open Go.Proofs.Ytmpmcffhlnlejaa.PSubSelf Go.Proofs.Ytmpmcffhlnlejaa.Wld
set_option linter.unusedVariables false
set_option linter.unusedSimpArgs false
/-- A made type whose resources are among n. -/
inductive GoodT (n : Nat) : PSubFits.S25 → Prop
  | mk {x : PSubFits.S25} (hr : x.f0 = 20 ∨ x.f0 = 21 → 0 ≤ x.f3 ∧ x.f3 < n) (hs : ∀ y ∈ x.f2, GoodT n y) : GoodT n x
theorem GoodT.more {n m : Nat} (hm : n ≤ m) : ∀ {x : PSubFits.S25}, GoodT n x → GoodT m x := by
  intro x h
  induction h with
  | mk hr hs ih => exact .mk (fun e => ⟨(hr e).1, by have := (hr e).2; omega⟩) ih
theorem GoodT.zero (n : Nat) : GoodT n PSubFits.z25 := .mk (fun h => by rcases h with h | h <;> cases h) (fun y hy => by cases hy)
/-- A made type's parts. -/
structure TV (p : Nat) (w : World) (base : Nat) (v : Value) (y : PSubFits.S25) (v1 v2 : Value) : Prop where
  n : Kd.string.R 9 w base (fun k => k ≠ p ∧ some k ≠ v.ownBlock) v1 y.f1
  l : PSubFits.k25.R 25 w base (fun k => k ≠ p ∧ some k ≠ v.ownBlock) v2 y.f2
theorem TV.go {p : Nat} {w w' : World} {base : Nat} {v v' : Value} {y : PSubFits.S25} {v1 v2 : Value} (t : TV p w base v y v1 v2) (a : Go p w v w' v') : TV p w' base v' y v1 v2 := ⟨a.row t.n, a.row t.l⟩
theorem TV.zero (p : Nat) (w : World) (base : Nat) (v : Value) : TV p w base v PSubFits.z25 (.slice none 0 0) (.slice none 0 0) := ⟨Kd.R_nil _ _ _ _ _, Kd.R_nil _ _ _ _ _⟩
theorem TV.lower {p : Nat} {w : World} {base base' : Nat} {v : Value} {y : PSubFits.S25} {v1 v2 : Value} (t : TV p w base v y v1 v2) (h : base' ≤ base) : TV p w base' v y v1 v2 := ⟨Kd.R_lower t.n h, Kd.R_lower t.l h⟩
/-- A store below the base. -/
theorem TV.set {p : Nat} {w : World} {base : Nat} {v : Value} {y : PSubFits.S25} {v1 v2 : Value} (t : TV p w base v y v1 v2) {g : Nat} (hg : g < base) (j : Nat) (u : Value) : TV p (w.setCell ⟨g, j, none⟩ u) base v y v1 v2 := by
  refine ⟨Kd.R_mono (Kd.R_step (Kd.R_bound t.n) (fun k hk _ => Below.heap_setCell w ⟨g, j, none⟩ u k ?_)) (fun k hk => hk.1), Kd.R_mono (Kd.R_step (Kd.R_bound t.l) (fun k hk _ => Below.heap_setCell w ⟨g, j, none⟩ u k ?_)) (fun k hk => hk.1)⟩
  · have := hk.2.1
    show k ≠ g
    omega
  · have := hk.2.1
    show k ≠ g
    omega
def NameOk2 (h : Hd) (p : Nat) (vi vo : Value) (dp : Nat) (w : World) (v : Value) (E : Int) (res : List ByteArray) (r : Ending) (w' : World) : Prop :=
  ∃ (v' : Value) (E' : Int) (res' : List ByteArray) (y : PSubFits.S25) (A1 : Option Addr) (c1 : Nat) (A2 : Option Addr) (c2 : Nat) (i : Int), r = .returned (.tuple #[.agg #[.int .i64 y.f0, .slice A1 y.f1.length c1, .slice A2 y.f2.length c2, .int .i64 y.f3], .int .i64 i]) ∧
    Nx h p vi vo dp w v E res w' v' E' res' ∧ TV p w' w.heap.size v' y (.slice A1 y.f1.length c1) (.slice A2 y.f2.length c2) ∧ (E' = 0 → GoodT res'.length y ∧ i < res'.length)
def TypeOk (h : Hd) (p : Nat) (vi vo : Value) (dp : Nat) (w : World) (v : Value) (E : Int) (res : List ByteArray) (r : Ending) (w' : World) : Prop :=
  ∃ (v' : Value) (E' : Int) (res' : List ByteArray) (y : PSubFits.S25) (A1 : Option Addr) (c1 : Nat) (A2 : Option Addr) (c2 : Nat), r = .returned (.agg #[.int .i64 y.f0, .slice A1 y.f1.length c1, .slice A2 y.f2.length c2, .int .i64 y.f3]) ∧
    Nx h p vi vo dp w v E res w' v' E' res' ∧ TV p w' w.heap.size v' y (.slice A1 y.f1.length c1) (.slice A2 y.f2.length c2) ∧ (E' = 0 → GoodT res'.length y)
/-- The contracts at a depth. -/
def NameC (h : Hd) (dp : Nat) : Prop := ∀ (p : Nat) (w : World) (v vi vo : Value) (E : Int) (res : List ByteArray), (∃ sz, Mk h p w v vi vo dp sz E res) →
  ∀ (key : ByteArray) (at_ : Nat) (us : List S151) (U : Option Addr) (cU : Nat) (ds : List S154) (D : Option Addr) (cD : Nat) (out : Bool), Scp h key at_ us U ds D → ∀ n : ByteArray,
    Calls Try.prog 111 #[.pointer (some ⟨p, 0, none⟩), scV key at_ us U cU ds D cD out, .string n] w (NameOk2 h p vi vo dp w v E res)
def StandsC (h : Hd) (dp : Nat) : Prop := ∀ (p : Nat) (w : World) (v vi vo : Value) (E : Int) (res : List ByteArray), (∃ sz, Mk h p w v vi vo dp sz E res) →
  ∀ (key : ByteArray) (at_ : Nat) (us : List S151) (U : Option Addr) (cU : Nat) (ds : List S154) (D : Option Addr) (cD : Nat) (out : Bool), Scp h key at_ us U ds D → ∀ n : ByteArray,
    Calls Try.prog 112 #[.pointer (some ⟨p, 0, none⟩), scV key at_ us U cU ds D cD out, .string n] w (NameOk2 h p vi vo dp w v E res)
def TypeC (h : Hd) (dp : Nat) (t : S25) : Prop := ∀ (p : Nat) (w : World) (v vi vo : Value) (E : Int) (res : List ByteArray), (∃ sz, Mk h p w v vi vo dp sz E res) →
  ∀ (key : ByteArray) (at_ : Nat) (us : List S151) (U : Option Addr) (cU : Nat) (ds : List S154) (D : Option Addr) (cD : Nat) (out : Bool), Scp h key at_ us U ds D →
  ∀ (A1 : Option Addr) (c1 : Nat) (A2 : Option Addr) (c2 : Nat), WfT t → TA h.W0 t A1 c1 A2 c2 →
    Calls Try.prog 104 #[.pointer (some ⟨p, 0, none⟩), scV key at_ us U cU ds D cD out, .agg #[.int .i64 t.f0, .slice A1 t.f1.length c1, .slice A2 t.f2.length c2, .int .i64 t.f3]] w (TypeOk h p vi vo dp w v E res)
set_option maxHeartbeats 8000000 in
set_option maxRecDepth 100000 in
theorem name_any2 {h : Hd} (ok : h.Ok) (dp : Nat) (hdp : dp ≤ 64) (hs : dp < 64 → StandsC h (dp + 1)) : NameC h dp := by
  intro p w v vi vo E res m key at_ us U cU ds D cD out sc n
  have M := Aside0.mk m
  have OK := Aside0.mk ok
  have SC := Aside0.mk sc
  have HS := Aside0.mk hs
  clear m ok sc hs
  unfold scV
  obtain ⟨sz, m0⟩ := M.out
  have m1 := m0.below (below_alloc (below_alloc (Below.refl _ _) (.cells #[.string key, .int .i64 (at_ : Int), .slice U us.length cU, .slice D ds.length cD, .bool out] 160)) (.cells #[.int .i64 0, .slice none 0 0, .slice none 0 0, .int .i64 0] 25))
  have z10 := m1.z10
  have f10 := m1.fz 10
  have HN : Aside0 (Mk h p ((w.alloc (.cells #[.string key, .int .i64 (at_ : Int), .slice U us.length cU, .slice D ds.length cD, .bool out] 160)).alloc (.cells #[.int .i64 0, .slice none 0 0, .slice none 0 0, .int .i64 0] 25)) v vi vo dp sz E res) := ⟨m1⟩
  clear m0 m1
  have HM0 : Aside0 (∃ sz, Mk h p w v vi vo dp sz E res) := M
  go_enter Try.func111, Try.ntmps111
  go_wp2_with fail
  clear z10 f10
  have eed : ((dp + 1 : Nat) : Int) = (dp : Int) + 1 := by omega
  have HGS : Aside0 (Go p w v (w.setCell ⟨p, 10, none⟩ (.int .i64 ((dp : Int) + 1))) v) := ⟨by obtain ⟨sz, m⟩ := M.out; have := (m.set_deep (dp + 1)).2; rw [eed] at this; exact this⟩
  have HMS : Aside0 (∃ sz, Mk h p (w.setCell ⟨p, 10, none⟩ (.int .i64 ((dp : Int) + 1))) v vi vo (dp + 1) sz E res) := ⟨by obtain ⟨sz, m⟩ := M.out; have := (m.set_deep (dp + 1)).1; rw [eed] at this; exact ⟨sz, this⟩⟩
  obtain ⟨wb, hwb⟩ : ∃ wb : World, wb = (((w.alloc (.cells #[.string key, .int .i64 (at_ : Int), .slice U us.length cU, .slice D ds.length cD, .bool out] 160)).alloc (.cells #[.int .i64 0, .slice none 0 0, .slice none 0 0, .int .i64 0] 25)).setCell ⟨p, 10, none⟩ (.int .i64 ((dp : Int) + 1))) := ⟨_, rfl⟩
  have hlp : p < w.heap.size := by obtain ⟨sz, m⟩ := M.out; exact m.lt
  have HNB : Aside0 (Nx h p vi vo (dp + 1) (w.setCell ⟨p, 10, none⟩ (.int .i64 ((dp : Int) + 1))) v E res wb v E res) := by
    refine ⟨⟨HMS.out, ⟨sz, ?_⟩, ⟨?_, ?_, ?_, ⟨?_, ?_⟩, .inl rfl⟩, Nat.le_refl _, id⟩⟩
    · rw [hwb]; have := (HN.out.set_deep (dp + 1)).1; rw [eed] at this; exact this
    · rw [hwb]; rfl
    · rw [hwb]; rfl
    · rw [hwb]; rfl
    · rw [hwb]; simp [World.setCell]
      omega
    · intro i hi h1 h2
      have hi' : i < w.heap.size := by simpa [World.setCell] using hi
      rw [hwb, Below.heap_setCell _ _ _ _ (show i ≠ (⟨p, 10, none⟩ : Addr).block from h1), Below.heap_alloc _ _ _ (by simp; omega), Below.heap_alloc _ _ _ hi', Below.heap_setCell _ _ _ _ (show i ≠ (⟨p, 10, none⟩ : Addr).block from h1)]
  have K4 : Aside0 (wb.heap[w.heap.size]? = some (.cells #[.string key, .int .i64 (at_ : Int), .slice U us.length cU, .slice D ds.length cD, .bool out] 160 (0, 0))) := ⟨by rw [hwb]; exact blk_far (blk_alloc (blk_new w _) _) (by show _ ≠ p; omega) _⟩
  have K6 : Aside0 (wb.heap[w.heap.size + 1]? = some (.cells #[.int .i64 0, .slice none 0 0, .slice none 0 0, .int .i64 0] 25 (0, 0))) := ⟨by rw [hwb]; have := blk_new (w.alloc (.cells #[.string key, .int .i64 (at_ : Int), .slice U us.length cU, .slice D ds.length cD, .bool out] 160)) (.cells #[.int .i64 0, .slice none 0 0, .slice none 0 0, .int .i64 0] 25); simp only [World.size_alloc] at this; exact blk_far this (by show _ ≠ p; omega) _⟩
  have HG4 : Aside0 (w.heap.size ≤ w.heap.size + 1) := ⟨by omega⟩
  have HSZ : Aside0 (((w.setCell ⟨p, 10, none⟩ (.int .i64 ((dp : Int) + 1)))).heap.size = w.heap.size ∧ w.heap.size + 1 < wb.heap.size) := ⟨by simp [World.setCell], blk_lt K6.out⟩
  rw [← hwb]
  clear hwb hlp HN HMS eed
  generalize (w.setCell ⟨p, 10, none⟩ (.int .i64 ((dp : Int) + 1))) = ws at *
  generalize w.heap.size + 1 = g6 at *
  generalize hg4 : w.heap.size = g4 at *
  have HG5 := Aside0.mk hg4
  clear hg4
  refine (fault_any HNB.out.m1 _ 15 (by decide)).mono ?_
  rintro e w2 ⟨rfl, E2, hE, hn⟩
  have HE := Aside0.mk (fun e : E2 = 0 => of_decide_eq_false (hE e))
  have HN2 := Aside0.mk ((HNB.out.trans hn).below (below_alloc (Below.refl _ _) (.cells #[.int .i64 0, .slice none 0 0, .slice none 0 0, .int .i64 0] 25)))
  have K4b := Aside0.mk (blk_alloc (hn.blk K4.out (by decide) (by decide)) (.cells #[.int .i64 0, .slice none 0 0, .slice none 0 0, .int .i64 0] 25))
  have K6b := Aside0.mk (blk_alloc (hn.blk K6.out (by decide) (by decide)) (.cells #[.int .i64 0, .slice none 0 0, .slice none 0 0, .int .i64 0] 25))
  have K8b := Aside0.mk (blk_new w2 (.cells #[.int .i64 0, .slice none 0 0, .slice none 0 0, .int .i64 0] 25))
  have HG8 : Aside0 (g6 < w2.heap.size ∧ g4 ≤ g6 ∧ g4 ≤ w2.heap.size ∧ ws.heap.size ≤ w2.heap.size) := ⟨by
    have h1 := blk_lt (hn.blk K6.out (by decide) (by decide))
    have h2 := HG4.out
    have h3 := HSZ.out
    omega⟩
  obtain ⟨szq, mq⟩ := HN2.out.m1
  have z12 := mq.z12
  clear hn hE HNB K4 K6 HSZ mq
  have HPL : Aside0 (p < (w2.alloc (.cells #[.int .i64 0, .slice none 0 0, .slice none 0 0, .int .i64 0] 25)).heap.size) := ⟨by obtain ⟨sq, mq⟩ := HN2.out.m1; exact mq.lt⟩
  have HSA : Aside0 (w2.heap.size < (w2.alloc (.cells #[.int .i64 0, .slice none 0 0, .slice none 0 0, .int .i64 0] 25)).heap.size) := ⟨by simp⟩
  by_cases hE0 : E2 = 0
  · have e1 : decide (E2 = 0) = true := decide_eq_true hE0
    have e2 : (E2 == 0) = true := beq_iff_eq.mpr hE0
    have HE0 := Aside0.mk hE0
    clear hE0
    have b0 : (w2.alloc (.cells #[.int .i64 0, .slice none 0 0, .slice none 0 0, .int .i64 0] 25)).cell? ⟨g4, 0, none⟩ = some (.string key) := (blk_cell K4b.out 0).trans rfl
    have b1 : (w2.alloc (.cells #[.int .i64 0, .slice none 0 0, .slice none 0 0, .int .i64 0] 25)).cell? ⟨g4, 1, none⟩ = some (.int .i64 (at_ : Int)) := (blk_cell K4b.out 1).trans rfl
    have b2 : (w2.alloc (.cells #[.int .i64 0, .slice none 0 0, .slice none 0 0, .int .i64 0] 25)).cell? ⟨g4, 2, none⟩ = some (.slice U us.length cU) := (blk_cell K4b.out 2).trans rfl
    have b3 : (w2.alloc (.cells #[.int .i64 0, .slice none 0 0, .slice none 0 0, .int .i64 0] 25)).cell? ⟨g4, 3, none⟩ = some (.slice D ds.length cD) := (blk_cell K4b.out 3).trans rfl
    have b4 : (w2.alloc (.cells #[.int .i64 0, .slice none 0 0, .slice none 0 0, .int .i64 0] 25)).cell? ⟨g4, 4, none⟩ = some (.bool out) := (blk_cell K4b.out 4).trans rfl
    go_wp2_with fail
    clear z12 e1 e2
    clear b0 b1 b2 b3 b4
    obtain ⟨w2a, hw2a⟩ : ∃ w2a : World, w2a = w2.alloc (.cells #[.int .i64 0, .slice none 0 0, .slice none 0 0, .int .i64 0] 25) := ⟨_, rfl⟩
    rw [← hw2a] at HN2 K4b K6b K8b HPL HSA ⊢
    clear hw2a
    generalize w2.heap.size = g8 at *
    refine (HS.out (by have := HE.out HE0.out; omega) p w2a v vi vo E2 res HN2.out.m1 key at_ us U cU ds D cD out SC.out n).mono ?_
    rintro e w3 ⟨v3, E3, res3, y, A1, c1, A2, c2, i, rfl, hn, htv, hgd⟩
    have HN3 := Aside0.mk (HN2.out.trans hn)
    have K6c := Aside0.mk (hn.blk K6b.out (by decide) (by decide))
    have K8c := Aside0.mk (hn.blk K8b.out (by decide) (by decide))
    have HT := Aside0.mk htv
    have HGD := Aside0.mk hgd
    clear hn htv hgd HN2 K4b K6b K8b
    obtain ⟨szz, mz⟩ := HN3.out.m1
    have z10 := mz.z10
    have f10 := mz.fz 10
    have ee : ((dp + 1 : Nat) : Int) = (dp : Int) + 1 := by omega
    rw [ee] at z10
    have ne8 : g8 ≠ p := blk_ne K8c.out mz.hp (by decide)
    have ne6 : g6 ≠ p := blk_ne K6c.out mz.hp (by decide)
    have ne86 : g8 ≠ g6 := by have := HG8.out; omega
    have ne8b := ne8.symm
    have ne6b := ne6.symm
    have ne86b := ne86.symm
    have HEE := Aside0.mk ee
    clear mz ee
    have HP8 := Aside0.mk (HN3.out.put4 K8c.out (by decide) (by decide) (by have := HG8.out; omega) (.int .i64 y.f0) (.slice A1 y.f1.length c1) (.slice A2 y.f2.length c2) (.int .i64 y.f3))
    obtain ⟨szy, my⟩ := HP8.out.1.m1
    have HS5 := Aside0.mk (my.set_deep dp)
    have HN5 : Aside0 (Nx h p vi vo dp w v E res (((((w3.setCell ⟨g8, 0, none⟩ (.int .i64 y.f0)).setCell ⟨g8, 1, none⟩ (.slice A1 y.f1.length c1)).setCell ⟨g8, 2, none⟩ (.slice A2 y.f2.length c2)).setCell ⟨g8, 3, none⟩ (.int .i64 y.f3)).setCell ⟨p, 10, none⟩ (.int .i64 (dp : Int))) v3 E3 res3) := ⟨⟨HM0.out, ⟨_, HS5.out.1⟩, HGS.out.trans (HP8.out.1.go.trans HS5.out.2), HP8.out.1.le, HP8.out.1.er⟩⟩
    have K6x : Aside0 ((((((w3.setCell ⟨g8, 0, none⟩ (.int .i64 y.f0)).setCell ⟨g8, 1, none⟩ (.slice A1 y.f1.length c1)).setCell ⟨g8, 2, none⟩ (.slice A2 y.f2.length c2)).setCell ⟨g8, 3, none⟩ (.int .i64 y.f3)).setCell ⟨p, 10, none⟩ (.int .i64 (dp : Int))).heap[g6]? = some (.cells #[.int .i64 0, .slice none 0 0, .slice none 0 0, .int .i64 0] 25 (0, 0))) := ⟨blk_far ((HP8.out.2.2 g6 ne86b).trans K6c.out) ne6 _⟩
    have K8x : Aside0 ((((((w3.setCell ⟨g8, 0, none⟩ (.int .i64 y.f0)).setCell ⟨g8, 1, none⟩ (.slice A1 y.f1.length c1)).setCell ⟨g8, 2, none⟩ (.slice A2 y.f2.length c2)).setCell ⟨g8, 3, none⟩ (.int .i64 y.f3)).setCell ⟨p, 10, none⟩ (.int .i64 (dp : Int))).heap[g8]? = some (.cells #[.int .i64 y.f0, .slice A1 y.f1.length c1, .slice A2 y.f2.length c2, .int .i64 y.f3] 25 (0, 0))) := ⟨blk_far HP8.out.2.1 ne8 _⟩
    have HP6 := Aside0.mk (HN5.out.put4 K6x.out (by decide) (by decide) (by rw [HG5.out]; exact HG8.out.2.1) (.int .i64 y.f0) (.slice A1 y.f1.length c1) (.slice A2 y.f2.length c2) (.int .i64 y.f3))
    clear my
    have r0 : w3.cell? ⟨g8, 0, none⟩ = some (.int .i64 0) := (blk_cell K8c.out 0).trans rfl
    have r1 : w3.cell? ⟨g8, 1, none⟩ = some (.slice none 0 0) := (blk_cell K8c.out 1).trans rfl
    have r2 : w3.cell? ⟨g8, 2, none⟩ = some (.slice none 0 0) := (blk_cell K8c.out 2).trans rfl
    have r3 : w3.cell? ⟨g8, 3, none⟩ = some (.int .i64 0) := (blk_cell K8c.out 3).trans rfl
    have rf0 : w3.frozen? ⟨g8, 0, none⟩ = false := blk_frozen K8c.out 0
    have rf1 : w3.frozen? ⟨g8, 1, none⟩ = false := blk_frozen K8c.out 1
    have rf2 : w3.frozen? ⟨g8, 2, none⟩ = false := blk_frozen K8c.out 2
    have rf3 : w3.frozen? ⟨g8, 3, none⟩ = false := blk_frozen K8c.out 3
    have s0 : w3.cell? ⟨g6, 0, none⟩ = some (.int .i64 0) := (blk_cell K6c.out 0).trans rfl
    have s1 : w3.cell? ⟨g6, 1, none⟩ = some (.slice none 0 0) := (blk_cell K6c.out 1).trans rfl
    have s2 : w3.cell? ⟨g6, 2, none⟩ = some (.slice none 0 0) := (blk_cell K6c.out 2).trans rfl
    have s3 : w3.cell? ⟨g6, 3, none⟩ = some (.int .i64 0) := (blk_cell K6c.out 3).trans rfl
    have sf0 : w3.frozen? ⟨g6, 0, none⟩ = false := blk_frozen K6c.out 0
    have sf1 : w3.frozen? ⟨g6, 1, none⟩ = false := blk_frozen K6c.out 1
    have sf2 : w3.frozen? ⟨g6, 2, none⟩ = false := blk_frozen K6c.out 2
    have sf3 : w3.frozen? ⟨g6, 3, none⟩ = false := blk_frozen K6c.out 3
    go_wp2_with fail
    clear r0 rf0 r1 rf1 r2 rf2 r3 rf3
    clear s0 sf0 s1 sf1 s2 sf2 s3 sf3
    clear z10 f10
    obtain ⟨wf, hwf⟩ : ∃ wf : World, wf = (((((((((w3.setCell ⟨g8, 0, none⟩ (.int .i64 y.f0)).setCell ⟨g8, 1, none⟩ (.slice A1 y.f1.length c1)).setCell ⟨g8, 2, none⟩ (.slice A2 y.f2.length c2)).setCell ⟨g8, 3, none⟩ (.int .i64 y.f3)).setCell ⟨p, 10, none⟩ (.int .i64 (dp : Int))).setCell ⟨g6, 0, none⟩ (.int .i64 y.f0)).setCell ⟨g6, 1, none⟩ (.slice A1 y.f1.length c1)).setCell ⟨g6, 2, none⟩ (.slice A2 y.f2.length c2)).setCell ⟨g6, 3, none⟩ (.int .i64 y.f3)) := ⟨_, rfl⟩
    have HTV : Aside0 (TV p (((((((((w3.setCell ⟨g8, 0, none⟩ (.int .i64 y.f0)).setCell ⟨g8, 1, none⟩ (.slice A1 y.f1.length c1)).setCell ⟨g8, 2, none⟩ (.slice A2 y.f2.length c2)).setCell ⟨g8, 3, none⟩ (.int .i64 y.f3)).setCell ⟨p, 10, none⟩ (.int .i64 (dp : Int))).setCell ⟨g6, 0, none⟩ (.int .i64 y.f0)).setCell ⟨g6, 1, none⟩ (.slice A1 y.f1.length c1)).setCell ⟨g6, 2, none⟩ (.slice A2 y.f2.length c2)).setCell ⟨g6, 3, none⟩ (.int .i64 y.f3)) w2a.heap.size v3 y (.slice A1 y.f1.length c1) (.slice A2 y.f2.length c2)) := ⟨by (repeat refine TV.set ?_ (by have h1 := HPL.out; have h2 := HSA.out; have h3 := HG8.out; omega) _ _); exact HT.out⟩
    rw [← hwf] at HP6 HTV ⊢
    clear hwf
    have s0 : wf.cell? ⟨g6, 0, none⟩ = some (.int .i64 y.f0) := (blk_cell HP6.out.2.1 0).trans rfl
    have s1 : wf.cell? ⟨g6, 1, none⟩ = some (.slice A1 y.f1.length c1) := (blk_cell HP6.out.2.1 1).trans rfl
    have s2 : wf.cell? ⟨g6, 2, none⟩ = some (.slice A2 y.f2.length c2) := (blk_cell HP6.out.2.1 2).trans rfl
    have s3 : wf.cell? ⟨g6, 3, none⟩ = some (.int .i64 y.f3) := (blk_cell HP6.out.2.1 3).trans rfl
    exact bodyPost_ret (v := .tuple #[.agg #[.int .i64 y.f0, .slice A1 y.f1.length c1, .slice A2 y.f2.length c2, .int .i64 y.f3], .int .i64 i]) (by simp [results, Try.results111, go_sem, *]) rfl ⟨v3, E3, res3, y, A1, c1, A2, c2, i, rfl, HP6.out.1, HTV.out.lower (by have h1 := HG5.out; have h2 := HSA.out; have h3 := HG8.out; omega), HGD.out⟩
  · have e1 : decide (E2 = 0) = false := decide_eq_false hE0
    have e2 : (E2 == 0) = false := beq_eq_false_iff_ne.mpr hE0
    have HE0 := Aside0.mk hE0
    clear hE0
    obtain ⟨szz, mz⟩ := HN2.out.m1
    have z10 := mz.z10
    have f10 := mz.fz 10
    have ee : ((dp + 1 : Nat) : Int) = (dp : Int) + 1 := by omega
    rw [ee] at z10
    have ne8 : w2.heap.size ≠ p := blk_ne K8b.out mz.hp (by decide)
    have ne6 : g6 ≠ p := blk_ne K6b.out mz.hp (by decide)
    have ne86 : w2.heap.size ≠ g6 := by have := HG8.out; omega
    have ne8b := ne8.symm
    have ne6b := ne6.symm
    have ne86b := ne86.symm
    have HEE := Aside0.mk ee
    clear mz ee
    have HP8 := Aside0.mk (And.intro HN2.out (And.intro K8b.out (fun k (_ : k ≠ w2.heap.size) => (rfl : (w2.alloc (.cells #[.int .i64 0, .slice none 0 0, .slice none 0 0, .int .i64 0] 25)).heap[k]? = (w2.alloc (.cells #[.int .i64 0, .slice none 0 0, .slice none 0 0, .int .i64 0] 25)).heap[k]?))))
    obtain ⟨szy, my⟩ := HP8.out.1.m1
    have HS5 := Aside0.mk (my.set_deep dp)
    have HN5 : Aside0 (Nx h p vi vo dp w v E res ((w2.alloc (.cells #[.int .i64 0, .slice none 0 0, .slice none 0 0, .int .i64 0] 25)).setCell ⟨p, 10, none⟩ (.int .i64 (dp : Int))) v E2 res) := ⟨⟨HM0.out, ⟨_, HS5.out.1⟩, HGS.out.trans (HP8.out.1.go.trans HS5.out.2), HP8.out.1.le, HP8.out.1.er⟩⟩
    have K6x : Aside0 (((w2.alloc (.cells #[.int .i64 0, .slice none 0 0, .slice none 0 0, .int .i64 0] 25)).setCell ⟨p, 10, none⟩ (.int .i64 (dp : Int))).heap[g6]? = some (.cells #[.int .i64 0, .slice none 0 0, .slice none 0 0, .int .i64 0] 25 (0, 0))) := ⟨blk_far ((HP8.out.2.2 g6 ne86b).trans K6b.out) ne6 _⟩
    have K8x : Aside0 (((w2.alloc (.cells #[.int .i64 0, .slice none 0 0, .slice none 0 0, .int .i64 0] 25)).setCell ⟨p, 10, none⟩ (.int .i64 (dp : Int))).heap[w2.heap.size]? = some (.cells #[.int .i64 0, .slice none 0 0, .slice none 0 0, .int .i64 0] 25 (0, 0))) := ⟨blk_far HP8.out.2.1 ne8 _⟩
    have HP6 := Aside0.mk (HN5.out.put4 K6x.out (by decide) (by decide) (by rw [HG5.out]; exact HG8.out.2.1) (.int .i64 0) (.slice none 0 0) (.slice none 0 0) (.int .i64 0))
    clear my
    have r0 : (w2.alloc (.cells #[.int .i64 0, .slice none 0 0, .slice none 0 0, .int .i64 0] 25)).cell? ⟨w2.heap.size, 0, none⟩ = some (.int .i64 0) := (blk_cell K8b.out 0).trans rfl
    have r1 : (w2.alloc (.cells #[.int .i64 0, .slice none 0 0, .slice none 0 0, .int .i64 0] 25)).cell? ⟨w2.heap.size, 1, none⟩ = some (.slice none 0 0) := (blk_cell K8b.out 1).trans rfl
    have r2 : (w2.alloc (.cells #[.int .i64 0, .slice none 0 0, .slice none 0 0, .int .i64 0] 25)).cell? ⟨w2.heap.size, 2, none⟩ = some (.slice none 0 0) := (blk_cell K8b.out 2).trans rfl
    have r3 : (w2.alloc (.cells #[.int .i64 0, .slice none 0 0, .slice none 0 0, .int .i64 0] 25)).cell? ⟨w2.heap.size, 3, none⟩ = some (.int .i64 0) := (blk_cell K8b.out 3).trans rfl
    have rf0 : (w2.alloc (.cells #[.int .i64 0, .slice none 0 0, .slice none 0 0, .int .i64 0] 25)).frozen? ⟨w2.heap.size, 0, none⟩ = false := blk_frozen K8b.out 0
    have rf1 : (w2.alloc (.cells #[.int .i64 0, .slice none 0 0, .slice none 0 0, .int .i64 0] 25)).frozen? ⟨w2.heap.size, 1, none⟩ = false := blk_frozen K8b.out 1
    have rf2 : (w2.alloc (.cells #[.int .i64 0, .slice none 0 0, .slice none 0 0, .int .i64 0] 25)).frozen? ⟨w2.heap.size, 2, none⟩ = false := blk_frozen K8b.out 2
    have rf3 : (w2.alloc (.cells #[.int .i64 0, .slice none 0 0, .slice none 0 0, .int .i64 0] 25)).frozen? ⟨w2.heap.size, 3, none⟩ = false := blk_frozen K8b.out 3
    have s0 : (w2.alloc (.cells #[.int .i64 0, .slice none 0 0, .slice none 0 0, .int .i64 0] 25)).cell? ⟨g6, 0, none⟩ = some (.int .i64 0) := (blk_cell K6b.out 0).trans rfl
    have s1 : (w2.alloc (.cells #[.int .i64 0, .slice none 0 0, .slice none 0 0, .int .i64 0] 25)).cell? ⟨g6, 1, none⟩ = some (.slice none 0 0) := (blk_cell K6b.out 1).trans rfl
    have s2 : (w2.alloc (.cells #[.int .i64 0, .slice none 0 0, .slice none 0 0, .int .i64 0] 25)).cell? ⟨g6, 2, none⟩ = some (.slice none 0 0) := (blk_cell K6b.out 2).trans rfl
    have s3 : (w2.alloc (.cells #[.int .i64 0, .slice none 0 0, .slice none 0 0, .int .i64 0] 25)).cell? ⟨g6, 3, none⟩ = some (.int .i64 0) := (blk_cell K6b.out 3).trans rfl
    have sf0 : (w2.alloc (.cells #[.int .i64 0, .slice none 0 0, .slice none 0 0, .int .i64 0] 25)).frozen? ⟨g6, 0, none⟩ = false := blk_frozen K6b.out 0
    have sf1 : (w2.alloc (.cells #[.int .i64 0, .slice none 0 0, .slice none 0 0, .int .i64 0] 25)).frozen? ⟨g6, 1, none⟩ = false := blk_frozen K6b.out 1
    have sf2 : (w2.alloc (.cells #[.int .i64 0, .slice none 0 0, .slice none 0 0, .int .i64 0] 25)).frozen? ⟨g6, 2, none⟩ = false := blk_frozen K6b.out 2
    have sf3 : (w2.alloc (.cells #[.int .i64 0, .slice none 0 0, .slice none 0 0, .int .i64 0] 25)).frozen? ⟨g6, 3, none⟩ = false := blk_frozen K6b.out 3
    go_wp2_with fail
    clear r0 rf0 r1 rf1 r2 rf2 r3 rf3
    clear s0 sf0 s1 sf1 s2 sf2 s3 sf3
    clear z10 f10
    obtain ⟨wf, hwf⟩ : ∃ wf : World, wf = ((((((w2.alloc (.cells #[.int .i64 0, .slice none 0 0, .slice none 0 0, .int .i64 0] 25)).setCell ⟨p, 10, none⟩ (.int .i64 (dp : Int))).setCell ⟨g6, 0, none⟩ (.int .i64 0)).setCell ⟨g6, 1, none⟩ (.slice none 0 0)).setCell ⟨g6, 2, none⟩ (.slice none 0 0)).setCell ⟨g6, 3, none⟩ (.int .i64 0)) := ⟨_, rfl⟩
    have HTV : Aside0 (TV p ((((((w2.alloc (.cells #[.int .i64 0, .slice none 0 0, .slice none 0 0, .int .i64 0] 25)).setCell ⟨p, 10, none⟩ (.int .i64 (dp : Int))).setCell ⟨g6, 0, none⟩ (.int .i64 0)).setCell ⟨g6, 1, none⟩ (.slice none 0 0)).setCell ⟨g6, 2, none⟩ (.slice none 0 0)).setCell ⟨g6, 3, none⟩ (.int .i64 0)) w.heap.size v PSubFits.z25 (.slice none 0 0) (.slice none 0 0)) := ⟨TV.zero _ _ _ _⟩
    rw [← hwf] at HP6 HTV ⊢
    clear hwf
    have s0 : wf.cell? ⟨g6, 0, none⟩ = some (.int .i64 0) := (blk_cell HP6.out.2.1 0).trans rfl
    have s1 : wf.cell? ⟨g6, 1, none⟩ = some (.slice none 0 0) := (blk_cell HP6.out.2.1 1).trans rfl
    have s2 : wf.cell? ⟨g6, 2, none⟩ = some (.slice none 0 0) := (blk_cell HP6.out.2.1 2).trans rfl
    have s3 : wf.cell? ⟨g6, 3, none⟩ = some (.int .i64 0) := (blk_cell HP6.out.2.1 3).trans rfl
    exact bodyPost_ret (v := .tuple #[.agg #[.int .i64 0, .slice none 0 0, .slice none 0 0, .int .i64 0], .int .i64 (-1)]) (by simp [results, Try.results111, go_sem, *]) rfl ⟨v, E2, res, PSubFits.z25, none, 0, none, 0, -1, rfl, HP6.out.1, HTV.out, fun h => absurd h HE0.out⟩
end Go.Proofs.Ytmpmcffhlnlejaa.Mkr
end
section
namespace Go.Proofs.Ytmpmcffhlnlejaa.Mkr
open Go.RowKit Go.Proofs.YtmpmcffhlnlejaaW.PrintWords Go.Proofs.YtmpmcffhlnlejaaW.PrintLast Go.Proofs.YtmpmcffhlnlejaaW.PrintMore
open Go.Proofs.Ytmpmcffhlnlejaa.PSubSelf Go.Proofs.Ytmpmcffhlnlejaa.Wld
set_option linter.unusedVariables false
set_option linter.unusedSimpArgs false
/-- A row of a call's own has grown. -/
theorem Nx.grown {h : Hd} {p : Nat} {vi vo : Value} {dp : Nat} {w : World} {v : Value} {E : Int} {res : List ByteArray} {w' : World} {v' : Value} {E' : Int} {res' : List ByteArray}
    (a : Nx h p vi vo dp w v E res w' v' E' res') {w1 : World} {row : Option Nat} (hg : w'.grownBy w1 row) (hr : ∀ k, row = some k → w.heap.size ≤ k ∧ k ≠ p ∧ some k ≠ v'.ownBlock) : Nx h p vi vo dp w v E res w1 v' E' res' := by
  obtain ⟨sz, m⟩ := a.m1
  obtain ⟨sz0, m0⟩ := a.m0
  have hB : ∀ k, row = some k → h.W0.heap.size ≤ k := fun k e => Nat.le_trans m0.bl.size (hr k e).1
  obtain ⟨x0, inner, ho, hrr⟩ := m.hr
  have hR : Kd.string.R 9 w' h.W0.heap.size (fun k => v'.ownBlock = some k) v' res' := ⟨fun k hk => hk, inner, ho, hrr⟩
  refine ⟨a.m0, ⟨sz, ⟨m.bl.grown hg m.bl.size hB, blk_grown m.hp hg (fun e => (hr p e.symm).2.1 rfl), m.p0, Kd.R_mono (Kd.R_grown hR hg (fun k hk e => (hr k e.symm).2.2 hk.symm)) (fun _ _ => trivial), m.nd, m.sub⟩⟩, ⟨hg.os.trans a.go.os, hg.tape.trans a.go.tape, hg.output.trans a.go.output, ⟨Nat.le_trans a.go.keep.1 hg.size, fun i hi h1 h2 => (hg.block i (Nat.lt_of_lt_of_le hi a.go.keep.1) (fun e => ?_)).trans (a.go.keep.2 i hi h1 h2)⟩, a.go.own⟩, a.le, a.er⟩
  have := (hr i e.symm).1
  omega
/-- A row of another type has grown. -/
theorem R_off {α β : Type} {d : Kd α} {e : TypeId} {w w1 : World} {base : Nat} {ok : Nat → Prop} {v : Value} {xs : List α} (hR : d.R e w base ok v xs) {d2 : Kd β} {e2 : TypeId} {base2 : Nat} {ok2 : Nat → Prop} {u : Value} {ys : List β}
    (h2 : d2.R e2 w base2 ok2 u ys) (hg : w.grownBy w1 u.ownBlock) (ht : ∀ q, q ∈ e :: d.E → q ≠ e2) : d.R e w1 base ok v xs := by
  obtain ⟨inner, ho⟩ := Kd.R_own h2
  cases hu : u.ownBlock with
  | none =>
    rw [hu] at hg
    exact Kd.R_grown hR hg (fun k _ => by simp)
  | some g =>
    obtain ⟨cells, hc⟩ := own_typed ho g hu
    rw [hu] at hg
    exact Kd.R_mono (Kd.R_grown (Kd.R_types hR hc ht) hg (fun k hk e => hk.2 (Option.some.inj e))) (fun k hk => hk.1)
/-- An append's row is a call's own. -/
theorem row_hr {α : Type} {d : Kd α} {e : TypeId} {w w' : World} {base p : Nat} {v' u : Value} {xs : List α} (hr : d.R e w' base (fun k => k ≠ p ∧ some k ≠ v'.ownBlock) u xs) (hb : w.heap.size ≤ base) :
    ∀ k, u.ownBlock = some k → w.heap.size ≤ k ∧ k ≠ p ∧ some k ≠ v'.ownBlock := fun k hk => by
  have h1 := hr.1 k hk
  obtain ⟨inner, ho⟩ := Kd.R_own hr
  have h2 := own_base ho k hk
  exact ⟨Nat.le_trans hb h2, h1.1, h1.2⟩
theorem info25 : (Try.prog.info? 25).map (fun i => (i.zero, i.size, i.bytes)) = some (some (.agg #[.int .i64 0, .slice none 0 0, .slice none 0 0, .int .i64 0]), 4, 64) := by kernel_rfl
end Go.Proofs.Ytmpmcffhlnlejaa.Mkr
end
