/- The row of the law MemPlays: at every start whose arguments can be read, it returns true, and its arguments read as before. No condition. -/
import Derived.Test.YtmpmcffhlnlejaaRows
import Derived.Test.YtmpmcffhlnlejaaMemPlay5
import Derived.Test.YtmpmcffhlnlejaaMemOpen
import Derived.WalkKit
import Derived.ProofKit
import Derived.OpenShut
import Derived.ShutString
import Derived.ChangeOld
import Derived.Below
import Derived.SizedLaws
namespace Go.Proofs.Ytmpmcffhlnlejaa.MemPlaysL
open Go.ChangeShapes Go.WideShapes Go.ChangeAt Go.RowKit
open Go.Proofs.Ytmpmcffhlnlejaa.MemEq
set_option linter.unusedVariables false
theorem own : ownKnob Try.prog.godebug = none := by kernel_rfl
theorem laidOut : laidOutB Try.prog = true := by kernel_rfl
theorem cells69 : Try.prog.cellsOf 69 = 2 := by kernel_rfl
set_option maxRecDepth 100000 in
theorem open_limits {H : Type} {enc : TypeId × Value → H} {w : World} {base : Nat} {spare : Nat → Bool} {held : Bool} {v : Value} {r : Reach} {b : Nat} {d : DataW H} {p : List MemPlace} (hv : Value.okWide Try.prog w r b 69 v) (h : DataW.Trod enc Try.prog w base spare held 69 v d p) :
    ∃ a c : Int, v = .agg #[.int .i64 a, .int .i64 c] := by
  obtain ⟨cs, rfl, _⟩ := okWide_struct Try.underlying69 hv
  obtain ⟨fuel, hf⟩ := h
  obtain ⟨xs, n, rfl, hx, hl, hxl, hfs⟩ := DataW.trod_struct Try.underlying69 hf
  have hl3 : (Value.agg cs).cells.toList.length = 2 := hl.trans cells69
  have hc : cs.toList.length = 2 := hl3
  obtain ⟨l⟩ := cs
  match l, hc with
  | [v0, v1], _ =>
    have hx3 : xs.length = 2 := hxl
    match xs, hx3 with
    | [y0, y1], _ =>
      have g0 : DataW.trod enc Try.prog w base spare held n 3 [v0] = some y0 := hfs 0 _ rfl
      have g1 : DataW.trod enc Try.prog w base spare held n 3 [v1] = some y1 := hfs 1 _ rfl
      obtain ⟨a, ea, _⟩ := DataW.trod_int Try.underlying3 g0
      obtain ⟨c, ec, _⟩ := DataW.trod_int Try.underlying3 g1
      injection ea with ea
      injection ec with ec
      subst ea ec
      exact ⟨a, c, rfl⟩
set_option maxRecDepth 100000 in
theorem lifted (os : Os) (started : os.Started) (H : Type) (enc : TypeId × Value → H) :
    ReturnsInHanded {} Try.checked os 13 .any (Rows.memPlaysSpec.pre6 enc Try.prog Try.f13 Rows.memPlaysRow.domain false) (Rows.memPlaysSpec.post enc Try.prog Try.f13 false true false false) := by
  refine returnsInHanded_of_change_sized (C := Try.checked) own started (by kernel_rfl) Try.func13
    (ChangeSpec.witness6 (enc := enc) (C := Try.checked) false ⟨#[], #[.agg #[.int .i64 0, .int .i64 0], .slice none 0 0], []⟩ 8 (by kernel_rfl) (by kernel_rfl) (by kernel_rfl) (by kernel_rfl)) ?_
  intro W base args ds gs before hval0 hW hcnd hsz0 _
  have hval : ∀ (j : Nat) t v, Try.f13.params[j]? = some t → args[j]? = some v → Value.okWide Try.prog W .any base t v := hval0
  have hW' := hW
  obtain ⟨p, q, hA0, hV, rfl, hfz, hnd⟩ := hW
  have hA : DataW.TrodAll enc Try.prog W 0 (fun _ => true) true Try.f13.params.toList args.toList ds p := hA0
  rw [Try.params13] at hA hval
  obtain ⟨v0, vs0, d0, ds0, p0, q0, hargs, rfl, rfl, h0, r0⟩ := trodAll_cons hA
  obtain ⟨v1, vs1, d1, ds1, p1, q1, rfl, rfl, rfl, h1, r1⟩ := trodAll_cons r0
  obtain ⟨rfl, rfl, rfl⟩ := trodAll_nil r1
  obtain rfl : args = #[v0, v1] := by cases args; simp_all
  obtain ⟨rfl, rfl⟩ := trodVars_none hV
  have lt : ∀ {t : TypeId} {v : Value} {d : DataW H} {p : List MemPlace}, DataW.Trod enc Try.prog W 0 (fun _ => true) true t v d p → ∀ x ∈ p, x.block < W.heap.size := fun h => by
    obtain ⟨m, hm⟩ := h
    exact DataW.trod_lt m _ _ _ hm
  obtain ⟨mn, mx, e0⟩ := open_limits (hval 0 69 v0 rfl rfl) h0
  obtain ⟨A1, l1, c1, e1, g1, s1⟩ := open_deeds (hval 1 55 v1 rfl rfl) h1
  subst e0 e1
  clear hA0 hval0 hsz0
  have law := law_plays mn mx l1 A1 c1 W s1 g1
  refine law.mono fun e W' ⟨he, bel⟩ => ?_
  subst he
  exact ⟨_, rfl, _, _, _, [], _, [], hW', trodAll_mk1 (shut_bool Try.underlying4 _),
    (trodAll_cons_mk (Below.trod laidOut (by kernel_rfl) (of_decide_eq_true (by kernel_rfl)) h0 bel (lt h0)) (trodAll_cons_mk (Below.trod laidOut (by kernel_rfl) (of_decide_eq_true (by kernel_rfl)) h1 bel (lt h1)) trodAll_mk0)), rfl, bel.frame _, fun h => by cases h⟩
theorem over : Rows.memPlaysRow.holds Try.pinned (OpenSpec.ofChange Rows.memPlaysSpec) :=
  OpenClaim.holds_of_wide 13 Try.f13 rfl rfl rfl rfl rfl rfl rfl ⟨rfl, rfl, rfl, rfl, rfl⟩ rfl rfl rfl rfl rfl (by kernel_rfl) Try.func13 (by kernel_rfl)
    (of_decide_eq_true (by kernel_rfl)) (by unfold Func.isWrapper; first | (rw [if_pos (by decide +kernel)]; kernel_rfl) | (rw [if_neg (by decide +kernel)]; exact ⟨rfl, rfl⟩))
    (fun os started H enc _ => lifted os started H enc)
theorem proved : Rows.MemPlaysSaid := over
#print axioms proved
end Go.Proofs.Ytmpmcffhlnlejaa.MemPlaysL
namespace Go.Proofs.Ytmpmcffhlnlejaa
/-- The row, under a short name, for the claim. -/
theorem memPlays_holds : Rows.MemPlaysSaid := MemPlaysL.proved
end Go.Proofs.Ytmpmcffhlnlejaa
