/- The row of the law SubNames: at every start whose arguments can be read, it returns true, and its arguments read as before. No condition. -/
import Derived.Test.YtmpmcffhlnlejaaRows
import Derived.Test.YtmpmcffhlnlejaaSubNamesW
import Derived.Test.YtmpmcffhlnlejaaSubSized
import Derived.WalkKit
import Derived.ProofKit
import Derived.OpenShut
import Derived.ShutString
import Derived.ChangeOld
import Derived.Below
import Derived.SizedLaws
namespace Go.Proofs.Ytmpmcffhlnlejaa.SubNamesL
open Go.ChangeShapes Go.WideShapes Go.ChangeAt Go.RowKit
open Go.Proofs.Ytmpmcffhlnlejaa.SubEq
set_option linter.unusedVariables false
theorem own : ownKnob Try.prog.godebug = none := by kernel_rfl
theorem laidOut : laidOutB Try.prog = true := by kernel_rfl
set_option maxRecDepth 100000 in
theorem lifted (os : Os) (started : os.Started) (H : Type) (enc : TypeId × Value → H) :
    ReturnsInHanded {} Try.checked os 4 .any (Rows.subNamesSpec.pre6 enc Try.prog Try.f4 Rows.subNamesRow.domain false) (Rows.subNamesSpec.post enc Try.prog Try.f4 false true false false) := by
  refine returnsInHanded_of_change_sized (C := Try.checked) own started (by kernel_rfl) Try.func4
    (ChangeSpec.witness6 (enc := enc) (C := Try.checked) false ⟨#[], #[.agg #[.string ByteArray.empty, .slice none 0 0, .slice none 0 0, .int .i64 0, .slice none 0 0, .slice none 0 0, .int .i64 0], .int .i64 0], []⟩ 8 (by kernel_rfl) (by kernel_rfl) (by kernel_rfl) (by kernel_rfl)) ?_
  intro W base args ds gs before hval0 hW hcnd hsz0 _
  have hsz : (DataW.weightsEach Try.prog (Try.f4.params.toList ++ Rows.subNamesSpec.plain.varTypes Try.prog) (ds ++ gs)).all (· ≤ reachBytes) = true := hsz0
  have hval : ∀ (j : Nat) t v, Try.f4.params[j]? = some t → args[j]? = some v → Value.okWide Try.prog W .any base t v := hval0
  have hW' := hW
  obtain ⟨p, q, hA0, hV, rfl, hfz, hnd⟩ := hW
  have hA : DataW.TrodAll enc Try.prog W 0 (fun _ => true) true Try.f4.params.toList args.toList ds p := hA0
  rw [Try.params4] at hA hval hsz
  obtain ⟨v0, vs0, d0, ds0, p0, q0, hargs, rfl, rfl, h0, r0⟩ := trodAll_cons hA
  obtain ⟨v1, vs1, d1, ds1, p1, q1, rfl, rfl, rfl, h1, r1⟩ := trodAll_cons r0
  obtain ⟨rfl, rfl, rfl⟩ := trodAll_nil r1
  obtain rfl : args = #[v0, v1] := by cases args; simp_all
  obtain ⟨rfl, rfl⟩ := trodVars_none hV
  have lt : ∀ {t : TypeId} {v : Value} {d : DataW H} {p : List MemPlace}, DataW.Trod enc Try.prog W 0 (fun _ => true) true t v d p → ∀ x ∈ p, x.block < W.heap.size := fun h => by
    obtain ⟨m, hm⟩ := h
    exact DataW.trod_lt m _ _ _ hm
  obtain ⟨x, X1, x1, X2, x2, X4, x4, X5, x5, e0, s1, s2, s3, s4, s5, s6, s7⟩ := open_sigW (hval 0 27 v0 rfl rfl) h0 (within_of hsz (j := 0) rfl rfl)
  obtain ⟨k, rfl, rfl, rfl, wk⟩ := open_int Try.underlying3 (hval 1 3 v1 rfl rfl) h1
  clear hA0 hval0 hsz0 hsz
  subst e0
  have law : Calls Try.prog 4 #[.agg #[.string x.f0, .slice X1 x.f1.length x1, .slice X2 x.f2.length x2, .int .i64 x.f3.f0, .slice X4 x.f3.f1.length x4, .slice X5 x.f3.f2.length x5, .int .i64 x.f3.f3], .int .i64 k] W fun e w' => e = .returned (.bool true) ∧ Below W.heap.size W w' := by
    by_cases hn : x.f1.length = 0 ∨ 100 < x.f1.length
    · exact law_names_edge x k W X1 x1 X2 x2 X4 x4 X5 x5 hn
    · exact law_names_mid x k W X1 x1 X2 x2 X4 x4 X5 x5 ⟨s1, s2, s3, s4, s5⟩ (by omega) (by omega) s7
  refine law.mono fun e W' ⟨he, bel⟩ => ?_
  subst he
  exact ⟨_, rfl, _, _, _, [], _, [], hW', trodAll_mk1 (shut_bool Try.underlying4 _),
    (trodAll_cons_mk (Below.trod laidOut (by kernel_rfl) (of_decide_eq_true (by kernel_rfl)) h0 bel (lt h0)) (trodAll_cons_mk (shut_int Try.underlying3 wk) trodAll_mk0)), rfl, bel.frame _, fun h => by cases h⟩
theorem over : Rows.subNamesRow.holds Try.pinned (OpenSpec.ofChange Rows.subNamesSpec) :=
  OpenClaim.holds_of_wide 4 Try.f4 rfl rfl rfl rfl rfl rfl rfl ⟨rfl, rfl, rfl, rfl, rfl⟩ rfl rfl rfl rfl rfl (by kernel_rfl) Try.func4 (by kernel_rfl)
    (of_decide_eq_true (by kernel_rfl)) (by unfold Func.isWrapper; first | (rw [if_pos (by decide +kernel)]; kernel_rfl) | (rw [if_neg (by decide +kernel)]; exact ⟨rfl, rfl⟩))
    (fun os started H enc _ => lifted os started H enc)
theorem proved : Rows.SubNamesSaid := over
#print axioms proved
end Go.Proofs.Ytmpmcffhlnlejaa.SubNamesL
namespace Go.Proofs.Ytmpmcffhlnlejaa
/-- The row, under a short name, for the claim. -/
theorem subNames_holds : Rows.SubNamesSaid := SubNamesL.proved
end Go.Proofs.Ytmpmcffhlnlejaa
