/- A part of the proof of the law that its last file names: texts of this seat's author and of the kit's printer, cut to what the theorem uses. Part 2: WLast, WTab, WFour, WQPut, WApart, WArr, WZeros, WFoot, WKept, WShare, WN, WFootNe, WAt, WEqStruct, WRepsOne, WInv, WInvWords, WGuard, WNEv, WMore, PSubSelfx0, Wld1. -/
import Derived.Test.YtmpmcffhlnlejaaCs01
section
namespace Go.Proofs.YtmpmcffhlnlejaaW.PrintLast
section
variable {P : Program} {ops : Array Oper} {Q : Exit → Act → World → Prop} {md : Region.Mode} {S : World → Prop} {ds : List Nat}
end
section
variable {P : Program} {ops : Array Oper} {Q : Exit → Act → World → Prop} {md : Region.Mode} {S : World → Prop} {ds : List Nat}
end
end Go.Proofs.YtmpmcffhlnlejaaW.PrintLast
end
section
namespace Go.Proofs.YtmpmcffhlnlejaaW.PrintLast
open Go.Proofs.YtmpmcffhlnlejaaW.PrintWords (Aside0)
section
variable {md : Region.Mode} {ops : Array Oper} {T : Bool × List (List Nat × List Nat)} {l l' li lj lk : Array Bool} {ds : List Nat} {i j k : Nat}
end
end Go.Proofs.YtmpmcffhlnlejaaW.PrintLast
end
section
namespace Go.Proofs.YtmpmcffhlnlejaaW.PrintLast
section
variable {P : Program} {ops : Array Oper} {Q : Exit → Act → World → Prop} {md : Region.Mode} {S : World → Prop} {ds : List Nat} {T : Bool × List (List Nat × List Nat)}
end
end Go.Proofs.YtmpmcffhlnlejaaW.PrintLast
end
section
namespace Go.Proofs.YtmpmcffhlnlejaaW.PrintWords
open Go.RowKit
namespace Kd
section
variable {α : Type} {d : Kd α} {e base g o n cap : Nat} {ok okp : Nat → Prop} {w W : World} {v : Value} {xs : List α}
end
section
variable {α : Type} {enc : α → Value} {h1 : ∀ x, (enc x).oneCell' = true} {e base g o n cap : Nat} {ok : Nat → Prop} {W : World} {xs : List α}
end
end Kd
end Go.Proofs.YtmpmcffhlnlejaaW.PrintWords
end
section
namespace Go.Proofs.YtmpmcffhlnlejaaW.PrintWords
open Go.RowKit
namespace Kd
section
variable {α β : Type} {d : Kd α} {d' : Kd β} {e e' : Nat} {w w1 W : World} {base b : Nat} {ok ok' okv oku : Nat → Prop} {u v : Value} {xs : List α} {ys : List β}
end
section
variable {α β : Type} {d : Kd α} {d' : Kd β} {e e' g : Nat} {w w1 W : World} {base b : Nat} {ok ok' okv oku : Nat → Prop} {u v : Value} {xs : List α} {ys : List β}
end
section
variable {P : Program} {ops : Array Oper} {rest : List Oper} {o : Oper} {a : Act} {Q : Exit → Act → World → Prop} {Kc : Act → World → Prop} {α : Type}
end
section
variable {α β : Type} {d : Kd α} {e e' g n cap : Nat} {w w1 W : World} {base : Nat} {ok ok' oki okp : Nat → Prop} {u v : Value} {xs : List α} {i : Int} {c : List Value}
end
section
variable {P : Program} {ops : Array Oper} {rest : List Oper} {o : Oper} {a : Act} {Q : Exit → Act → World → Prop} {α : Type}
end
end Kd
end Go.Proofs.YtmpmcffhlnlejaaW.PrintWords
end
section
namespace Go.Proofs.YtmpmcffhlnlejaaW.PrintWords
open Go.RowKit
namespace Kd
section
variable {α : Type} {n : Nat} {d : Kd α} {hs : 0 < d.sz} {w : World} {base : Nat} {ok : Nat → Prop} {xs : List α} {cs : List Value}
end
section
variable {α : Type} {n : Nat} {enc : α → Value} {h1 : ∀ x, (enc x).oneCell' = true} {hs : 0 < (scalar enc h1).sz} {w : World} {base : Nat} {ok : Nat → Prop} {xs : List α} {cs : List Value}
end
end Kd
end Go.Proofs.YtmpmcffhlnlejaaW.PrintWords
end
section
namespace Go.Proofs.YtmpmcffhlnlejaaW.PrintWords
open Go.RowKit
section
variable {P : Program}
end
namespace Kd
section
variable {P : Program} {ops : Array Oper} {rest : List Oper} {o : Oper} {a : Act} {Q : Exit → Act → World → Prop} {Kc : Act → World → Prop} {α : Type}
end
section
variable {α : Type} {d : Kd α} {e : Nat} {w : World} {base : Nat} {ok : Nat → Prop} {v : Value} {xs : List α}
end
section
variable {P : Program} {ops : Array Oper} {rest : List Oper} {o : Oper} {a : Act} {Q : Exit → Act → World → Prop} {Kc : Act → World → Prop} {α : Type}
end
end Kd
end Go.Proofs.YtmpmcffhlnlejaaW.PrintWords
end
section
namespace Go.Proofs.YtmpmcffhlnlejaaW.PrintWords
open Go.RowKit
namespace Kd
section
variable {α : Type} {d : Kd α} {e base g n c : Nat} {ok : Nat → Prop} {w w0 W : World} {A : Option Addr} {xs : List α}
end
end Kd
end Go.Proofs.YtmpmcffhlnlejaaW.PrintWords
end
section
namespace Go.Proofs.YtmpmcffhlnlejaaW.PrintWords
open Go.RowKit
section
variable {w W W2 : World} {S S2 S' : Nat → Prop}
end
namespace Kd
section
variable {α : Type} {d : Kd α} {e base n c : Nat} {ok oki S S2 : Nat → Prop} {w w0 W W1 W2 : World} {v : Value} {A : Option Addr} {xs : List α} {i : Int} {cs : List Value}
end
end Kd
end Go.Proofs.YtmpmcffhlnlejaaW.PrintWords
end
section
namespace Go.Proofs.YtmpmcffhlnlejaaW.PrintWords
open Go.RowKit
namespace Foot
variable {P Q : World → Prop} {W W1 : World} {ok ok' : Nat → Prop}
end Foot
namespace Kd
section
variable {α β : Type} {d : Kd α} {e base n n' cc g N : Nat} {ok ok' okp S : Nat → Prop} {w w0 w1 W W1 : World} {A A' : Option Addr} {u v v1 : Value} {xs : List α} {xs' : List β} {d' : Kd β} {x : α} {c : List Value}
end
end Kd
end Go.Proofs.YtmpmcffhlnlejaaW.PrintWords
end
section
namespace Go.Proofs.YtmpmcffhlnlejaaW.PrintWords
open Go.RowKit
namespace Kd
section
variable {α : Type} {d : Kd α} {e base n cc g : Nat} {ok ok' okp S : Nat → Prop} {w w1 W W1 : World} {A : Option Addr} {u v v1 : Value} {xs : List α} {x : α} {c : List Value}
end
end Kd
end Go.Proofs.YtmpmcffhlnlejaaW.PrintWords
end
section
namespace Go.Proofs.YtmpmcffhlnlejaaW.PrintWords
open Go.RowKit
namespace Kd
section
variable {α : Type} {d : Kd α} {W : World} {g n : Nat} {S ok : Nat → Prop} {A : Option Addr} {ad : Addr} {xs : List α}
end
end Kd
end Go.Proofs.YtmpmcffhlnlejaaW.PrintWords
end
section
namespace Go.Proofs.YtmpmcffhlnlejaaW.PrintWords
open Go.RowKit
section
variable {w w' u : World} {m B g : Nat} {o : Obj} {row : Option Nat} {S : Nat → Prop} {a : Addr} {v : Value}
end
namespace Kd
section
variable {α : Type} {d : Kd α} {e base n m : Nat} {ok : Nat → Prop} {w w' : World} {v : Value} {A : Option Addr} {xs : List α}
end
end Kd
end Go.Proofs.YtmpmcffhlnlejaaW.PrintWords
end
section
namespace Go.Proofs.YtmpmcffhlnlejaaW.PrintWords
open Go.RowKit
section
variable {P : Program} {d : Nat} {xs ys : Array Value} {f : Field} {fs : List Field} {a b : Value} {r s : Bool} {w : World}
end
end Go.Proofs.YtmpmcffhlnlejaaW.PrintWords
end
section
namespace Go.Proofs.YtmpmcffhlnlejaaW.PrintWords
end Go.Proofs.YtmpmcffhlnlejaaW.PrintWords
end
section
namespace Go.Proofs.YtmpmcffhlnlejaaW.PrintLast
section
variable {P : Program} {ops : Array Oper} {Q : Exit → Act → World → Prop} {md : Region.Mode} {T : Bool × List (List Nat × List Nat)} {B : List Nat} {O : List Nat} {b : Nat → Bool} {i j n : Nat}
end
end Go.Proofs.YtmpmcffhlnlejaaW.PrintLast
end
section
namespace Go.Proofs.YtmpmcffhlnlejaaW.PrintWords
open Go.RowKit
end Go.Proofs.YtmpmcffhlnlejaaW.PrintWords
namespace Go.Proofs.YtmpmcffhlnlejaaW.PrintLast
section
variable {ops : Array Oper} {a : Act} {o og : Oper} {g : Nat} {t : Tmp} {u : Bool}
end
end Go.Proofs.YtmpmcffhlnlejaaW.PrintLast
end
section
namespace Go.Proofs.YtmpmcffhlnlejaaW.PrintWords
open Go.RowKit
section
variable {P : Program} {ops : Array Oper} {rest : List Oper} {o : Oper} {a : Act} {Q : Exit → Act → World → Prop} {W : World}
end
end Go.Proofs.YtmpmcffhlnlejaaW.PrintWords
end
section
namespace Go.Proofs.YtmpmcffhlnlejaaW.PrintWords
open Go.RowKit
namespace Kd
section
variable {α : Type} {d : Kd α} {e base n cap g : Nat} {ok ok' okp : Nat → Prop} {w w1 W : World} {v v1 : Value} {xs ys : List α}
end
section
variable {P : Program} {ops : Array Oper} {rest : List Oper} {o : Oper} {a : Act} {Q : Exit → Act → World → Prop} {Kc : Act → World → Prop} {α : Type}
end
end Kd
end Go.Proofs.YtmpmcffhlnlejaaW.PrintWords
end
section
-- PRINTED WORDS (module Derived/Print/More.lean): go-gate-2's additions: an AI agent of Go's test side, Tue Nov 17 2026; no person has read it. Lean checks it.
namespace Go.Proofs.YtmpmcffhlnlejaaW.PrintMore
open Go.RowKit Go.Proofs.YtmpmcffhlnlejaaW.PrintWords
namespace Kd
open Go.Proofs.YtmpmcffhlnlejaaW.PrintWords.Kd
end Kd
namespace Kd
open Go.Proofs.YtmpmcffhlnlejaaW.PrintWords.Kd
section
variable {α : Type} {d : Kd α} {e base g N : Nat} {ok : Nat → Prop} {W w1 : World} {u v : Value} {xs : List α}
end
end Kd
/-- 'max' and 'min' of two whole numbers. -/
theorem max2_int (k k' : IntKind) (x y : Int) : Builtin.max2 (.int k x) (.int k' y) = pure (.int k (if x < y then y else x)) := by simp only [Builtin.max2, gt_iff_lt]
theorem min2_int (k k' : IntKind) (x y : Int) : Builtin.min2 (.int k x) (.int k' y) = pure (.int k (if y < x then y else x)) := by simp only [Builtin.min2]
theorem max_two (ats : Array TypeId) (ty : TypeId) (a b : Value) : Builtin.max_ ats ty #[a, b] = (Builtin.max2 a b >>= fun s => pure s) := by simp only [Builtin.max_, List.foldlM_cons, List.foldlM_nil]
theorem min_two (ats : Array TypeId) (ty : TypeId) (a b : Value) : Builtin.min_ ats ty #[a, b] = (Builtin.min2 a b >>= fun s => pure s) := by simp only [Builtin.min_, List.foldlM_cons, List.foldlM_nil]
theorem max_three (ats : Array TypeId) (ty : TypeId) (a b c : Value) : Builtin.max_ ats ty #[a, b, c] = (Builtin.max2 a b >>= fun s => Builtin.max2 s c >>= fun s => pure s) := by simp only [Builtin.max_, List.foldlM_cons, List.foldlM_nil]
theorem min_three (ats : Array TypeId) (ty : TypeId) (a b c : Value) : Builtin.min_ ats ty #[a, b, c] = (Builtin.min2 a b >>= fun s => Builtin.min2 s c >>= fun s => pure s) := by simp only [Builtin.min_, List.foldlM_cons, List.foldlM_nil]
theorem max_four (ats : Array TypeId) (ty : TypeId) (a b c d : Value) : Builtin.max_ ats ty #[a, b, c, d] = (Builtin.max2 a b >>= fun s => Builtin.max2 s c >>= fun s => Builtin.max2 s d >>= fun s => pure s) := by simp only [Builtin.max_, List.foldlM_cons, List.foldlM_nil]
theorem min_four (ats : Array TypeId) (ty : TypeId) (a b c d : Value) : Builtin.min_ ats ty #[a, b, c, d] = (Builtin.min2 a b >>= fun s => Builtin.min2 s c >>= fun s => Builtin.min2 s d >>= fun s => pure s) := by simp only [Builtin.min_, List.foldlM_cons, List.foldlM_nil]
end Go.Proofs.YtmpmcffhlnlejaaW.PrintMore
namespace Go.Proofs.YtmpmcffhlnlejaaW.PrintWords
open Go.RowKit
section
variable {P : Program} {ops : Array Oper} {rest : List Oper} {o : Oper} {a : Act} {Q : Exit → Act → World → Prop} {W : World}
end
namespace Kd
section
variable {α : Type} {d : Kd α} {e base : Nat} {ok : Nat → Prop} {W w1 : World} {v : Value} {xs : List α}
end
section
variable {α : Type} {d : Kd α} {e base g n cap : Nat} {ok oki okp : Nat → Prop} {W : World} {xs : List α} {i : Int} {c : List Value}
end
section
variable {α : Type} {d : Kd α} {e base b b' g N : Nat} {ok ok1 : Nat → Prop} {W W2 w1 : World} {u v : Value} {xs ys : List α} {S : Nat → Prop}
end
end Kd
end Go.Proofs.YtmpmcffhlnlejaaW.PrintWords
namespace Go.Proofs.YtmpmcffhlnlejaaW.PrintWords
open Go.RowKit
namespace Kd
section
variable {α β : Type} {d : Kd α} {e base base' n m c g N' lo hi : Nat} {ok ok' S : Nat → Prop} {w W w1 : World} {A : Option Addr} {ad : Addr} {u v v1 : Value} {xs : List α}
end
end Kd
end Go.Proofs.YtmpmcffhlnlejaaW.PrintWords
end
section
namespace Go.Proofs.Ytmpmcffhlnlejaa.PSubSelf
open Go.RowKit Go.Proofs.YtmpmcffhlnlejaaW.PrintWords Go.Proofs.YtmpmcffhlnlejaaW.PrintLast Go.Proofs.YtmpmcffhlnlejaaW.PrintMore
attribute [local go_sem] max2_int min2_int max_two min_two max_three min_three max_four min_four   -- for this text's walks alone
set_option linter.unusedVariables false
set_option linter.unusedSimpArgs false
-- the values' own types
structure S25 where
  f0 : Int
  f1 : (List ByteArray)
  f2 : (List S25)
  f3 : Int
def z25 : S25 := ⟨(0 : Int), ([] : List ByteArray), ([] : List S25), (0 : Int)⟩
def F25 (d : Kd S25) : Kd S25 := Kd.iso (Kd.pair (Kd.int .i64) (Kd.pair (Kd.slice 9 Kd.string) (Kd.pair (Kd.slice 25 d) (Kd.int .i64)))) (fun x : S25 => (x.f0, x.f1, x.f2, x.f3))
theorem mono25 : Kd.Mono F25 := Kd.mono_iso _ (Kd.mono_pair (Kd.mono_const _) (Kd.mono_pair (Kd.mono_const _) (Kd.mono_pair (Kd.mono_slice 25 Kd.mono_id) (Kd.mono_const _))))
theorem sub25 : Kd.Sub F25 [9, 25] := Kd.sub_iso _ (Kd.sub_pair (Kd.sub_const _ (by decide)) (Kd.sub_pair (Kd.sub_const _ (by decide)) (Kd.sub_pair (Kd.sub_slice 25 (by decide) Kd.sub_id) (Kd.sub_const _ (by decide)))))
theorem sz25 : ∀ n, (Kd.upto F25 4 [9, 25] n).sz = 4 := Kd.upto_sz (fun _ => rfl)
def k25 : Kd S25 := Kd.fix F25 4 [9, 25] sz25 (Kd.upto_E sub25)
theorem k25_open {w : World} {x : S25} {cs : List Value} (h : k25.K w x cs) : ∃ A1 c1 A2 c2, cs = [.int .i64 x.f0, .slice A1 x.f1.length c1, .slice A2 x.f2.length c2, .int .i64 x.f3] ∧ x.f1.length ≤ c1 ∧ Kd.string.C w A1 x.f1.length x.f1 ∧ x.f2.length ≤ c2 ∧ k25.C w A2 x.f2.length x.f2 := by
  obtain ⟨n, h⟩ := h
  cases n with
  | zero => exact h.elim
  | succ n =>
    obtain ⟨_, _, rfl, rfl, ⟨_, _, rfl, ⟨A1, c1, rfl, l1, g1⟩, ⟨_, _, rfl, ⟨A2, c2, rfl, l2, g2⟩, rfl⟩⟩⟩ := h
    exact ⟨A1, c1, A2, c2, rfl, l1, g1, l2, Kd.fix_C g2⟩
theorem k25_mk (w : World) (x : S25) {A1 : Option Addr} {c1 : Nat} (l1 : x.f1.length ≤ c1) (g1 : Kd.string.C w A1 x.f1.length x.f1) {A2 : Option Addr} {c2 : Nat} (l2 : x.f2.length ≤ c2) (g2 : k25.C w A2 x.f2.length x.f2) : k25.K w x [.int .i64 x.f0, .slice A1 x.f1.length c1, .slice A2 x.f2.length c2, .int .i64 x.f3] := by
  obtain ⟨n2, q2⟩ := Kd.fix_C_back mono25 g2
  have r2 := Kd.upto_C_le mono25 sz25 (show n2 ≤ n2 by omega) q2
  exact ⟨n2 + 1, ⟨[.int .i64 x.f0], [.slice A1 x.f1.length c1, .slice A2 x.f2.length c2, .int .i64 x.f3], rfl, rfl, ⟨[.slice A1 x.f1.length c1], [.slice A2 x.f2.length c2, .int .i64 x.f3], rfl, ⟨A1, c1, rfl, l1, g1⟩, ⟨[.slice A2 x.f2.length c2], [.int .i64 x.f3], rfl, ⟨A2, c2, rfl, l2, r2⟩, rfl⟩⟩⟩⟩
def rd_T25 (xs : List S25) (i : Int) : S25 := xs.getD i.toNat z25
theorem at_T25 {w : World} {A : Option Addr} {n : Nat} {xs : List S25} (h : Kd.C k25 w A n xs) (i : Int) (h0 : 0 ≤ i) (h1 : i < n) : ∃ ad A1 c1 A2 c2, A = some ad ∧ w.cell? (ad.add (i.toNat * 4)) = some (.int .i64 (rd_T25 xs i).f0) ∧ w.cell? ⟨(ad.add (i.toNat * 4)).block, (ad.add (i.toNat * 4)).off + 1, none⟩ = some (.slice A1 (rd_T25 xs i).f1.length c1) ∧ w.cell? ⟨(ad.add (i.toNat * 4)).block, (ad.add (i.toNat * 4)).off + 2, none⟩ = some (.slice A2 (rd_T25 xs i).f2.length c2) ∧ w.cell? ⟨(ad.add (i.toNat * 4)).block, (ad.add (i.toNat * 4)).off + 3, none⟩ = some (.int .i64 (rd_T25 xs i).f3) ∧ (rd_T25 xs i).f1.length ≤ c1 ∧ Kd.string.C w A1 (rd_T25 xs i).f1.length (rd_T25 xs i).f1 ∧ (rd_T25 xs i).f2.length ≤ c2 ∧ k25.C w A2 (rd_T25 xs i).f2.length (rd_T25 xs i).f2 := by
  obtain ⟨ad, c, e, _, hK, hc0⟩ := Kd.C_get h z25 i h0 h1
  have hc : ∀ j u, c[j]? = some u → w.cell? (ad.add (i.toNat * 4 + j)) = some u := hc0
  obtain ⟨A1, c1, A2, c2, rfl, l1, g1, l2, g2⟩ := k25_open hK
  exact ⟨ad, A1, c1, A2, c2, e, hc 0 _ rfl, by rw [← add_field _ _ 1 (by omega)]; exact hc 1 _ rfl, by rw [← add_field _ _ 2 (by omega)]; exact hc 2 _ rfl, by rw [← add_field _ _ 3 (by omega)]; exact hc 3 _ rfl, l1, g1, l2, g2⟩
structure S146 where
  f0 : ByteArray
  f1 : Int
  f2 : (List ByteArray)
  f3 : (List S25)
  f4 : S25
def z146 : S146 := ⟨(⟨#[]⟩ : ByteArray), (0 : Int), ([] : List ByteArray), ([] : List S25), z25⟩
def k146 : Kd S146 := Kd.iso (Kd.pair Kd.string (Kd.pair (Kd.int .i64) (Kd.pair (Kd.slice 9 Kd.string) (Kd.pair (Kd.slice 25 k25) k25)))) (fun x : S146 => (x.f0, x.f1, x.f2, x.f3, x.f4))
theorem k146_open {w : World} {x : S146} {cs : List Value} (h : k146.K w x cs) : ∃ A2 c2 A3 c3 A5 c5 A6 c6, cs = [.string x.f0, .int .i64 x.f1, .slice A2 x.f2.length c2, .slice A3 x.f3.length c3, .int .i64 x.f4.f0, .slice A5 x.f4.f1.length c5, .slice A6 x.f4.f2.length c6, .int .i64 x.f4.f3] ∧ x.f2.length ≤ c2 ∧ Kd.string.C w A2 x.f2.length x.f2 ∧ x.f3.length ≤ c3 ∧ k25.C w A3 x.f3.length x.f3 ∧ x.f4.f1.length ≤ c5 ∧ Kd.string.C w A5 x.f4.f1.length x.f4.f1 ∧ x.f4.f2.length ≤ c6 ∧ k25.C w A6 x.f4.f2.length x.f4.f2 := by
  obtain ⟨_, _, rfl, rfl, ⟨_, _, rfl, rfl, ⟨_, _, rfl, ⟨A2, c2, rfl, l2, g2⟩, ⟨_, _, rfl, ⟨A3, c3, rfl, l3, g3⟩, s4⟩⟩⟩⟩ := h
  obtain ⟨A5, c5, A6, c6, rfl, l5, g5, l6, g6⟩ := k25_open s4
  exact ⟨A2, c2, A3, c3, A5, c5, A6, c6, rfl, l2, g2, l3, g3, l5, g5, l6, g6⟩
theorem k146_mk (w : World) (x : S146) {A2 : Option Addr} {c2 : Nat} (l2 : x.f2.length ≤ c2) (g2 : Kd.string.C w A2 x.f2.length x.f2) {A3 : Option Addr} {c3 : Nat} (l3 : x.f3.length ≤ c3) (g3 : k25.C w A3 x.f3.length x.f3) {A5 : Option Addr} {c5 : Nat} (l5 : x.f4.f1.length ≤ c5) (g5 : Kd.string.C w A5 x.f4.f1.length x.f4.f1) {A6 : Option Addr} {c6 : Nat} (l6 : x.f4.f2.length ≤ c6) (g6 : k25.C w A6 x.f4.f2.length x.f4.f2) : k146.K w x [.string x.f0, .int .i64 x.f1, .slice A2 x.f2.length c2, .slice A3 x.f3.length c3, .int .i64 x.f4.f0, .slice A5 x.f4.f1.length c5, .slice A6 x.f4.f2.length c6, .int .i64 x.f4.f3] := ⟨[.string x.f0], [.int .i64 x.f1, .slice A2 x.f2.length c2, .slice A3 x.f3.length c3, .int .i64 x.f4.f0, .slice A5 x.f4.f1.length c5, .slice A6 x.f4.f2.length c6, .int .i64 x.f4.f3], rfl, rfl, ⟨[.int .i64 x.f1], [.slice A2 x.f2.length c2, .slice A3 x.f3.length c3, .int .i64 x.f4.f0, .slice A5 x.f4.f1.length c5, .slice A6 x.f4.f2.length c6, .int .i64 x.f4.f3], rfl, rfl, ⟨[.slice A2 x.f2.length c2], [.slice A3 x.f3.length c3, .int .i64 x.f4.f0, .slice A5 x.f4.f1.length c5, .slice A6 x.f4.f2.length c6, .int .i64 x.f4.f3], rfl, ⟨A2, c2, rfl, l2, g2⟩, ⟨[.slice A3 x.f3.length c3], [.int .i64 x.f4.f0, .slice A5 x.f4.f1.length c5, .slice A6 x.f4.f2.length c6, .int .i64 x.f4.f3], rfl, ⟨A3, c3, rfl, l3, g3⟩, (k25_mk w x.f4 l5 g5 l6 g6)⟩⟩⟩⟩
def rd_T146 (xs : List S146) (i : Int) : S146 := xs.getD i.toNat z146
theorem at_T146 {w : World} {A : Option Addr} {n : Nat} {xs : List S146} (h : Kd.C k146 w A n xs) (i : Int) (h0 : 0 ≤ i) (h1 : i < n) : ∃ ad A2 c2 A3 c3 A5 c5 A6 c6, A = some ad ∧ w.cell? (ad.add (i.toNat * 8)) = some (.string (rd_T146 xs i).f0) ∧ w.cell? ⟨(ad.add (i.toNat * 8)).block, (ad.add (i.toNat * 8)).off + 1, none⟩ = some (.int .i64 (rd_T146 xs i).f1) ∧ w.cell? ⟨(ad.add (i.toNat * 8)).block, (ad.add (i.toNat * 8)).off + 2, none⟩ = some (.slice A2 (rd_T146 xs i).f2.length c2) ∧ w.cell? ⟨(ad.add (i.toNat * 8)).block, (ad.add (i.toNat * 8)).off + 3, none⟩ = some (.slice A3 (rd_T146 xs i).f3.length c3) ∧ w.cell? ⟨(ad.add (i.toNat * 8)).block, (ad.add (i.toNat * 8)).off + 4, none⟩ = some (.int .i64 (rd_T146 xs i).f4.f0) ∧ w.cell? ⟨(ad.add (i.toNat * 8)).block, (ad.add (i.toNat * 8)).off + 5, none⟩ = some (.slice A5 (rd_T146 xs i).f4.f1.length c5) ∧ w.cell? ⟨(ad.add (i.toNat * 8)).block, (ad.add (i.toNat * 8)).off + 6, none⟩ = some (.slice A6 (rd_T146 xs i).f4.f2.length c6) ∧ w.cell? ⟨(ad.add (i.toNat * 8)).block, (ad.add (i.toNat * 8)).off + 7, none⟩ = some (.int .i64 (rd_T146 xs i).f4.f3) ∧ (rd_T146 xs i).f2.length ≤ c2 ∧ Kd.string.C w A2 (rd_T146 xs i).f2.length (rd_T146 xs i).f2 ∧ (rd_T146 xs i).f3.length ≤ c3 ∧ k25.C w A3 (rd_T146 xs i).f3.length (rd_T146 xs i).f3 ∧ (rd_T146 xs i).f4.f1.length ≤ c5 ∧ Kd.string.C w A5 (rd_T146 xs i).f4.f1.length (rd_T146 xs i).f4.f1 ∧ (rd_T146 xs i).f4.f2.length ≤ c6 ∧ k25.C w A6 (rd_T146 xs i).f4.f2.length (rd_T146 xs i).f4.f2 := by
  obtain ⟨ad, c, e, _, hK, hc0⟩ := Kd.C_get h z146 i h0 h1
  have hc : ∀ j u, c[j]? = some u → w.cell? (ad.add (i.toNat * 8 + j)) = some u := hc0
  obtain ⟨A2, c2, A3, c3, A5, c5, A6, c6, rfl, l2, g2, l3, g3, l5, g5, l6, g6⟩ := k146_open hK
  exact ⟨ad, A2, c2, A3, c3, A5, c5, A6, c6, e, hc 0 _ rfl, by rw [← add_field _ _ 1 (by omega)]; exact hc 1 _ rfl, by rw [← add_field _ _ 2 (by omega)]; exact hc 2 _ rfl, by rw [← add_field _ _ 3 (by omega)]; exact hc 3 _ rfl, by rw [← add_field _ _ 4 (by omega)]; exact hc 4 _ rfl, by rw [← add_field _ _ 5 (by omega)]; exact hc 5 _ rfl, by rw [← add_field _ _ 6 (by omega)]; exact hc 6 _ rfl, by rw [← add_field _ _ 7 (by omega)]; exact hc 7 _ rfl, l2, g2, l3, g3, l5, g5, l6, g6⟩
structure S149 where
  f0 : ByteArray
  f1 : ByteArray
  f2 : ByteArray
def z149 : S149 := ⟨(⟨#[]⟩ : ByteArray), (⟨#[]⟩ : ByteArray), (⟨#[]⟩ : ByteArray)⟩
def k149 : Kd S149 := Kd.iso (Kd.pair Kd.string (Kd.pair Kd.string Kd.string)) (fun x : S149 => (x.f0, x.f1, x.f2))
theorem k149_open {w : World} {x : S149} {cs : List Value} (h : k149.K w x cs) : cs = [.string x.f0, .string x.f1, .string x.f2] := by
  obtain ⟨_, _, rfl, rfl, ⟨_, _, rfl, rfl, rfl⟩⟩ := h
  exact rfl
theorem k149_mk (w : World) (x : S149)  : k149.K w x [.string x.f0, .string x.f1, .string x.f2] := ⟨[.string x.f0], [.string x.f1, .string x.f2], rfl, rfl, ⟨[.string x.f1], [.string x.f2], rfl, rfl, rfl⟩⟩
structure S151 where
  f0 : S149
  f1 : (List ByteArray)
  f2 : (List ByteArray)
def z151 : S151 := ⟨z149, ([] : List ByteArray), ([] : List ByteArray)⟩
def k151 : Kd S151 := Kd.iso (Kd.pair k149 (Kd.pair (Kd.slice 9 Kd.string) (Kd.slice 9 Kd.string))) (fun x : S151 => (x.f0, x.f1, x.f2))
theorem k151_open {w : World} {x : S151} {cs : List Value} (h : k151.K w x cs) : ∃ A3 c3 A4 c4, cs = [.string x.f0.f0, .string x.f0.f1, .string x.f0.f2, .slice A3 x.f1.length c3, .slice A4 x.f2.length c4] ∧ x.f1.length ≤ c3 ∧ Kd.string.C w A3 x.f1.length x.f1 ∧ x.f2.length ≤ c4 ∧ Kd.string.C w A4 x.f2.length x.f2 := by
  obtain ⟨_, _, rfl, s0, ⟨_, _, rfl, ⟨A3, c3, rfl, l3, g3⟩, ⟨A4, c4, rfl, l4, g4⟩⟩⟩ := h
  obtain rfl := k149_open s0
  exact ⟨A3, c3, A4, c4, rfl, l3, g3, l4, g4⟩
theorem k151_mk (w : World) (x : S151) {A3 : Option Addr} {c3 : Nat} (l3 : x.f1.length ≤ c3) (g3 : Kd.string.C w A3 x.f1.length x.f1) {A4 : Option Addr} {c4 : Nat} (l4 : x.f2.length ≤ c4) (g4 : Kd.string.C w A4 x.f2.length x.f2) : k151.K w x [.string x.f0.f0, .string x.f0.f1, .string x.f0.f2, .slice A3 x.f1.length c3, .slice A4 x.f2.length c4] := ⟨[.string x.f0.f0, .string x.f0.f1, .string x.f0.f2], [.slice A3 x.f1.length c3, .slice A4 x.f2.length c4], rfl, (k149_mk w x.f0 ), ⟨[.slice A3 x.f1.length c3], [.slice A4 x.f2.length c4], rfl, ⟨A3, c3, rfl, l3, g3⟩, ⟨A4, c4, rfl, l4, g4⟩⟩⟩
def rd_T151 (xs : List S151) (i : Int) : S151 := xs.getD i.toNat z151
theorem at_T151 {w : World} {A : Option Addr} {n : Nat} {xs : List S151} (h : Kd.C k151 w A n xs) (i : Int) (h0 : 0 ≤ i) (h1 : i < n) : ∃ ad A3 c3 A4 c4, A = some ad ∧ w.cell? (ad.add (i.toNat * 5)) = some (.string (rd_T151 xs i).f0.f0) ∧ w.cell? ⟨(ad.add (i.toNat * 5)).block, (ad.add (i.toNat * 5)).off + 1, none⟩ = some (.string (rd_T151 xs i).f0.f1) ∧ w.cell? ⟨(ad.add (i.toNat * 5)).block, (ad.add (i.toNat * 5)).off + 2, none⟩ = some (.string (rd_T151 xs i).f0.f2) ∧ w.cell? ⟨(ad.add (i.toNat * 5)).block, (ad.add (i.toNat * 5)).off + 3, none⟩ = some (.slice A3 (rd_T151 xs i).f1.length c3) ∧ w.cell? ⟨(ad.add (i.toNat * 5)).block, (ad.add (i.toNat * 5)).off + 4, none⟩ = some (.slice A4 (rd_T151 xs i).f2.length c4) ∧ (rd_T151 xs i).f1.length ≤ c3 ∧ Kd.string.C w A3 (rd_T151 xs i).f1.length (rd_T151 xs i).f1 ∧ (rd_T151 xs i).f2.length ≤ c4 ∧ Kd.string.C w A4 (rd_T151 xs i).f2.length (rd_T151 xs i).f2 := by
  obtain ⟨ad, c, e, _, hK, hc0⟩ := Kd.C_get h z151 i h0 h1
  have hc : ∀ j u, c[j]? = some u → w.cell? (ad.add (i.toNat * 5 + j)) = some u := hc0
  obtain ⟨A3, c3, A4, c4, rfl, l3, g3, l4, g4⟩ := k151_open hK
  exact ⟨ad, A3, c3, A4, c4, e, hc 0 _ rfl, by rw [← add_field _ _ 1 (by omega)]; exact hc 1 _ rfl, by rw [← add_field _ _ 2 (by omega)]; exact hc 2 _ rfl, by rw [← add_field _ _ 3 (by omega)]; exact hc 3 _ rfl, by rw [← add_field _ _ 4 (by omega)]; exact hc 4 _ rfl, l3, g3, l4, g4⟩
structure S154 where
  f0 : Int
  f1 : ByteArray
  f2 : S25
  f3 : (List S146)
def z154 : S154 := ⟨(0 : Int), (⟨#[]⟩ : ByteArray), z25, ([] : List S146)⟩
def k154 : Kd S154 := Kd.iso (Kd.pair (Kd.int .i64) (Kd.pair Kd.string (Kd.pair k25 (Kd.slice 146 k146)))) (fun x : S154 => (x.f0, x.f1, x.f2, x.f3))
theorem k154_open {w : World} {x : S154} {cs : List Value} (h : k154.K w x cs) : ∃ A3 c3 A4 c4 A6 c6, cs = [.int .i64 x.f0, .string x.f1, .int .i64 x.f2.f0, .slice A3 x.f2.f1.length c3, .slice A4 x.f2.f2.length c4, .int .i64 x.f2.f3, .slice A6 x.f3.length c6] ∧ x.f2.f1.length ≤ c3 ∧ Kd.string.C w A3 x.f2.f1.length x.f2.f1 ∧ x.f2.f2.length ≤ c4 ∧ k25.C w A4 x.f2.f2.length x.f2.f2 ∧ x.f3.length ≤ c6 ∧ k146.C w A6 x.f3.length x.f3 := by
  obtain ⟨_, _, rfl, rfl, ⟨_, _, rfl, rfl, ⟨_, _, rfl, s2, ⟨A6, c6, rfl, l6, g6⟩⟩⟩⟩ := h
  obtain ⟨A3, c3, A4, c4, rfl, l3, g3, l4, g4⟩ := k25_open s2
  exact ⟨A3, c3, A4, c4, A6, c6, rfl, l3, g3, l4, g4, l6, g6⟩
theorem k154_mk (w : World) (x : S154) {A3 : Option Addr} {c3 : Nat} (l3 : x.f2.f1.length ≤ c3) (g3 : Kd.string.C w A3 x.f2.f1.length x.f2.f1) {A4 : Option Addr} {c4 : Nat} (l4 : x.f2.f2.length ≤ c4) (g4 : k25.C w A4 x.f2.f2.length x.f2.f2) {A6 : Option Addr} {c6 : Nat} (l6 : x.f3.length ≤ c6) (g6 : k146.C w A6 x.f3.length x.f3) : k154.K w x [.int .i64 x.f0, .string x.f1, .int .i64 x.f2.f0, .slice A3 x.f2.f1.length c3, .slice A4 x.f2.f2.length c4, .int .i64 x.f2.f3, .slice A6 x.f3.length c6] := ⟨[.int .i64 x.f0], [.string x.f1, .int .i64 x.f2.f0, .slice A3 x.f2.f1.length c3, .slice A4 x.f2.f2.length c4, .int .i64 x.f2.f3, .slice A6 x.f3.length c6], rfl, rfl, ⟨[.string x.f1], [.int .i64 x.f2.f0, .slice A3 x.f2.f1.length c3, .slice A4 x.f2.f2.length c4, .int .i64 x.f2.f3, .slice A6 x.f3.length c6], rfl, rfl, ⟨[.int .i64 x.f2.f0, .slice A3 x.f2.f1.length c3, .slice A4 x.f2.f2.length c4, .int .i64 x.f2.f3], [.slice A6 x.f3.length c6], rfl, (k25_mk w x.f2 l3 g3 l4 g4), ⟨A6, c6, rfl, l6, g6⟩⟩⟩⟩
def rd_T154 (xs : List S154) (i : Int) : S154 := xs.getD i.toNat z154
theorem at_T154 {w : World} {A : Option Addr} {n : Nat} {xs : List S154} (h : Kd.C k154 w A n xs) (i : Int) (h0 : 0 ≤ i) (h1 : i < n) : ∃ ad A3 c3 A4 c4 A6 c6, A = some ad ∧ w.cell? (ad.add (i.toNat * 7)) = some (.int .i64 (rd_T154 xs i).f0) ∧ w.cell? ⟨(ad.add (i.toNat * 7)).block, (ad.add (i.toNat * 7)).off + 1, none⟩ = some (.string (rd_T154 xs i).f1) ∧ w.cell? ⟨(ad.add (i.toNat * 7)).block, (ad.add (i.toNat * 7)).off + 2, none⟩ = some (.int .i64 (rd_T154 xs i).f2.f0) ∧ w.cell? ⟨(ad.add (i.toNat * 7)).block, (ad.add (i.toNat * 7)).off + 3, none⟩ = some (.slice A3 (rd_T154 xs i).f2.f1.length c3) ∧ w.cell? ⟨(ad.add (i.toNat * 7)).block, (ad.add (i.toNat * 7)).off + 4, none⟩ = some (.slice A4 (rd_T154 xs i).f2.f2.length c4) ∧ w.cell? ⟨(ad.add (i.toNat * 7)).block, (ad.add (i.toNat * 7)).off + 5, none⟩ = some (.int .i64 (rd_T154 xs i).f2.f3) ∧ w.cell? ⟨(ad.add (i.toNat * 7)).block, (ad.add (i.toNat * 7)).off + 6, none⟩ = some (.slice A6 (rd_T154 xs i).f3.length c6) ∧ (rd_T154 xs i).f2.f1.length ≤ c3 ∧ Kd.string.C w A3 (rd_T154 xs i).f2.f1.length (rd_T154 xs i).f2.f1 ∧ (rd_T154 xs i).f2.f2.length ≤ c4 ∧ k25.C w A4 (rd_T154 xs i).f2.f2.length (rd_T154 xs i).f2.f2 ∧ (rd_T154 xs i).f3.length ≤ c6 ∧ k146.C w A6 (rd_T154 xs i).f3.length (rd_T154 xs i).f3 := by
  obtain ⟨ad, c, e, _, hK, hc0⟩ := Kd.C_get h z154 i h0 h1
  have hc : ∀ j u, c[j]? = some u → w.cell? (ad.add (i.toNat * 7 + j)) = some u := hc0
  obtain ⟨A3, c3, A4, c4, A6, c6, rfl, l3, g3, l4, g4, l6, g6⟩ := k154_open hK
  exact ⟨ad, A3, c3, A4, c4, A6, c6, e, hc 0 _ rfl, by rw [← add_field _ _ 1 (by omega)]; exact hc 1 _ rfl, by rw [← add_field _ _ 2 (by omega)]; exact hc 2 _ rfl, by rw [← add_field _ _ 3 (by omega)]; exact hc 3 _ rfl, by rw [← add_field _ _ 4 (by omega)]; exact hc 4 _ rfl, by rw [← add_field _ _ 5 (by omega)]; exact hc 5 _ rfl, by rw [← add_field _ _ 6 (by omega)]; exact hc 6 _ rfl, l3, g3, l4, g4, l6, g6⟩
structure S157 where
  f0 : S146
  f1 : S149
def z157 : S157 := ⟨z146, z149⟩
def k157 : Kd S157 := Kd.iso (Kd.pair k146 k149) (fun x : S157 => (x.f0, x.f1))
theorem k157_open {w : World} {x : S157} {cs : List Value} (h : k157.K w x cs) : ∃ A2 c2 A3 c3 A5 c5 A6 c6, cs = [.string x.f0.f0, .int .i64 x.f0.f1, .slice A2 x.f0.f2.length c2, .slice A3 x.f0.f3.length c3, .int .i64 x.f0.f4.f0, .slice A5 x.f0.f4.f1.length c5, .slice A6 x.f0.f4.f2.length c6, .int .i64 x.f0.f4.f3, .string x.f1.f0, .string x.f1.f1, .string x.f1.f2] ∧ x.f0.f2.length ≤ c2 ∧ Kd.string.C w A2 x.f0.f2.length x.f0.f2 ∧ x.f0.f3.length ≤ c3 ∧ k25.C w A3 x.f0.f3.length x.f0.f3 ∧ x.f0.f4.f1.length ≤ c5 ∧ Kd.string.C w A5 x.f0.f4.f1.length x.f0.f4.f1 ∧ x.f0.f4.f2.length ≤ c6 ∧ k25.C w A6 x.f0.f4.f2.length x.f0.f4.f2 := by
  obtain ⟨_, _, rfl, s0, s8⟩ := h
  obtain ⟨A2, c2, A3, c3, A5, c5, A6, c6, rfl, l2, g2, l3, g3, l5, g5, l6, g6⟩ := k146_open s0
  obtain rfl := k149_open s8
  exact ⟨A2, c2, A3, c3, A5, c5, A6, c6, rfl, l2, g2, l3, g3, l5, g5, l6, g6⟩
theorem k157_mk (w : World) (x : S157) {A2 : Option Addr} {c2 : Nat} (l2 : x.f0.f2.length ≤ c2) (g2 : Kd.string.C w A2 x.f0.f2.length x.f0.f2) {A3 : Option Addr} {c3 : Nat} (l3 : x.f0.f3.length ≤ c3) (g3 : k25.C w A3 x.f0.f3.length x.f0.f3) {A5 : Option Addr} {c5 : Nat} (l5 : x.f0.f4.f1.length ≤ c5) (g5 : Kd.string.C w A5 x.f0.f4.f1.length x.f0.f4.f1) {A6 : Option Addr} {c6 : Nat} (l6 : x.f0.f4.f2.length ≤ c6) (g6 : k25.C w A6 x.f0.f4.f2.length x.f0.f4.f2) : k157.K w x [.string x.f0.f0, .int .i64 x.f0.f1, .slice A2 x.f0.f2.length c2, .slice A3 x.f0.f3.length c3, .int .i64 x.f0.f4.f0, .slice A5 x.f0.f4.f1.length c5, .slice A6 x.f0.f4.f2.length c6, .int .i64 x.f0.f4.f3, .string x.f1.f0, .string x.f1.f1, .string x.f1.f2] := ⟨[.string x.f0.f0, .int .i64 x.f0.f1, .slice A2 x.f0.f2.length c2, .slice A3 x.f0.f3.length c3, .int .i64 x.f0.f4.f0, .slice A5 x.f0.f4.f1.length c5, .slice A6 x.f0.f4.f2.length c6, .int .i64 x.f0.f4.f3], [.string x.f1.f0, .string x.f1.f1, .string x.f1.f2], rfl, (k146_mk w x.f0 l2 g2 l3 g3 l5 g5 l6 g6), (k149_mk w x.f1 )⟩
def rd_T157 (xs : List S157) (i : Int) : S157 := xs.getD i.toNat z157
theorem at_T157 {w : World} {A : Option Addr} {n : Nat} {xs : List S157} (h : Kd.C k157 w A n xs) (i : Int) (h0 : 0 ≤ i) (h1 : i < n) : ∃ ad A2 c2 A3 c3 A5 c5 A6 c6, A = some ad ∧ w.cell? (ad.add (i.toNat * 11)) = some (.string (rd_T157 xs i).f0.f0) ∧ w.cell? ⟨(ad.add (i.toNat * 11)).block, (ad.add (i.toNat * 11)).off + 1, none⟩ = some (.int .i64 (rd_T157 xs i).f0.f1) ∧ w.cell? ⟨(ad.add (i.toNat * 11)).block, (ad.add (i.toNat * 11)).off + 2, none⟩ = some (.slice A2 (rd_T157 xs i).f0.f2.length c2) ∧ w.cell? ⟨(ad.add (i.toNat * 11)).block, (ad.add (i.toNat * 11)).off + 3, none⟩ = some (.slice A3 (rd_T157 xs i).f0.f3.length c3) ∧ w.cell? ⟨(ad.add (i.toNat * 11)).block, (ad.add (i.toNat * 11)).off + 4, none⟩ = some (.int .i64 (rd_T157 xs i).f0.f4.f0) ∧ w.cell? ⟨(ad.add (i.toNat * 11)).block, (ad.add (i.toNat * 11)).off + 5, none⟩ = some (.slice A5 (rd_T157 xs i).f0.f4.f1.length c5) ∧ w.cell? ⟨(ad.add (i.toNat * 11)).block, (ad.add (i.toNat * 11)).off + 6, none⟩ = some (.slice A6 (rd_T157 xs i).f0.f4.f2.length c6) ∧ w.cell? ⟨(ad.add (i.toNat * 11)).block, (ad.add (i.toNat * 11)).off + 7, none⟩ = some (.int .i64 (rd_T157 xs i).f0.f4.f3) ∧ w.cell? ⟨(ad.add (i.toNat * 11)).block, (ad.add (i.toNat * 11)).off + 8, none⟩ = some (.string (rd_T157 xs i).f1.f0) ∧ w.cell? ⟨(ad.add (i.toNat * 11)).block, (ad.add (i.toNat * 11)).off + 9, none⟩ = some (.string (rd_T157 xs i).f1.f1) ∧ w.cell? ⟨(ad.add (i.toNat * 11)).block, (ad.add (i.toNat * 11)).off + 10, none⟩ = some (.string (rd_T157 xs i).f1.f2) ∧ (rd_T157 xs i).f0.f2.length ≤ c2 ∧ Kd.string.C w A2 (rd_T157 xs i).f0.f2.length (rd_T157 xs i).f0.f2 ∧ (rd_T157 xs i).f0.f3.length ≤ c3 ∧ k25.C w A3 (rd_T157 xs i).f0.f3.length (rd_T157 xs i).f0.f3 ∧ (rd_T157 xs i).f0.f4.f1.length ≤ c5 ∧ Kd.string.C w A5 (rd_T157 xs i).f0.f4.f1.length (rd_T157 xs i).f0.f4.f1 ∧ (rd_T157 xs i).f0.f4.f2.length ≤ c6 ∧ k25.C w A6 (rd_T157 xs i).f0.f4.f2.length (rd_T157 xs i).f0.f4.f2 := by
  obtain ⟨ad, c, e, _, hK, hc0⟩ := Kd.C_get h z157 i h0 h1
  have hc : ∀ j u, c[j]? = some u → w.cell? (ad.add (i.toNat * 11 + j)) = some u := hc0
  obtain ⟨A2, c2, A3, c3, A5, c5, A6, c6, rfl, l2, g2, l3, g3, l5, g5, l6, g6⟩ := k157_open hK
  exact ⟨ad, A2, c2, A3, c3, A5, c5, A6, c6, e, hc 0 _ rfl, by rw [← add_field _ _ 1 (by omega)]; exact hc 1 _ rfl, by rw [← add_field _ _ 2 (by omega)]; exact hc 2 _ rfl, by rw [← add_field _ _ 3 (by omega)]; exact hc 3 _ rfl, by rw [← add_field _ _ 4 (by omega)]; exact hc 4 _ rfl, by rw [← add_field _ _ 5 (by omega)]; exact hc 5 _ rfl, by rw [← add_field _ _ 6 (by omega)]; exact hc 6 _ rfl, by rw [← add_field _ _ 7 (by omega)]; exact hc 7 _ rfl, by rw [← add_field _ _ 8 (by omega)]; exact hc 8 _ rfl, by rw [← add_field _ _ 9 (by omega)]; exact hc 9 _ rfl, by rw [← add_field _ _ 10 (by omega)]; exact hc 10 _ rfl, l2, g2, l3, g3, l5, g5, l6, g6⟩
structure S142 where
  f0 : ByteArray
  f1 : (List S151)
  f2 : (List S154)
  f3 : (List S146)
def z142 : S142 := ⟨(⟨#[]⟩ : ByteArray), ([] : List S151), ([] : List S154), ([] : List S146)⟩
def k142 : Kd S142 := Kd.iso (Kd.pair Kd.string (Kd.pair (Kd.slice 151 k151) (Kd.pair (Kd.slice 154 k154) (Kd.slice 146 k146)))) (fun x : S142 => (x.f0, x.f1, x.f2, x.f3))
theorem k142_open {w : World} {x : S142} {cs : List Value} (h : k142.K w x cs) : ∃ A1 c1 A2 c2 A3 c3, cs = [.string x.f0, .slice A1 x.f1.length c1, .slice A2 x.f2.length c2, .slice A3 x.f3.length c3] ∧ x.f1.length ≤ c1 ∧ k151.C w A1 x.f1.length x.f1 ∧ x.f2.length ≤ c2 ∧ k154.C w A2 x.f2.length x.f2 ∧ x.f3.length ≤ c3 ∧ k146.C w A3 x.f3.length x.f3 := by
  obtain ⟨_, _, rfl, rfl, ⟨_, _, rfl, ⟨A1, c1, rfl, l1, g1⟩, ⟨_, _, rfl, ⟨A2, c2, rfl, l2, g2⟩, ⟨A3, c3, rfl, l3, g3⟩⟩⟩⟩ := h
  exact ⟨A1, c1, A2, c2, A3, c3, rfl, l1, g1, l2, g2, l3, g3⟩
theorem k142_mk (w : World) (x : S142) {A1 : Option Addr} {c1 : Nat} (l1 : x.f1.length ≤ c1) (g1 : k151.C w A1 x.f1.length x.f1) {A2 : Option Addr} {c2 : Nat} (l2 : x.f2.length ≤ c2) (g2 : k154.C w A2 x.f2.length x.f2) {A3 : Option Addr} {c3 : Nat} (l3 : x.f3.length ≤ c3) (g3 : k146.C w A3 x.f3.length x.f3) : k142.K w x [.string x.f0, .slice A1 x.f1.length c1, .slice A2 x.f2.length c2, .slice A3 x.f3.length c3] := ⟨[.string x.f0], [.slice A1 x.f1.length c1, .slice A2 x.f2.length c2, .slice A3 x.f3.length c3], rfl, rfl, ⟨[.slice A1 x.f1.length c1], [.slice A2 x.f2.length c2, .slice A3 x.f3.length c3], rfl, ⟨A1, c1, rfl, l1, g1⟩, ⟨[.slice A2 x.f2.length c2], [.slice A3 x.f3.length c3], rfl, ⟨A2, c2, rfl, l2, g2⟩, ⟨A3, c3, rfl, l3, g3⟩⟩⟩⟩
def rd_T142 (xs : List S142) (i : Int) : S142 := xs.getD i.toNat z142
theorem at_T142 {w : World} {A : Option Addr} {n : Nat} {xs : List S142} (h : Kd.C k142 w A n xs) (i : Int) (h0 : 0 ≤ i) (h1 : i < n) : ∃ ad A1 c1 A2 c2 A3 c3, A = some ad ∧ w.cell? (ad.add (i.toNat * 4)) = some (.string (rd_T142 xs i).f0) ∧ w.cell? ⟨(ad.add (i.toNat * 4)).block, (ad.add (i.toNat * 4)).off + 1, none⟩ = some (.slice A1 (rd_T142 xs i).f1.length c1) ∧ w.cell? ⟨(ad.add (i.toNat * 4)).block, (ad.add (i.toNat * 4)).off + 2, none⟩ = some (.slice A2 (rd_T142 xs i).f2.length c2) ∧ w.cell? ⟨(ad.add (i.toNat * 4)).block, (ad.add (i.toNat * 4)).off + 3, none⟩ = some (.slice A3 (rd_T142 xs i).f3.length c3) ∧ (rd_T142 xs i).f1.length ≤ c1 ∧ k151.C w A1 (rd_T142 xs i).f1.length (rd_T142 xs i).f1 ∧ (rd_T142 xs i).f2.length ≤ c2 ∧ k154.C w A2 (rd_T142 xs i).f2.length (rd_T142 xs i).f2 ∧ (rd_T142 xs i).f3.length ≤ c3 ∧ k146.C w A3 (rd_T142 xs i).f3.length (rd_T142 xs i).f3 := by
  obtain ⟨ad, c, e, _, hK, hc0⟩ := Kd.C_get h z142 i h0 h1
  have hc : ∀ j u, c[j]? = some u → w.cell? (ad.add (i.toNat * 4 + j)) = some u := hc0
  obtain ⟨A1, c1, A2, c2, A3, c3, rfl, l1, g1, l2, g2, l3, g3⟩ := k142_open hK
  exact ⟨ad, A1, c1, A2, c2, A3, c3, e, hc 0 _ rfl, by rw [← add_field _ _ 1 (by omega)]; exact hc 1 _ rfl, by rw [← add_field _ _ 2 (by omega)]; exact hc 2 _ rfl, by rw [← add_field _ _ 3 (by omega)]; exact hc 3 _ rfl, l1, g1, l2, g2, l3, g3⟩
structure S125 where
  f0 : ByteArray
  f1 : (List S151)
  f2 : (List S154)
  f3 : (List S157)
  f4 : (List S157)
def z125 : S125 := ⟨(⟨#[]⟩ : ByteArray), ([] : List S151), ([] : List S154), ([] : List S157), ([] : List S157)⟩
def k125 : Kd S125 := Kd.iso (Kd.pair Kd.string (Kd.pair (Kd.slice 151 k151) (Kd.pair (Kd.slice 154 k154) (Kd.pair (Kd.slice 157 k157) (Kd.slice 157 k157))))) (fun x : S125 => (x.f0, x.f1, x.f2, x.f3, x.f4))
theorem k125_open {w : World} {x : S125} {cs : List Value} (h : k125.K w x cs) : ∃ A1 c1 A2 c2 A3 c3 A4 c4, cs = [.string x.f0, .slice A1 x.f1.length c1, .slice A2 x.f2.length c2, .slice A3 x.f3.length c3, .slice A4 x.f4.length c4] ∧ x.f1.length ≤ c1 ∧ k151.C w A1 x.f1.length x.f1 ∧ x.f2.length ≤ c2 ∧ k154.C w A2 x.f2.length x.f2 ∧ x.f3.length ≤ c3 ∧ k157.C w A3 x.f3.length x.f3 ∧ x.f4.length ≤ c4 ∧ k157.C w A4 x.f4.length x.f4 := by
  obtain ⟨_, _, rfl, rfl, ⟨_, _, rfl, ⟨A1, c1, rfl, l1, g1⟩, ⟨_, _, rfl, ⟨A2, c2, rfl, l2, g2⟩, ⟨_, _, rfl, ⟨A3, c3, rfl, l3, g3⟩, ⟨A4, c4, rfl, l4, g4⟩⟩⟩⟩⟩ := h
  exact ⟨A1, c1, A2, c2, A3, c3, A4, c4, rfl, l1, g1, l2, g2, l3, g3, l4, g4⟩
theorem k125_mk (w : World) (x : S125) {A1 : Option Addr} {c1 : Nat} (l1 : x.f1.length ≤ c1) (g1 : k151.C w A1 x.f1.length x.f1) {A2 : Option Addr} {c2 : Nat} (l2 : x.f2.length ≤ c2) (g2 : k154.C w A2 x.f2.length x.f2) {A3 : Option Addr} {c3 : Nat} (l3 : x.f3.length ≤ c3) (g3 : k157.C w A3 x.f3.length x.f3) {A4 : Option Addr} {c4 : Nat} (l4 : x.f4.length ≤ c4) (g4 : k157.C w A4 x.f4.length x.f4) : k125.K w x [.string x.f0, .slice A1 x.f1.length c1, .slice A2 x.f2.length c2, .slice A3 x.f3.length c3, .slice A4 x.f4.length c4] := ⟨[.string x.f0], [.slice A1 x.f1.length c1, .slice A2 x.f2.length c2, .slice A3 x.f3.length c3, .slice A4 x.f4.length c4], rfl, rfl, ⟨[.slice A1 x.f1.length c1], [.slice A2 x.f2.length c2, .slice A3 x.f3.length c3, .slice A4 x.f4.length c4], rfl, ⟨A1, c1, rfl, l1, g1⟩, ⟨[.slice A2 x.f2.length c2], [.slice A3 x.f3.length c3, .slice A4 x.f4.length c4], rfl, ⟨A2, c2, rfl, l2, g2⟩, ⟨[.slice A3 x.f3.length c3], [.slice A4 x.f4.length c4], rfl, ⟨A3, c3, rfl, l3, g3⟩, ⟨A4, c4, rfl, l4, g4⟩⟩⟩⟩⟩
def rd_T125 (xs : List S125) (i : Int) : S125 := xs.getD i.toNat z125
theorem at_T125 {w : World} {A : Option Addr} {n : Nat} {xs : List S125} (h : Kd.C k125 w A n xs) (i : Int) (h0 : 0 ≤ i) (h1 : i < n) : ∃ ad A1 c1 A2 c2 A3 c3 A4 c4, A = some ad ∧ w.cell? (ad.add (i.toNat * 5)) = some (.string (rd_T125 xs i).f0) ∧ w.cell? ⟨(ad.add (i.toNat * 5)).block, (ad.add (i.toNat * 5)).off + 1, none⟩ = some (.slice A1 (rd_T125 xs i).f1.length c1) ∧ w.cell? ⟨(ad.add (i.toNat * 5)).block, (ad.add (i.toNat * 5)).off + 2, none⟩ = some (.slice A2 (rd_T125 xs i).f2.length c2) ∧ w.cell? ⟨(ad.add (i.toNat * 5)).block, (ad.add (i.toNat * 5)).off + 3, none⟩ = some (.slice A3 (rd_T125 xs i).f3.length c3) ∧ w.cell? ⟨(ad.add (i.toNat * 5)).block, (ad.add (i.toNat * 5)).off + 4, none⟩ = some (.slice A4 (rd_T125 xs i).f4.length c4) ∧ (rd_T125 xs i).f1.length ≤ c1 ∧ k151.C w A1 (rd_T125 xs i).f1.length (rd_T125 xs i).f1 ∧ (rd_T125 xs i).f2.length ≤ c2 ∧ k154.C w A2 (rd_T125 xs i).f2.length (rd_T125 xs i).f2 ∧ (rd_T125 xs i).f3.length ≤ c3 ∧ k157.C w A3 (rd_T125 xs i).f3.length (rd_T125 xs i).f3 ∧ (rd_T125 xs i).f4.length ≤ c4 ∧ k157.C w A4 (rd_T125 xs i).f4.length (rd_T125 xs i).f4 := by
  obtain ⟨ad, c, e, _, hK, hc0⟩ := Kd.C_get h z125 i h0 h1
  have hc : ∀ j u, c[j]? = some u → w.cell? (ad.add (i.toNat * 5 + j)) = some u := hc0
  obtain ⟨A1, c1, A2, c2, A3, c3, A4, c4, rfl, l1, g1, l2, g2, l3, g3, l4, g4⟩ := k125_open hK
  exact ⟨ad, A1, c1, A2, c2, A3, c3, A4, c4, e, hc 0 _ rfl, by rw [← add_field _ _ 1 (by omega)]; exact hc 1 _ rfl, by rw [← add_field _ _ 2 (by omega)]; exact hc 2 _ rfl, by rw [← add_field _ _ 3 (by omega)]; exact hc 3 _ rfl, by rw [← add_field _ _ 4 (by omega)]; exact hc 4 _ rfl, l1, g1, l2, g2, l3, g3, l4, g4⟩
structure S120 where
  f0 : ByteArray
  f1 : ByteArray
  f2 : ByteArray
  f3 : (List S142)
  f4 : (List S125)
def z120 : S120 := ⟨(⟨#[]⟩ : ByteArray), (⟨#[]⟩ : ByteArray), (⟨#[]⟩ : ByteArray), ([] : List S142), ([] : List S125)⟩
def k120 : Kd S120 := Kd.iso (Kd.pair Kd.string (Kd.pair Kd.string (Kd.pair Kd.string (Kd.pair (Kd.slice 142 k142) (Kd.slice 125 k125))))) (fun x : S120 => (x.f0, x.f1, x.f2, x.f3, x.f4))
theorem k120_open {w : World} {x : S120} {cs : List Value} (h : k120.K w x cs) : ∃ A3 c3 A4 c4, cs = [.string x.f0, .string x.f1, .string x.f2, .slice A3 x.f3.length c3, .slice A4 x.f4.length c4] ∧ x.f3.length ≤ c3 ∧ k142.C w A3 x.f3.length x.f3 ∧ x.f4.length ≤ c4 ∧ k125.C w A4 x.f4.length x.f4 := by
  obtain ⟨_, _, rfl, rfl, ⟨_, _, rfl, rfl, ⟨_, _, rfl, rfl, ⟨_, _, rfl, ⟨A3, c3, rfl, l3, g3⟩, ⟨A4, c4, rfl, l4, g4⟩⟩⟩⟩⟩ := h
  exact ⟨A3, c3, A4, c4, rfl, l3, g3, l4, g4⟩
theorem k120_mk (w : World) (x : S120) {A3 : Option Addr} {c3 : Nat} (l3 : x.f3.length ≤ c3) (g3 : k142.C w A3 x.f3.length x.f3) {A4 : Option Addr} {c4 : Nat} (l4 : x.f4.length ≤ c4) (g4 : k125.C w A4 x.f4.length x.f4) : k120.K w x [.string x.f0, .string x.f1, .string x.f2, .slice A3 x.f3.length c3, .slice A4 x.f4.length c4] := ⟨[.string x.f0], [.string x.f1, .string x.f2, .slice A3 x.f3.length c3, .slice A4 x.f4.length c4], rfl, rfl, ⟨[.string x.f1], [.string x.f2, .slice A3 x.f3.length c3, .slice A4 x.f4.length c4], rfl, rfl, ⟨[.string x.f2], [.slice A3 x.f3.length c3, .slice A4 x.f4.length c4], rfl, rfl, ⟨[.slice A3 x.f3.length c3], [.slice A4 x.f4.length c4], rfl, ⟨A3, c3, rfl, l3, g3⟩, ⟨A4, c4, rfl, l4, g4⟩⟩⟩⟩⟩
def rd_T120 (xs : List S120) (i : Int) : S120 := xs.getD i.toNat z120
theorem at_T120 {w : World} {A : Option Addr} {n : Nat} {xs : List S120} (h : Kd.C k120 w A n xs) (i : Int) (h0 : 0 ≤ i) (h1 : i < n) : ∃ ad A3 c3 A4 c4, A = some ad ∧ w.cell? (ad.add (i.toNat * 5)) = some (.string (rd_T120 xs i).f0) ∧ w.cell? ⟨(ad.add (i.toNat * 5)).block, (ad.add (i.toNat * 5)).off + 1, none⟩ = some (.string (rd_T120 xs i).f1) ∧ w.cell? ⟨(ad.add (i.toNat * 5)).block, (ad.add (i.toNat * 5)).off + 2, none⟩ = some (.string (rd_T120 xs i).f2) ∧ w.cell? ⟨(ad.add (i.toNat * 5)).block, (ad.add (i.toNat * 5)).off + 3, none⟩ = some (.slice A3 (rd_T120 xs i).f3.length c3) ∧ w.cell? ⟨(ad.add (i.toNat * 5)).block, (ad.add (i.toNat * 5)).off + 4, none⟩ = some (.slice A4 (rd_T120 xs i).f4.length c4) ∧ (rd_T120 xs i).f3.length ≤ c3 ∧ k142.C w A3 (rd_T120 xs i).f3.length (rd_T120 xs i).f3 ∧ (rd_T120 xs i).f4.length ≤ c4 ∧ k125.C w A4 (rd_T120 xs i).f4.length (rd_T120 xs i).f4 := by
  obtain ⟨ad, c, e, _, hK, hc0⟩ := Kd.C_get h z120 i h0 h1
  have hc : ∀ j u, c[j]? = some u → w.cell? (ad.add (i.toNat * 5 + j)) = some u := hc0
  obtain ⟨A3, c3, A4, c4, rfl, l3, g3, l4, g4⟩ := k120_open hK
  exact ⟨ad, A3, c3, A4, c4, e, hc 0 _ rfl, by rw [← add_field _ _ 1 (by omega)]; exact hc 1 _ rfl, by rw [← add_field _ _ 2 (by omega)]; exact hc 2 _ rfl, by rw [← add_field _ _ 3 (by omega)]; exact hc 3 _ rfl, by rw [← add_field _ _ 4 (by omega)]; exact hc 4 _ rfl, l3, g3, l4, g4⟩
end Go.Proofs.Ytmpmcffhlnlejaa.PSubSelf
end
section
namespace Go.Proofs.Ytmpmcffhlnlejaa.Wld
open Go.RowKit Go.Proofs.YtmpmcffhlnlejaaW.PrintWords Go.Proofs.YtmpmcffhlnlejaaW.PrintLast Go.Proofs.YtmpmcffhlnlejaaW.PrintMore
open Go.Proofs.Ytmpmcffhlnlejaa.PSubSelf
set_option linter.unusedVariables false
set_option linter.unusedSimpArgs false
theorem kind_any (c : Int) (w : World) : Calls Try.prog 97 #[.int .u8 c] w fun e w' => (∃ r : Int, e = .returned (.int .i64 r)) ∧ w' = w := by
  go_enter Try.func97, Try.ntmps97
  go_wp2_with fail
  all_goals (go_ret; exact ⟨⟨_, rfl⟩, rfl⟩)
/-- A name has at most 100 bytes. -/
def NameOk (s : ByteArray) (w : World) (e : Ending) (w' : World) : Prop := (∃ b : Bool, e = .returned (.bool b) ∧ (b = true → s.size ≤ 100)) ∧ w' = w
set_option maxHeartbeats 1000000 in
theorem name_any (s : ByteArray) (w : World) : Calls Try.prog 84 #[.string s] w (NameOk s w) := by
  by_cases h1 : (s.size : Int) < 1
  · have d1 : decide ((s.size : Int) < 1) = true := decide_eq_true h1
    go_enter Try.func84, Try.ntmps84
    go_wp2_with fail
    go_ret
    exact ⟨⟨false, rfl, fun h => by cases h⟩, rfl⟩
  by_cases h2 : (100 : Int) < (s.size : Int)
  · have d1 : decide ((s.size : Int) < 1) = false := decide_eq_false h1
    have d2 : decide ((100 : Int) < (s.size : Int)) = true := decide_eq_true h2
    go_enter Try.func84, Try.ntmps84
    go_wp2_with fail
    go_ret
    exact ⟨⟨false, rfl, fun h => by cases h⟩, rfl⟩
  have hs : s.size ≤ 100 := by omega
  have hs1 : 1 ≤ s.size := by omega
  have d1 : decide ((s.size : Int) < 1) = false := decide_eq_false h1
  have d2 : decide ((100 : Int) < (s.size : Int)) = false := decide_eq_false h2
  clear h1 h2
  go_enter Try.func84, Try.ntmps84
  go_wp2_with fail
  go_loop [3, 4] (fun v3 v4 => ∃ k : Nat, k ≤ s.size ∧ v4 = .int .i64 k ∧ ∃ r : Int, v3 = .int .i64 r) (fun _ v4 => s.size - (intOf v4).toNat)
  case atStart => exact ⟨0, Nat.zero_le _, rfl, 0, rfl⟩
  case round =>
    obtain ⟨k, hk, rfl, r0, rfl⟩ := hrel
    by_cases hlt : k < s.size
    · by_cases h0 : k = 0
      · subst h0
        go_wp2_with (go_at_call 97; refine (kind_any _ _).mono ?_; rintro e w1 ⟨⟨r, rfl⟩, rfl⟩)
        all_goals first
          | (go_ret; exact ⟨⟨false, rfl, fun h => by cases h⟩, rfl⟩)
          | (go_round
             case rel => exact ⟨1, by omega, rfl, _, rfl⟩
             case measure => simp [intOf]; omega)
      · obtain ⟨j, rfl⟩ : ∃ j, k = j + 1 := ⟨k - 1, by omega⟩
        clear h0
        have hj : ((j + 1 : Nat) : Int) - 1 = (j : Int) := by omega
        have hj0 : (((j + 1 : Nat) : Int) == 0) = false := beq_eq_false_iff_ne.mpr (by omega)
        go_wp2_with (go_at_call 97; refine (kind_any _ _).mono ?_; rintro e w1 ⟨⟨r, rfl⟩, rfl⟩)
        all_goals first
          | (go_ret; exact ⟨⟨false, rfl, fun h => by cases h⟩, rfl⟩)
          | (go_round
             case rel => exact ⟨j + 1 + 1, by omega, by go_num, _, rfl⟩
             case measure => simp [intOf]; omega)
    · obtain rfl : k = s.size := by omega
      go_wp2_with fail
      go_ret
      exact ⟨⟨_, rfl, fun _ => hs⟩, rfl⟩
/-- A version has at most 30 bytes. -/
def VerOk (s : ByteArray) (w : World) (e : Ending) (w' : World) : Prop := (∃ b : Bool, e = .returned (.bool b) ∧ (b = true → s.size ≤ 30)) ∧ w' = w
set_option maxHeartbeats 1000000 in
theorem version_any (s : ByteArray) (w : World) (hs : s.size ≤ 9223372036854775807) : Calls Try.prog 85 #[.string s] w (VerOk s w) := by
  go_enter Try.func85, Try.ntmps85
  go_wp2_with fail
  go_loop [3, 4, 5] (fun v3 v4 v5 => ∃ k n d : Nat, k ≤ s.size ∧ v5 = .int .i64 k ∧ v3 = .int .i64 n ∧ v4 = .int .i64 d ∧ d ≤ 9 ∧ k ≤ 10 * n + d ∧ n + d ≤ k) (fun _ _ v5 => s.size - (intOf v5).toNat)
  case atStart => exact ⟨0, 0, 0, Nat.zero_le _, rfl, rfl, rfl, by omega, by omega, by omega⟩
  case round =>
    obtain ⟨k, n, d, hk, rfl, rfl, rfl, hd, hk2, hk3⟩ := hrel
    by_cases hlt : k < s.size
    · by_cases h0 : d = 0
      · subst h0
        go_wp2_with (go_at_call 97; refine (kind_any _ _).mono ?_; rintro e w1 ⟨⟨r, rfl⟩, rfl⟩)
        all_goals first
          | (go_ret; exact ⟨⟨false, rfl, fun h => by cases h⟩, rfl⟩)
          | (go_round
             case rel => exact ⟨k + 1, n, 1, by omega, by go_num, rfl, rfl, by omega, by omega, by omega⟩
             case measure => simp [intOf]; omega)
      by_cases h1 : d = 1
      · subst h1
        obtain ⟨j, rfl⟩ : ∃ j, k = j + 1 := ⟨k - 1, by omega⟩
        clear h0
        go_wp2_with (go_at_call 97; refine (kind_any _ _).mono ?_; rintro e w1 ⟨⟨r, rfl⟩, rfl⟩)
        all_goals first
          | (go_ret; exact ⟨⟨false, rfl, fun h => by cases h⟩, rfl⟩)
          | (go_round
             case rel => exact ⟨j + 1 + 1, n + 1, 0, by omega, by go_num, by go_num, rfl, by omega, by omega, by omega⟩
             case measure => simp [intOf]; omega)
          | (go_round
             case rel => exact ⟨j + 1 + 1, n, 2, by omega, by go_num, rfl, rfl, by omega, by omega, by omega⟩
             case measure => simp [intOf]; omega)
      by_cases h9 : d = 9
      · subst h9
        go_wp2_with (go_at_call 97; refine (kind_any _ _).mono ?_; rintro e w1 ⟨⟨r, rfl⟩, rfl⟩)
        all_goals first
          | (go_ret; exact ⟨⟨false, rfl, fun h => by cases h⟩, rfl⟩)
          | (go_round
             case rel => exact ⟨k + 1, n + 1, 0, by omega, by go_num, by go_num, rfl, by omega, by omega, by omega⟩
             case measure => simp [intOf]; omega)
      · have e0 : ((d : Int) == 0) = false := beq_eq_false_iff_ne.mpr (by omega)
        have e1 : ((d : Int) == 1) = false := beq_eq_false_iff_ne.mpr (by omega)
        have e9 : ((d : Int) == 9) = false := beq_eq_false_iff_ne.mpr (by omega)
        have hd8 : d ≤ 8 := by omega
        clear h0 h1 h9
        go_wp2_with (go_at_call 97; refine (kind_any _ _).mono ?_; rintro e w1 ⟨⟨r, rfl⟩, rfl⟩)
        all_goals first
          | (go_ret; exact ⟨⟨false, rfl, fun h => by cases h⟩, rfl⟩)
          | (go_round
             case rel => exact ⟨k + 1, n + 1, 0, by omega, by go_num, by go_num, rfl, by omega, by omega, by omega⟩
             case measure => simp [intOf]; omega)
          | (go_round
             case rel => exact ⟨k + 1, n, d + 1, by omega, by go_num, rfl, by go_num, by omega, by omega, by omega⟩
             case measure => simp [intOf]; omega)
    · obtain rfl : k = s.size := by omega
      go_wp2_with fail
      all_goals first
        | (go_ret; exact ⟨⟨false, rfl, fun h => by cases h⟩, rfl⟩)
        | (go_ret; exact ⟨⟨_, rfl, fun _ => by omega⟩, rfl⟩)
        | (go_ret; refine ⟨⟨_, rfl, fun h => ?_⟩, rfl⟩; simp at h; omega)
def SplitOk (s : ByteArray) (w : World) (e : Ending) (w' : World) : Prop := (∃ (a b : ByteArray) (c : Bool), e = .returned (.tuple #[.string a, .string b, .bool c]) ∧ a.size ≤ s.size ∧ b.size ≤ s.size) ∧ Drawn0 w w'
theorem split_any (s : ByteArray) (w : World) (hs : s.size ≤ 9223372036854775807) : Calls Try.prog 110 #[.string s] w (SplitOk s w) := by
  go_enter Try.func110, Try.ntmps110
  go_wp2_with fail
  go_loop [5] (fun v5 => ∃ k : Nat, k ≤ s.size ∧ v5 = .int .i64 k) (fun v5 => s.size - (intOf v5).toNat)
  case atStart => exact ⟨0, Nat.zero_le _, rfl⟩
  case round =>
    obtain ⟨k, hk, rfl⟩ := hrel
    by_cases hlt : k < s.size
    · have v1 : IntKind.i64.wrap ((k : Int) + 1) = (k : Int) + 1 := IntWalk.i64_in _ (by omega)
      have v2 : ((k : Int) + 1).toNat = k + 1 := by omega
      have v3 : (k : Int) ≤ (s.size : Int) := by omega
      have v4 : (k : Int) + 1 ≤ (s.size : Int) := by omega
      have v5 : (0 : Int) ≤ (k : Int) + 1 := by omega
      go_wp2_with fail
      all_goals first
        | (go_round
           case rel => exact ⟨k + 1, by omega, by go_num⟩
           case measure => simp [intOf]; omega)
        | (go_quiet (fail)
           go_wp2_with fail
           exact bodyPost_ret (v := .tuple #[.string (s.extract 0 k), .string (s.extract (k + 1) s.size), .bool true]) (by simp [results, Try.results110, go_sem, *]) rfl ⟨⟨_, _, _, rfl, by rw [ByteArray.size_extract]; omega, by rw [ByteArray.size_extract]; omega⟩, ⟨⟨_, rfl⟩⟩⟩)
    · obtain rfl : k = s.size := by omega
      go_wp2_with fail
      exact bodyPost_ret (v := .tuple #[.string ⟨#[]⟩, .string ⟨#[]⟩, .bool false]) (by simp [results, Try.results110, go_sem, *]) rfl ⟨⟨_, _, _, rfl, Nat.zero_le _, Nat.zero_le _⟩, ⟨⟨0, rfl⟩⟩⟩
def AnyB (w : World) (e : Ending) (w' : World) : Prop := (∃ b : Bool, e = .returned (.bool b)) ∧ Below w.heap.size w w'
theorem path_any (x : S149) (w : World) (h0 : x.f0.size ≤ 9223372036854775807) (h1 : x.f1.size ≤ 9223372036854775807) :
    Calls Try.prog 98 #[.agg #[.string x.f0, .string x.f1, .string x.f2]] w (AnyB w) := by
  obtain ⟨s0, s1, s2⟩ := x
  replace h0 : s0.size ≤ 9223372036854775807 := h0
  replace h1 : s1.size ≤ 9223372036854775807 := h1
  have HB := Aside0.mk (below_alloc (Below.refl w.heap.size w) (.cells #[.string s0, .string s1, .string s2] 149))
  go_enter Try.func98, Try.ntmps98
  go_wp2_with fail
  refine (name_any s2 _).mono ?_
  rintro e w1 ⟨⟨b0, rfl, _⟩, rfl⟩
  cases b0 with
  | false =>
    go_wp2_with fail
    go_ret
    exact ⟨⟨_, rfl⟩, HB.out⟩
  | true =>
    go_wp2_with fail
    · go_ret
      exact ⟨⟨_, rfl⟩, HB.out⟩
    · refine (split_any s0 _ h0).mono ?_
      rintro e w2 ⟨⟨a, b, c, rfl, ha, hb⟩, ⟨⟨d, rfl⟩⟩⟩
      have HB2 := Aside0.mk (pw_below_drewN HB.out d)
      clear HB
      cases c with
      | false =>
        go_wp2_with fail
        go_ret
        exact ⟨⟨_, rfl⟩, HB2.out⟩
      | true =>
        go_wp2_with fail
        refine (name_any a _).mono ?_
        rintro e w3 ⟨⟨b1, rfl, _⟩, rfl⟩
        cases b1 with
        | false =>
          go_wp2_with fail
          go_ret
          exact ⟨⟨_, rfl⟩, HB2.out⟩
        | true =>
          go_wp2_with fail
          refine (name_any b _).mono ?_
          rintro e w3 ⟨⟨b2, rfl, _⟩, rfl⟩
          cases b2 with
          | false =>
            go_wp2_with fail
            go_ret
            exact ⟨⟨_, rfl⟩, HB2.out⟩
          | true =>
            go_wp2_with (go_at_call 85; refine (version_any s1 _ h1).mono ?_; rintro e w4 ⟨⟨b3, rfl, _⟩, rfl⟩)
            all_goals (go_ret; exact ⟨⟨_, rfl⟩, HB2.out⟩)
theorem take_all {α : Type} {P : α → Prop} {l : List α} {k : Nat} (h : ∀ x ∈ l.take k, P x) (hk : k < l.length) (hx : P l[k]) : ∀ x ∈ l.take (k + 1), P x := by
  rw [List.take_succ_eq_append_getElem hk]
  intro x hm
  rcases List.mem_append.1 hm with h1 | h1
  · exact h x h1
  · rw [List.mem_singleton.1 h1]; exact hx
theorem take_none {α : Type} {P : α → Prop} {l : List α} : ∀ x ∈ l.take 0, P x := fun x h => by simp at h
theorem take_whole {α : Type} {P : α → Prop} {l : List α} (h : ∀ x ∈ l.take l.length, P x) : ∀ x ∈ l, P x := by rwa [List.take_length] at h
theorem rdB_eq {l : List ByteArray} {k : Nat} (hk : k < l.length) : rdOf ByteArray.empty l (k : Int) = l[k] := by simp [rdOf, List.getD, hk]
/-- Names: at most 64, each of at most 100 bytes. -/
def Names (l : List ByteArray) : Prop := l.length ≤ 64 ∧ ∀ s ∈ l, s.size ≤ 100
def NamesOk (l : List ByteArray) (w : World) (e : Ending) (w' : World) : Prop := (∃ b : Bool, e = .returned (.bool b) ∧ (b = true → Names l)) ∧ w' = w
theorem names_any (A : Option Addr) (c : Nat) (l : List ByteArray) (w : World) (hl : Kd.C Kd.string w A l.length l) (hc : l.length ≤ 9223372036854775807) :
    Calls Try.prog 99 #[.slice A l.length c] w (NamesOk l w) := by
  have HL := Aside0.mk hl
  clear hl
  go_enter Try.func99, Try.ntmps99
  go_wp2_with fail
  go_loop [3] (fun v3 => ∃ k : Nat, k ≤ l.length ∧ v3 = .int .i64 k ∧ Aside0 (∀ s ∈ l.take k, s.size ≤ 100)) (fun v3 => l.length - (intOf v3).toNat)
  case atStart => exact ⟨0, Nat.zero_le _, rfl, ⟨take_none⟩⟩
  case round =>
    obtain ⟨k, hk, rfl, HA⟩ := hrel
    by_cases hlt : k < l.length
    · obtain ⟨ad, hae, hx⟩ := Kd.at_string HL.out (k : Int) (by omega) (by omega)
      cases hae
      rw [rdB_eq hlt] at hx
      rw [Int.toNat_natCast] at hx
      have HT := Aside0.mk (fun h => take_all (P := fun s : ByteArray => s.size ≤ 100) HA.out hlt h)
      generalize l[k] = x at *
      go_wp2_with fail
      refine (name_any x _).mono ?_
      rintro e w1 ⟨⟨b, rfl, hb⟩, rfl⟩
      cases b with
      | false =>
        go_wp2_with fail
        go_ret
        exact ⟨⟨false, rfl, fun h => by cases h⟩, rfl⟩
      | true =>
        have HB := Aside0.mk (hb rfl)
        clear hb
        go_wp2_with fail
        go_round
        case rel => exact ⟨k + 1, by omega, by go_num, ⟨HT.out HB.out⟩⟩
        case measure => simp [intOf]; omega
    · obtain rfl : k = l.length := by omega
      go_wp2_with fail
      go_ret
      exact ⟨⟨_, rfl, fun h => ⟨by simp at h; omega, take_whole HA.out⟩⟩, rfl⟩
/-- Is a type none? -/
def noneB (a0 : Int) (n1 n2 : Nat) (a3 : Int) : Bool := decide (a0 = 0 ∧ a3 = 0 ∧ n1 = 0 ∧ n2 = 0)
theorem none_any (a0 : Int) (A1 : Option Addr) (n1 c1 : Nat) (A2 : Option Addr) (n2 c2 : Nat) (a3 : Int) (w : World) :
    Calls Try.prog 102 #[.agg #[.int .i64 a0, .slice A1 n1 c1, .slice A2 n2 c2, .int .i64 a3]] w fun e w' => e = .returned (.bool (noneB a0 n1 n2 a3)) ∧ Below w.heap.size w w' := by
  have HB := Aside0.mk (below_alloc (Below.refl w.heap.size w) (.cells #[.int .i64 a0, .slice A1 n1 c1, .slice A2 n2 c2, .int .i64 a3] 25))
  by_cases h0 : a0 = 0
  · subst h0
    by_cases h3 : a3 = 0
    · subst h3
      by_cases h1 : n1 = 0
      · subst h1
        go_enter Try.func102, Try.ntmps102
        go_wp2_with fail
        go_ret
        exact ⟨by unfold noneB; by_cases h2 : n2 = 0 <;> simp [h2], HB.out⟩
      · have d1 : ((n1 : Int) == 0) = false := beq_eq_false_iff_ne.mpr (by omega)
        have e : noneB 0 n1 n2 0 = false := decide_eq_false (by omega)
        rw [e]
        go_enter Try.func102, Try.ntmps102
        go_wp2_with fail
        go_ret
        exact ⟨rfl, HB.out⟩
    · have d1 : (a3 == 0) = false := beq_eq_false_iff_ne.mpr h3
      have e : noneB 0 n1 n2 a3 = false := decide_eq_false (by omega)
      rw [e]
      go_enter Try.func102, Try.ntmps102
      go_wp2_with fail
      go_ret
      exact ⟨rfl, HB.out⟩
  · have d1 : (a0 == 0) = false := beq_eq_false_iff_ne.mpr h0
    have e : noneB a0 n1 n2 a3 = false := decide_eq_false (by omega)
    rw [e]
    go_enter Try.func102, Try.ntmps102
    go_wp2_with fail
    go_ret
    exact ⟨rfl, HB.out⟩
end Go.Proofs.Ytmpmcffhlnlejaa.Wld
end
