/-
  NARROWER THAN 'FOR EVERY INPUT', by the rows' own cells (each row's printed sentence says how): SubSame: loops · SubNames: loops · SubSelf: loops · SubOver: loops · SubLinked: loops · SubFits: loops.
  DERIVED. THE GIVEN ROWS OF THIS SEAT. 12 by the template 'for every input the law returns true; each argument reads behind the call as it read before'; 0 by the template 'total and deterministic' (their statements: YtmpmcffhlnlejaaTotals.lean).
  GIVEN WITH THE SEED: the statements are not yours to turn. If you find one false, say at which input.
  Laid BY PROGRAM, IN A SANDBOX (cutbox-rows.mjs): the forced cells as the released guide's own fill.sh prints them over the translation 549212bd83bb1160… (all of the seat's roots in one cut). By AI agents, Wed Nov 11 2026. No macro, syntax, notation, axiom, sorry.
-/
import Derived.Test.YtmpmcffhlnlejaaChecked
import GoSem.Claim
import GoSem.ClaimJoined
import GoSem.ClaimMapViews
import Derived.JoinedTies
import Derived.KernelRfl
namespace Go.Proofs.Ytmpmcffhlnlejaa
/- THE CELL 'sum', in the pinned program and in every row, IS THE sha256 OF THE DUMP (.gsa) THAT YtmpmcffhlnlejaaProg.lean LOADS. Nothing in Lean hashes anything: it is a label: what it is worth is what the hold of that sum in a sandbox is worth. -/
noncomputable def Try.pinned : Pinned := { name := "ytmpmcffhlnlejaa", sum := "549212bd83bb11606bb592afe12a8dd6a68f8827380fc997643fbfbbc32eae04", checked := Try.checked }
namespace Rows
def none {H : Type} : Left H := { results := [], args := [] }

/-- 'scarflaw14.SubSame': WHATEVER THE INPUT: true; the input reads as it did. -/
def subSameSpec : ChangeSpec := { name := "subSame", fn := fun _ => fun
  | [d1, d2, d3, d4, d5] => { results := [.lit (.bool true)], args := [d1, d2, d3, d4, d5] }
  | _ => none }
def subSameRow : OpenClaim := { program := "ytmpmcffhlnlejaa", sum := "549212bd83bb11606bb592afe12a8dd6a68f8827380fc997643fbfbbc32eae04", func := "scarf/scarflaw14.SubSame", spec := "subSame", unfollowed := true, recurses := true, loops := true, apart := false }
def SubSameSaid : Prop := subSameRow.holds Try.pinned (OpenSpec.ofChange subSameSpec)

/-- ITS FALSE NEIGHBOUR: 'it returns false'. Refute it at one input. -/
def subSameWrong : ChangeSpec := { name := "subSame", fn := fun _ => fun
  | [d1, d2, d3, d4, d5] => { results := [.lit (.bool false)], args := [d1, d2, d3, d4, d5] }
  | _ => none }
def SubSameWrongFalsely : Prop := subSameRow.holds Try.pinned (OpenSpec.ofChange subSameWrong)

/-- 'scarflaw14.SubNames': WHATEVER THE INPUT: true; the input reads as it did. -/
def subNamesSpec : ChangeSpec := { name := "subNames", fn := fun _ => fun
  | [d1, d2] => { results := [.lit (.bool true)], args := [d1, d2] }
  | _ => none }
def subNamesRow : OpenClaim := { program := "ytmpmcffhlnlejaa", sum := "549212bd83bb11606bb592afe12a8dd6a68f8827380fc997643fbfbbc32eae04", func := "scarf/scarflaw14.SubNames", spec := "subNames", unfollowed := true, recurses := true, loops := true, apart := false }
def SubNamesSaid : Prop := subNamesRow.holds Try.pinned (OpenSpec.ofChange subNamesSpec)

/-- ITS FALSE NEIGHBOUR: 'it returns false'. Refute it at one input. -/
def subNamesWrong : ChangeSpec := { name := "subNames", fn := fun _ => fun
  | [d1, d2] => { results := [.lit (.bool false)], args := [d1, d2] }
  | _ => none }
def SubNamesWrongFalsely : Prop := subNamesRow.holds Try.pinned (OpenSpec.ofChange subNamesWrong)

/-- 'scarflaw14.SubSelf': WHATEVER THE INPUT: true; the input reads as it did. -/
def subSelfSpec : ChangeSpec := { name := "subSelf", fn := fun _ => fun
  | [d1, d2, d3, d4] => { results := [.lit (.bool true)], args := [d1, d2, d3, d4] }
  | _ => none }
def subSelfRow : OpenClaim := { program := "ytmpmcffhlnlejaa", sum := "549212bd83bb11606bb592afe12a8dd6a68f8827380fc997643fbfbbc32eae04", func := "scarf/scarflaw14.SubSelf", spec := "subSelf", unfollowed := true, recurses := true, loops := true, apart := false }
def SubSelfSaid : Prop := subSelfRow.holds Try.pinned (OpenSpec.ofChange subSelfSpec)

/-- ITS FALSE NEIGHBOUR: 'it returns false'. Refute it at one input. -/
def subSelfWrong : ChangeSpec := { name := "subSelf", fn := fun _ => fun
  | [d1, d2, d3, d4] => { results := [.lit (.bool false)], args := [d1, d2, d3, d4] }
  | _ => none }
def SubSelfWrongFalsely : Prop := subSelfRow.holds Try.pinned (OpenSpec.ofChange subSelfWrong)

/-- 'scarflaw14.SubOver': WHATEVER THE INPUT: true; the input reads as it did. -/
def subOverSpec : ChangeSpec := { name := "subOver", fn := fun _ => fun
  | [d1, d2, d3] => { results := [.lit (.bool true)], args := [d1, d2, d3] }
  | _ => none }
def subOverRow : OpenClaim := { program := "ytmpmcffhlnlejaa", sum := "549212bd83bb11606bb592afe12a8dd6a68f8827380fc997643fbfbbc32eae04", func := "scarf/scarflaw14.SubOver", spec := "subOver", unfollowed := true, recurses := true, loops := true, apart := false }
def SubOverSaid : Prop := subOverRow.holds Try.pinned (OpenSpec.ofChange subOverSpec)

/-- ITS FALSE NEIGHBOUR: 'it returns false'. Refute it at one input. -/
def subOverWrong : ChangeSpec := { name := "subOver", fn := fun _ => fun
  | [d1, d2, d3] => { results := [.lit (.bool false)], args := [d1, d2, d3] }
  | _ => none }
def SubOverWrongFalsely : Prop := subOverRow.holds Try.pinned (OpenSpec.ofChange subOverWrong)

/-- 'scarflaw14.SubLinked': WHATEVER THE INPUT: true; the input reads as it did. -/
def subLinkedSpec : ChangeSpec := { name := "subLinked", fn := fun _ => fun
  | [d1, d2, d3] => { results := [.lit (.bool true)], args := [d1, d2, d3] }
  | _ => none }
def subLinkedRow : OpenClaim := { program := "ytmpmcffhlnlejaa", sum := "549212bd83bb11606bb592afe12a8dd6a68f8827380fc997643fbfbbc32eae04", func := "scarf/scarflaw14.SubLinked", spec := "subLinked", unfollowed := true, recurses := true, loops := true, apart := false }
def SubLinkedSaid : Prop := subLinkedRow.holds Try.pinned (OpenSpec.ofChange subLinkedSpec)

/-- ITS FALSE NEIGHBOUR: 'it returns false'. Refute it at one input. -/
def subLinkedWrong : ChangeSpec := { name := "subLinked", fn := fun _ => fun
  | [d1, d2, d3] => { results := [.lit (.bool false)], args := [d1, d2, d3] }
  | _ => none }
def SubLinkedWrongFalsely : Prop := subLinkedRow.holds Try.pinned (OpenSpec.ofChange subLinkedWrong)

/-- 'scarflaw04.MemWidths': WHATEVER THE INPUT: true; the input reads as it did. -/
def memWidthsSpec : ChangeSpec := { name := "memWidths", fn := fun _ => fun
  | [d] => { results := [.lit (.bool true)], args := [d] }
  | _ => none }
def memWidthsRow : OpenClaim := { program := "ytmpmcffhlnlejaa", sum := "549212bd83bb11606bb592afe12a8dd6a68f8827380fc997643fbfbbc32eae04", func := "scarf/scarflaw04.MemWidths", spec := "memWidths", apart := false }
def MemWidthsSaid : Prop := memWidthsRow.holds Try.pinned (OpenSpec.ofChange memWidthsSpec)

/-- ITS FALSE NEIGHBOUR: 'it returns false'. Refute it at one input. -/
def memWidthsWrong : ChangeSpec := { name := "memWidths", fn := fun _ => fun
  | [d] => { results := [.lit (.bool false)], args := [d] }
  | _ => none }
def MemWidthsWrongFalsely : Prop := memWidthsRow.holds Try.pinned (OpenSpec.ofChange memWidthsWrong)

/-- 'scarflaw14.SubFits': WHATEVER THE INPUT: true; the input reads as it did. -/
def subFitsSpec : ChangeSpec := { name := "subFits", fn := fun _ => fun
  | [d1, d2] => { results := [.lit (.bool true)], args := [d1, d2] }
  | _ => none }
def subFitsRow : OpenClaim := { program := "ytmpmcffhlnlejaa", sum := "549212bd83bb11606bb592afe12a8dd6a68f8827380fc997643fbfbbc32eae04", func := "scarf/scarflaw14.SubFits", spec := "subFits", unfollowed := true, recurses := true, loops := true, apart := false }
def SubFitsSaid : Prop := subFitsRow.holds Try.pinned (OpenSpec.ofChange subFitsSpec)

/-- ITS FALSE NEIGHBOUR: 'it returns false'. Refute it at one input. -/
def subFitsWrong : ChangeSpec := { name := "subFits", fn := fun _ => fun
  | [d1, d2] => { results := [.lit (.bool false)], args := [d1, d2] }
  | _ => none }
def SubFitsWrongFalsely : Prop := subFitsRow.holds Try.pinned (OpenSpec.ofChange subFitsWrong)

/-- 'scarflaw04.MemBack': WHATEVER THE INPUT: true; the input reads as it did. -/
def memBackSpec : ChangeSpec := { name := "memBack", fn := fun _ => fun
  | [d1, d2, d3] => { results := [.lit (.bool true)], args := [d1, d2, d3] }
  | _ => none }
def memBackRow : OpenClaim := { program := "ytmpmcffhlnlejaa", sum := "549212bd83bb11606bb592afe12a8dd6a68f8827380fc997643fbfbbc32eae04", func := "scarf/scarflaw04.MemBack", spec := "memBack", apart := false }
def MemBackSaid : Prop := memBackRow.holds Try.pinned (OpenSpec.ofChange memBackSpec)

/-- ITS FALSE NEIGHBOUR: 'it returns false'. Refute it at one input. -/
def memBackWrong : ChangeSpec := { name := "memBack", fn := fun _ => fun
  | [d1, d2, d3] => { results := [.lit (.bool false)], args := [d1, d2, d3] }
  | _ => none }
def MemBackWrongFalsely : Prop := memBackRow.holds Try.pinned (OpenSpec.ofChange memBackWrong)

/-- 'scarflaw04.MemSigns': WHATEVER THE INPUT: true; the input reads as it did. -/
def memSignsSpec : ChangeSpec := { name := "memSigns", fn := fun _ => fun
  | [d1, d2] => { results := [.lit (.bool true)], args := [d1, d2] }
  | _ => none }
def memSignsRow : OpenClaim := { program := "ytmpmcffhlnlejaa", sum := "549212bd83bb11606bb592afe12a8dd6a68f8827380fc997643fbfbbc32eae04", func := "scarf/scarflaw04.MemSigns", spec := "memSigns", apart := false }
def MemSignsSaid : Prop := memSignsRow.holds Try.pinned (OpenSpec.ofChange memSignsSpec)

/-- ITS FALSE NEIGHBOUR: 'it returns false'. Refute it at one input. -/
def memSignsWrong : ChangeSpec := { name := "memSigns", fn := fun _ => fun
  | [d1, d2] => { results := [.lit (.bool false)], args := [d1, d2] }
  | _ => none }
def MemSignsWrongFalsely : Prop := memSignsRow.holds Try.pinned (OpenSpec.ofChange memSignsWrong)

/-- 'scarflaw04.MemMoves': WHATEVER THE INPUT: true; the input reads as it did. -/
def memMovesSpec : ChangeSpec := { name := "memMoves", fn := fun _ => fun
  | [d1, d2, d3, d4] => { results := [.lit (.bool true)], args := [d1, d2, d3, d4] }
  | _ => none }
def memMovesRow : OpenClaim := { program := "ytmpmcffhlnlejaa", sum := "549212bd83bb11606bb592afe12a8dd6a68f8827380fc997643fbfbbc32eae04", func := "scarf/scarflaw04.MemMoves", spec := "memMoves", apart := false }
def MemMovesSaid : Prop := memMovesRow.holds Try.pinned (OpenSpec.ofChange memMovesSpec)

/-- ITS FALSE NEIGHBOUR: 'it returns false'. Refute it at one input. -/
def memMovesWrong : ChangeSpec := { name := "memMoves", fn := fun _ => fun
  | [d1, d2, d3, d4] => { results := [.lit (.bool false)], args := [d1, d2, d3, d4] }
  | _ => none }
def MemMovesWrongFalsely : Prop := memMovesRow.holds Try.pinned (OpenSpec.ofChange memMovesWrong)

/-- 'scarflaw04.MemPlays': WHATEVER THE INPUT: true; the input reads as it did. -/
def memPlaysSpec : ChangeSpec := { name := "memPlays", fn := fun _ => fun
  | [d1, d2] => { results := [.lit (.bool true)], args := [d1, d2] }
  | _ => none }
def memPlaysRow : OpenClaim := { program := "ytmpmcffhlnlejaa", sum := "549212bd83bb11606bb592afe12a8dd6a68f8827380fc997643fbfbbc32eae04", func := "scarf/scarflaw04.MemPlays", spec := "memPlays", apart := false }
def MemPlaysSaid : Prop := memPlaysRow.holds Try.pinned (OpenSpec.ofChange memPlaysSpec)

/-- ITS FALSE NEIGHBOUR: 'it returns false'. Refute it at one input. -/
def memPlaysWrong : ChangeSpec := { name := "memPlays", fn := fun _ => fun
  | [d1, d2] => { results := [.lit (.bool false)], args := [d1, d2] }
  | _ => none }
def MemPlaysWrongFalsely : Prop := memPlaysRow.holds Try.pinned (OpenSpec.ofChange memPlaysWrong)

/-- 'scarflaw04.MemNone': WHATEVER THE INPUT: true; the input reads as it did. -/
def memNoneSpec : ChangeSpec := { name := "memNone", fn := fun _ => fun
  | [d1, d2, d3] => { results := [.lit (.bool true)], args := [d1, d2, d3] }
  | _ => none }
def memNoneRow : OpenClaim := { program := "ytmpmcffhlnlejaa", sum := "549212bd83bb11606bb592afe12a8dd6a68f8827380fc997643fbfbbc32eae04", func := "scarf/scarflaw04.MemNone", spec := "memNone", apart := false }
def MemNoneSaid : Prop := memNoneRow.holds Try.pinned (OpenSpec.ofChange memNoneSpec)

/-- ITS FALSE NEIGHBOUR: 'it returns false'. Refute it at one input. -/
def memNoneWrong : ChangeSpec := { name := "memNone", fn := fun _ => fun
  | [d1, d2, d3] => { results := [.lit (.bool false)], args := [d1, d2, d3] }
  | _ => none }
def MemNoneWrongFalsely : Prop := memNoneRow.holds Try.pinned (OpenSpec.ofChange memNoneWrong)

/- THE SECOND FORM. 'bulk': how many values and letters a reading holds, each counted each time it is reached (what is shared counts as often as it is met; a slice's spare places count too). A statement '..UptoSaid' is the law's where the arguments, and the package variables that the reading takes, are together of bulk at most 1048576: NARROWER than '..Said'. Prove '..Said' where nothing that the law and all that it calls make is longer than what came in: it says more and counts as full. Else prove '..UptoSaid'. A law counts once. -/
mutual
def uptoBulk {H : Type} : DataW H → Nat
  | .lit (.string bytes) => bytes.length + 1
  | .lit _ => 1
  | .nil => 1
  | .ptr d => uptoBulk d + 1
  | .slice elems spare => uptoBulkAll elems + uptoBulkAll spare + 1
  | .agg parts => uptoBulkAll parts + 1
  | .iface _ d => uptoBulk d + 1
  | .map entries => uptoBulkEntries entries + 1
  | .held _ => 1
def uptoBulkAll {H : Type} : List (DataW H) → Nat
  | [] => 0
  | d :: r => uptoBulk d + uptoBulkAll r
def uptoBulkEntries {H : Type} : List (Lit × DataW H) → Nat
  | [] => 0
  | x :: r => uptoBulkEntry x + uptoBulkEntries r
def uptoBulkEntry {H : Type} : Lit × DataW H → Nat
  | (.string bytes, d) => bytes.length + uptoBulk d + 1
  | (_, d) => uptoBulk d + 1
 end
def uptoSmall : (H : Type) → List (DataW H) → Bool := fun _ ds => decide (uptoBulkAll ds ≤ 1048576)
def OpenSpec.upto (s : _root_.Go.ChangeSpec) : _root_.Go.OpenSpec := { _root_.Go.OpenSpec.ofChange s with cond := some uptoSmall }

/-- 'scarflaw14.SubSame', WHERE WHAT IT READS IS OF BULK AT MOST 1048576: true; the input reads as it did. -/
def subSameUptoRow : OpenClaim := { program := "ytmpmcffhlnlejaa", sum := "549212bd83bb11606bb592afe12a8dd6a68f8827380fc997643fbfbbc32eae04", func := "scarf/scarflaw14.SubSame", spec := "subSame", unfollowed := true, recurses := true, loops := true, apart := false, narrowed := true }
def SubSameUptoSaid : Prop := subSameUptoRow.holds Try.pinned (OpenSpec.upto subSameSpec)

/-- 'scarflaw14.SubNames', WHERE WHAT IT READS IS OF BULK AT MOST 1048576: true; the input reads as it did. -/
def subNamesUptoRow : OpenClaim := { program := "ytmpmcffhlnlejaa", sum := "549212bd83bb11606bb592afe12a8dd6a68f8827380fc997643fbfbbc32eae04", func := "scarf/scarflaw14.SubNames", spec := "subNames", unfollowed := true, recurses := true, loops := true, apart := false, narrowed := true }
def SubNamesUptoSaid : Prop := subNamesUptoRow.holds Try.pinned (OpenSpec.upto subNamesSpec)

/-- 'scarflaw14.SubSelf', WHERE WHAT IT READS IS OF BULK AT MOST 1048576: true; the input reads as it did. -/
def subSelfUptoRow : OpenClaim := { program := "ytmpmcffhlnlejaa", sum := "549212bd83bb11606bb592afe12a8dd6a68f8827380fc997643fbfbbc32eae04", func := "scarf/scarflaw14.SubSelf", spec := "subSelf", unfollowed := true, recurses := true, loops := true, apart := false, narrowed := true }
def SubSelfUptoSaid : Prop := subSelfUptoRow.holds Try.pinned (OpenSpec.upto subSelfSpec)

/-- 'scarflaw14.SubOver', WHERE WHAT IT READS IS OF BULK AT MOST 1048576: true; the input reads as it did. -/
def subOverUptoRow : OpenClaim := { program := "ytmpmcffhlnlejaa", sum := "549212bd83bb11606bb592afe12a8dd6a68f8827380fc997643fbfbbc32eae04", func := "scarf/scarflaw14.SubOver", spec := "subOver", unfollowed := true, recurses := true, loops := true, apart := false, narrowed := true }
def SubOverUptoSaid : Prop := subOverUptoRow.holds Try.pinned (OpenSpec.upto subOverSpec)

/-- 'scarflaw14.SubLinked', WHERE WHAT IT READS IS OF BULK AT MOST 1048576: true; the input reads as it did. -/
def subLinkedUptoRow : OpenClaim := { program := "ytmpmcffhlnlejaa", sum := "549212bd83bb11606bb592afe12a8dd6a68f8827380fc997643fbfbbc32eae04", func := "scarf/scarflaw14.SubLinked", spec := "subLinked", unfollowed := true, recurses := true, loops := true, apart := false, narrowed := true }
def SubLinkedUptoSaid : Prop := subLinkedUptoRow.holds Try.pinned (OpenSpec.upto subLinkedSpec)

/-- 'scarflaw04.MemWidths', WHERE WHAT IT READS IS OF BULK AT MOST 1048576: true; the input reads as it did. -/
def memWidthsUptoRow : OpenClaim := { program := "ytmpmcffhlnlejaa", sum := "549212bd83bb11606bb592afe12a8dd6a68f8827380fc997643fbfbbc32eae04", func := "scarf/scarflaw04.MemWidths", spec := "memWidths", apart := false, narrowed := true }
def MemWidthsUptoSaid : Prop := memWidthsUptoRow.holds Try.pinned (OpenSpec.upto memWidthsSpec)

/-- 'scarflaw14.SubFits', WHERE WHAT IT READS IS OF BULK AT MOST 1048576: true; the input reads as it did. -/
def subFitsUptoRow : OpenClaim := { program := "ytmpmcffhlnlejaa", sum := "549212bd83bb11606bb592afe12a8dd6a68f8827380fc997643fbfbbc32eae04", func := "scarf/scarflaw14.SubFits", spec := "subFits", unfollowed := true, recurses := true, loops := true, apart := false, narrowed := true }
def SubFitsUptoSaid : Prop := subFitsUptoRow.holds Try.pinned (OpenSpec.upto subFitsSpec)

/-- 'scarflaw04.MemBack', WHERE WHAT IT READS IS OF BULK AT MOST 1048576: true; the input reads as it did. -/
def memBackUptoRow : OpenClaim := { program := "ytmpmcffhlnlejaa", sum := "549212bd83bb11606bb592afe12a8dd6a68f8827380fc997643fbfbbc32eae04", func := "scarf/scarflaw04.MemBack", spec := "memBack", apart := false, narrowed := true }
def MemBackUptoSaid : Prop := memBackUptoRow.holds Try.pinned (OpenSpec.upto memBackSpec)

/-- 'scarflaw04.MemSigns', WHERE WHAT IT READS IS OF BULK AT MOST 1048576: true; the input reads as it did. -/
def memSignsUptoRow : OpenClaim := { program := "ytmpmcffhlnlejaa", sum := "549212bd83bb11606bb592afe12a8dd6a68f8827380fc997643fbfbbc32eae04", func := "scarf/scarflaw04.MemSigns", spec := "memSigns", apart := false, narrowed := true }
def MemSignsUptoSaid : Prop := memSignsUptoRow.holds Try.pinned (OpenSpec.upto memSignsSpec)

/-- 'scarflaw04.MemMoves', WHERE WHAT IT READS IS OF BULK AT MOST 1048576: true; the input reads as it did. -/
def memMovesUptoRow : OpenClaim := { program := "ytmpmcffhlnlejaa", sum := "549212bd83bb11606bb592afe12a8dd6a68f8827380fc997643fbfbbc32eae04", func := "scarf/scarflaw04.MemMoves", spec := "memMoves", apart := false, narrowed := true }
def MemMovesUptoSaid : Prop := memMovesUptoRow.holds Try.pinned (OpenSpec.upto memMovesSpec)

/-- 'scarflaw04.MemPlays', WHERE WHAT IT READS IS OF BULK AT MOST 1048576: true; the input reads as it did. -/
def memPlaysUptoRow : OpenClaim := { program := "ytmpmcffhlnlejaa", sum := "549212bd83bb11606bb592afe12a8dd6a68f8827380fc997643fbfbbc32eae04", func := "scarf/scarflaw04.MemPlays", spec := "memPlays", apart := false, narrowed := true }
def MemPlaysUptoSaid : Prop := memPlaysUptoRow.holds Try.pinned (OpenSpec.upto memPlaysSpec)

/-- 'scarflaw04.MemNone', WHERE WHAT IT READS IS OF BULK AT MOST 1048576: true; the input reads as it did. -/
def memNoneUptoRow : OpenClaim := { program := "ytmpmcffhlnlejaa", sum := "549212bd83bb11606bb592afe12a8dd6a68f8827380fc997643fbfbbc32eae04", func := "scarf/scarflaw04.MemNone", spec := "memNone", apart := false, narrowed := true }
def MemNoneUptoSaid : Prop := memNoneUptoRow.holds Try.pinned (OpenSpec.upto memNoneSpec)

end Rows
end Go.Proofs.Ytmpmcffhlnlejaa
