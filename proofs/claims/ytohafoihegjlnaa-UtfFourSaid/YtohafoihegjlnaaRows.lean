/-
  No cell of these rows narrows 'for every input' (looked for: loops, veiled, ifaces, maps, wideKeys, modest, calm, conditions, laid).
  DERIVED. THE GIVEN ROWS OF THIS SEAT. 16 by the template 'for every input the law returns true; each argument reads behind the call as it read before'; 0 by the template 'total and deterministic' (their statements: YtohafoihegjlnaaTotals.lean).
  GIVEN WITH THE SEED: the statements are not yours to turn. If you find one false, say at which input.
  Laid BY PROGRAM, IN A SANDBOX (cutbox-rows.mjs): the forced cells as the released guide's own fill.sh prints them over the translation 9bab0dbdea114c85… (all of the seat's roots in one cut). By AI agents, Wed Nov 11 2026. No macro, syntax, notation, axiom, sorry.
-/
import Derived.Test.YtohafoihegjlnaaChecked
import GoSem.Claim
import GoSem.ClaimJoined
import GoSem.ClaimMapViews
import Derived.JoinedTies
import Derived.KernelRfl
namespace Go.Proofs.Ytohafoihegjlnaa
/- THE CELL 'sum', in the pinned program and in every row, IS THE sha256 OF THE DUMP (.gsa) THAT YtohafoihegjlnaaProg.lean LOADS. Nothing in Lean hashes anything: it is a label: what it is worth is what the hold of that sum in a sandbox is worth. -/
noncomputable def Try.pinned : Pinned := { name := "ytohafoihegjlnaa", sum := "9bab0dbdea114c85793e630b588069bf3f6c11544da7e62beb97e64c6eb510a1", checked := Try.checked }
namespace Rows
def none {H : Type} : Left H := { results := [], args := [] }

/-- 'rotuluslaw0.Names': WHATEVER THE INPUT: true; the input reads as it did. -/
def namesSpec : ChangeSpec := { name := "names", fn := fun _ => fun
  | [] => { results := [.lit (.bool true)], args := [] }
  | _ => none }
def namesRow : OpenClaim := { program := "ytohafoihegjlnaa", sum := "9bab0dbdea114c85793e630b588069bf3f6c11544da7e62beb97e64c6eb510a1", func := "rotulus/rotuluslaw0.Names", spec := "names", apart := false }
def NamesSaid : Prop := namesRow.holds Try.pinned (OpenSpec.ofChange namesSpec)

/-- ITS FALSE NEIGHBOUR: 'it returns false'. Refute it at one input. -/
def namesWrong : ChangeSpec := { name := "names", fn := fun _ => fun
  | [] => { results := [.lit (.bool false)], args := [] }
  | _ => none }
def NamesWrongFalsely : Prop := namesRow.holds Try.pinned (OpenSpec.ofChange namesWrong)

/-- 'rotuluslaw1.UtfAll': WHATEVER THE INPUT: true; the input reads as it did. -/
def utfAllSpec : ChangeSpec := { name := "utfAll", fn := fun _ => fun
  | [d] => { results := [.lit (.bool true)], args := [d] }
  | _ => none }
def utfAllRow : OpenClaim := { program := "ytohafoihegjlnaa", sum := "9bab0dbdea114c85793e630b588069bf3f6c11544da7e62beb97e64c6eb510a1", func := "rotulus/rotuluslaw1.UtfAll", spec := "utfAll", unfollowed := true, recurses := true, apart := false }
def UtfAllSaid : Prop := utfAllRow.holds Try.pinned (OpenSpec.ofChange utfAllSpec)

/-- ITS FALSE NEIGHBOUR: 'it returns false'. Refute it at one input. -/
def utfAllWrong : ChangeSpec := { name := "utfAll", fn := fun _ => fun
  | [d] => { results := [.lit (.bool false)], args := [d] }
  | _ => none }
def UtfAllWrongFalsely : Prop := utfAllRow.holds Try.pinned (OpenSpec.ofChange utfAllWrong)

/-- 'rotuluslaw1.UtfWrite': WHATEVER THE INPUT: true; the input reads as it did. -/
def utfWriteSpec : ChangeSpec := { name := "utfWrite", fn := fun _ => fun
  | [d] => { results := [.lit (.bool true)], args := [d] }
  | _ => none }
def utfWriteRow : OpenClaim := { program := "ytohafoihegjlnaa", sum := "9bab0dbdea114c85793e630b588069bf3f6c11544da7e62beb97e64c6eb510a1", func := "rotulus/rotuluslaw1.UtfWrite", spec := "utfWrite", unfollowed := true, recurses := true, apart := false }
def UtfWriteSaid : Prop := utfWriteRow.holds Try.pinned (OpenSpec.ofChange utfWriteSpec)

/-- ITS FALSE NEIGHBOUR: 'it returns false'. Refute it at one input. -/
def utfWriteWrong : ChangeSpec := { name := "utfWrite", fn := fun _ => fun
  | [d] => { results := [.lit (.bool false)], args := [d] }
  | _ => none }
def UtfWriteWrongFalsely : Prop := utfWriteRow.holds Try.pinned (OpenSpec.ofChange utfWriteWrong)

/-- 'rotuluslaw1.UtfParts': WHATEVER THE INPUT: true; the input reads as it did. -/
def utfPartsSpec : ChangeSpec := { name := "utfParts", fn := fun _ => fun
  | [d1, d2] => { results := [.lit (.bool true)], args := [d1, d2] }
  | _ => none }
def utfPartsRow : OpenClaim := { program := "ytohafoihegjlnaa", sum := "9bab0dbdea114c85793e630b588069bf3f6c11544da7e62beb97e64c6eb510a1", func := "rotulus/rotuluslaw1.UtfParts", spec := "utfParts", unfollowed := true, recurses := true, apart := false }
def UtfPartsSaid : Prop := utfPartsRow.holds Try.pinned (OpenSpec.ofChange utfPartsSpec)

/-- ITS FALSE NEIGHBOUR: 'it returns false'. Refute it at one input. -/
def utfPartsWrong : ChangeSpec := { name := "utfParts", fn := fun _ => fun
  | [d1, d2] => { results := [.lit (.bool false)], args := [d1, d2] }
  | _ => none }
def UtfPartsWrongFalsely : Prop := utfPartsRow.holds Try.pinned (OpenSpec.ofChange utfPartsWrong)

/-- 'rotuluslaw1.UtfOne': WHATEVER THE INPUT: true; the input reads as it did. -/
def utfOneSpec : ChangeSpec := { name := "utfOne", fn := fun _ => fun
  | [d1, d2, d3, d4] => { results := [.lit (.bool true)], args := [d1, d2, d3, d4] }
  | _ => none }
def utfOneRow : OpenClaim := { program := "ytohafoihegjlnaa", sum := "9bab0dbdea114c85793e630b588069bf3f6c11544da7e62beb97e64c6eb510a1", func := "rotulus/rotuluslaw1.UtfOne", spec := "utfOne", unfollowed := true, recurses := true, apart := false }
def UtfOneSaid : Prop := utfOneRow.holds Try.pinned (OpenSpec.ofChange utfOneSpec)

/-- ITS FALSE NEIGHBOUR: 'it returns false'. Refute it at one input. -/
def utfOneWrong : ChangeSpec := { name := "utfOne", fn := fun _ => fun
  | [d1, d2, d3, d4] => { results := [.lit (.bool false)], args := [d1, d2, d3, d4] }
  | _ => none }
def UtfOneWrongFalsely : Prop := utfOneRow.holds Try.pinned (OpenSpec.ofChange utfOneWrong)

/-- 'rotuluslaw1.WidthEdges': WHATEVER THE INPUT: true; the input reads as it did. -/
def widthEdgesSpec : ChangeSpec := { name := "widthEdges", fn := fun _ => fun
  | [d1, d2] => { results := [.lit (.bool true)], args := [d1, d2] }
  | _ => none }
def widthEdgesRow : OpenClaim := { program := "ytohafoihegjlnaa", sum := "9bab0dbdea114c85793e630b588069bf3f6c11544da7e62beb97e64c6eb510a1", func := "rotulus/rotuluslaw1.WidthEdges", spec := "widthEdges", unfollowed := true, recurses := true, apart := false }
def WidthEdgesSaid : Prop := widthEdgesRow.holds Try.pinned (OpenSpec.ofChange widthEdgesSpec)

/-- ITS FALSE NEIGHBOUR: 'it returns false'. Refute it at one input. -/
def widthEdgesWrong : ChangeSpec := { name := "widthEdges", fn := fun _ => fun
  | [d1, d2] => { results := [.lit (.bool false)], args := [d1, d2] }
  | _ => none }
def WidthEdgesWrongFalsely : Prop := widthEdgesRow.holds Try.pinned (OpenSpec.ofChange widthEdgesWrong)

/-- 'rotuluslaw1.CellOwn': WHATEVER THE INPUT: true; the input reads as it did. -/
def cellOwnSpec : ChangeSpec := { name := "cellOwn", fn := fun _ => fun
  | [d] => { results := [.lit (.bool true)], args := [d] }
  | _ => none }
def cellOwnRow : OpenClaim := { program := "ytohafoihegjlnaa", sum := "9bab0dbdea114c85793e630b588069bf3f6c11544da7e62beb97e64c6eb510a1", func := "rotulus/rotuluslaw1.CellOwn", spec := "cellOwn", unfollowed := true, recurses := true, apart := false }
def CellOwnSaid : Prop := cellOwnRow.holds Try.pinned (OpenSpec.ofChange cellOwnSpec)

/-- ITS FALSE NEIGHBOUR: 'it returns false'. Refute it at one input. -/
def cellOwnWrong : ChangeSpec := { name := "cellOwn", fn := fun _ => fun
  | [d] => { results := [.lit (.bool false)], args := [d] }
  | _ => none }
def CellOwnWrongFalsely : Prop := cellOwnRow.holds Try.pinned (OpenSpec.ofChange cellOwnWrong)

/-- 'rotuluslaw1.CellText': WHATEVER THE INPUT: true; the input reads as it did. -/
def cellTextSpec : ChangeSpec := { name := "cellText", fn := fun _ => fun
  | [d1, d2] => { results := [.lit (.bool true)], args := [d1, d2] }
  | _ => none }
def cellTextRow : OpenClaim := { program := "ytohafoihegjlnaa", sum := "9bab0dbdea114c85793e630b588069bf3f6c11544da7e62beb97e64c6eb510a1", func := "rotulus/rotuluslaw1.CellText", spec := "cellText", unfollowed := true, recurses := true, apart := false }
def CellTextSaid : Prop := cellTextRow.holds Try.pinned (OpenSpec.ofChange cellTextSpec)

/-- ITS FALSE NEIGHBOUR: 'it returns false'. Refute it at one input. -/
def cellTextWrong : ChangeSpec := { name := "cellText", fn := fun _ => fun
  | [d1, d2] => { results := [.lit (.bool false)], args := [d1, d2] }
  | _ => none }
def CellTextWrongFalsely : Prop := cellTextRow.holds Try.pinned (OpenSpec.ofChange cellTextWrong)

/-- 'rotuluslaw1.UtfRaw': WHATEVER THE INPUT: true; the input reads as it did. -/
def utfRawSpec : ChangeSpec := { name := "utfRaw", fn := fun _ => fun
  | [d1, d2, d3] => { results := [.lit (.bool true)], args := [d1, d2, d3] }
  | _ => none }
def utfRawRow : OpenClaim := { program := "ytohafoihegjlnaa", sum := "9bab0dbdea114c85793e630b588069bf3f6c11544da7e62beb97e64c6eb510a1", func := "rotulus/rotuluslaw1.UtfRaw", spec := "utfRaw", unfollowed := true, recurses := true, apart := false }
def UtfRawSaid : Prop := utfRawRow.holds Try.pinned (OpenSpec.ofChange utfRawSpec)

/-- ITS FALSE NEIGHBOUR: 'it returns false'. Refute it at one input. -/
def utfRawWrong : ChangeSpec := { name := "utfRaw", fn := fun _ => fun
  | [d1, d2, d3] => { results := [.lit (.bool false)], args := [d1, d2, d3] }
  | _ => none }
def UtfRawWrongFalsely : Prop := utfRawRow.holds Try.pinned (OpenSpec.ofChange utfRawWrong)

/-- 'rotuluslaw1.UtfFour': WHATEVER THE INPUT: true; the input reads as it did. -/
def utfFourSpec : ChangeSpec := { name := "utfFour", fn := fun _ => fun
  | [d1, d2, d3] => { results := [.lit (.bool true)], args := [d1, d2, d3] }
  | _ => none }
def utfFourRow : OpenClaim := { program := "ytohafoihegjlnaa", sum := "9bab0dbdea114c85793e630b588069bf3f6c11544da7e62beb97e64c6eb510a1", func := "rotulus/rotuluslaw1.UtfFour", spec := "utfFour", unfollowed := true, recurses := true, apart := false }
def UtfFourSaid : Prop := utfFourRow.holds Try.pinned (OpenSpec.ofChange utfFourSpec)

/-- ITS FALSE NEIGHBOUR: 'it returns false'. Refute it at one input. -/
def utfFourWrong : ChangeSpec := { name := "utfFour", fn := fun _ => fun
  | [d1, d2, d3] => { results := [.lit (.bool false)], args := [d1, d2, d3] }
  | _ => none }
def UtfFourWrongFalsely : Prop := utfFourRow.holds Try.pinned (OpenSpec.ofChange utfFourWrong)

/-- 'rotuluslaw1.UtfSplit': WHATEVER THE INPUT: true; the input reads as it did. -/
def utfSplitSpec : ChangeSpec := { name := "utfSplit", fn := fun _ => fun
  | [d1, d2] => { results := [.lit (.bool true)], args := [d1, d2] }
  | _ => none }
def utfSplitRow : OpenClaim := { program := "ytohafoihegjlnaa", sum := "9bab0dbdea114c85793e630b588069bf3f6c11544da7e62beb97e64c6eb510a1", func := "rotulus/rotuluslaw1.UtfSplit", spec := "utfSplit", unfollowed := true, recurses := true, apart := false }
def UtfSplitSaid : Prop := utfSplitRow.holds Try.pinned (OpenSpec.ofChange utfSplitSpec)

/-- ITS FALSE NEIGHBOUR: 'it returns false'. Refute it at one input. -/
def utfSplitWrong : ChangeSpec := { name := "utfSplit", fn := fun _ => fun
  | [d1, d2] => { results := [.lit (.bool false)], args := [d1, d2] }
  | _ => none }
def UtfSplitWrongFalsely : Prop := utfSplitRow.holds Try.pinned (OpenSpec.ofChange utfSplitWrong)

/-- 'rotuluslaw1.CellWide': WHATEVER THE INPUT: true; the input reads as it did. -/
def cellWideSpec : ChangeSpec := { name := "cellWide", fn := fun _ => fun
  | [d1, d2] => { results := [.lit (.bool true)], args := [d1, d2] }
  | _ => none }
def cellWideRow : OpenClaim := { program := "ytohafoihegjlnaa", sum := "9bab0dbdea114c85793e630b588069bf3f6c11544da7e62beb97e64c6eb510a1", func := "rotulus/rotuluslaw1.CellWide", spec := "cellWide", unfollowed := true, recurses := true, apart := false }
def CellWideSaid : Prop := cellWideRow.holds Try.pinned (OpenSpec.ofChange cellWideSpec)

/-- ITS FALSE NEIGHBOUR: 'it returns false'. Refute it at one input. -/
def cellWideWrong : ChangeSpec := { name := "cellWide", fn := fun _ => fun
  | [d1, d2] => { results := [.lit (.bool false)], args := [d1, d2] }
  | _ => none }
def CellWideWrongFalsely : Prop := cellWideRow.holds Try.pinned (OpenSpec.ofChange cellWideWrong)

/-- 'rotuluslaw1.CellTrim': WHATEVER THE INPUT: true; the input reads as it did. -/
def cellTrimSpec : ChangeSpec := { name := "cellTrim", fn := fun _ => fun
  | [d] => { results := [.lit (.bool true)], args := [d] }
  | _ => none }
def cellTrimRow : OpenClaim := { program := "ytohafoihegjlnaa", sum := "9bab0dbdea114c85793e630b588069bf3f6c11544da7e62beb97e64c6eb510a1", func := "rotulus/rotuluslaw1.CellTrim", spec := "cellTrim", unfollowed := true, recurses := true, apart := false }
def CellTrimSaid : Prop := cellTrimRow.holds Try.pinned (OpenSpec.ofChange cellTrimSpec)

/-- ITS FALSE NEIGHBOUR: 'it returns false'. Refute it at one input. -/
def cellTrimWrong : ChangeSpec := { name := "cellTrim", fn := fun _ => fun
  | [d] => { results := [.lit (.bool false)], args := [d] }
  | _ => none }
def CellTrimWrongFalsely : Prop := cellTrimRow.holds Try.pinned (OpenSpec.ofChange cellTrimWrong)

/-- 'rotuluslaw1.WidthAll': WHATEVER THE INPUT: true; the input reads as it did. -/
def widthAllSpec : ChangeSpec := { name := "widthAll", fn := fun _ => fun
  | [d1, d2] => { results := [.lit (.bool true)], args := [d1, d2] }
  | _ => none }
def widthAllRow : OpenClaim := { program := "ytohafoihegjlnaa", sum := "9bab0dbdea114c85793e630b588069bf3f6c11544da7e62beb97e64c6eb510a1", func := "rotulus/rotuluslaw1.WidthAll", spec := "widthAll", unfollowed := true, recurses := true, apart := false }
def WidthAllSaid : Prop := widthAllRow.holds Try.pinned (OpenSpec.ofChange widthAllSpec)

/-- ITS FALSE NEIGHBOUR: 'it returns false'. Refute it at one input. -/
def widthAllWrong : ChangeSpec := { name := "widthAll", fn := fun _ => fun
  | [d1, d2] => { results := [.lit (.bool false)], args := [d1, d2] }
  | _ => none }
def WidthAllWrongFalsely : Prop := widthAllRow.holds Try.pinned (OpenSpec.ofChange widthAllWrong)

/-- 'rotuluslaw1.UtfNone': WHATEVER THE INPUT: true; the input reads as it did. -/
def utfNoneSpec : ChangeSpec := { name := "utfNone", fn := fun _ => fun
  | [] => { results := [.lit (.bool true)], args := [] }
  | _ => none }
def utfNoneRow : OpenClaim := { program := "ytohafoihegjlnaa", sum := "9bab0dbdea114c85793e630b588069bf3f6c11544da7e62beb97e64c6eb510a1", func := "rotulus/rotuluslaw1.UtfNone", spec := "utfNone", unfollowed := true, recurses := true, apart := false }
def UtfNoneSaid : Prop := utfNoneRow.holds Try.pinned (OpenSpec.ofChange utfNoneSpec)

/-- ITS FALSE NEIGHBOUR: 'it returns false'. Refute it at one input. -/
def utfNoneWrong : ChangeSpec := { name := "utfNone", fn := fun _ => fun
  | [] => { results := [.lit (.bool false)], args := [] }
  | _ => none }
def UtfNoneWrongFalsely : Prop := utfNoneRow.holds Try.pinned (OpenSpec.ofChange utfNoneWrong)

/-- 'rotuluslaw1.WidthText': WHATEVER THE INPUT: true; the input reads as it did. -/
def widthTextSpec : ChangeSpec := { name := "widthText", fn := fun _ => fun
  | [d1, d2] => { results := [.lit (.bool true)], args := [d1, d2] }
  | _ => none }
def widthTextRow : OpenClaim := { program := "ytohafoihegjlnaa", sum := "9bab0dbdea114c85793e630b588069bf3f6c11544da7e62beb97e64c6eb510a1", func := "rotulus/rotuluslaw1.WidthText", spec := "widthText", unfollowed := true, recurses := true, apart := false }
def WidthTextSaid : Prop := widthTextRow.holds Try.pinned (OpenSpec.ofChange widthTextSpec)

/-- ITS FALSE NEIGHBOUR: 'it returns false'. Refute it at one input. -/
def widthTextWrong : ChangeSpec := { name := "widthText", fn := fun _ => fun
  | [d1, d2] => { results := [.lit (.bool false)], args := [d1, d2] }
  | _ => none }
def WidthTextWrongFalsely : Prop := widthTextRow.holds Try.pinned (OpenSpec.ofChange widthTextWrong)

/- THE SECOND FORM. 'bulk': how many values and letters a reading holds, each counted each time it is reached (what is shared counts as often as it is met; a slice's spare places count too). A statement '..UptoSaid' is the law's where the arguments, and the package variables that the reading takes, are together of bulk at most 1048576: NARROWER than '..Said'. Prove '..Said' where nothing that the law and all that it calls make is longer than what came in: it says more and counts as full. Else prove '..UptoSaid'. A law counts once. -/
mutual
def uptoBulk {H : Type} : DataW H → Nat
  | .lit (.string bytes) => bytes.length + 1
  | .lit _ => 1
  | .nil => 1
  | .ptr d => uptoBulk d + 1
  | .slice elems spare => uptoBulkAll elems + uptoBulkAll spare + 1
  | .agg parts => uptoBulkAll parts + 1
  | .iface _ d => uptoBulk d + 1
  | .map entries => uptoBulkEntries entries + 1
  | .held _ => 1
def uptoBulkAll {H : Type} : List (DataW H) → Nat
  | [] => 0
  | d :: r => uptoBulk d + uptoBulkAll r
def uptoBulkEntries {H : Type} : List (Lit × DataW H) → Nat
  | [] => 0
  | x :: r => uptoBulkEntry x + uptoBulkEntries r
def uptoBulkEntry {H : Type} : Lit × DataW H → Nat
  | (.string bytes, d) => bytes.length + uptoBulk d + 1
  | (_, d) => uptoBulk d + 1
 end
def uptoSmall : (H : Type) → List (DataW H) → Bool := fun _ ds => decide (uptoBulkAll ds ≤ 1048576)
def OpenSpec.upto (s : _root_.Go.ChangeSpec) : _root_.Go.OpenSpec := { _root_.Go.OpenSpec.ofChange s with cond := some uptoSmall }

/-- 'rotuluslaw0.Names', WHERE WHAT IT READS IS OF BULK AT MOST 1048576: true; the input reads as it did. -/
def namesUptoRow : OpenClaim := { program := "ytohafoihegjlnaa", sum := "9bab0dbdea114c85793e630b588069bf3f6c11544da7e62beb97e64c6eb510a1", func := "rotulus/rotuluslaw0.Names", spec := "names", apart := false, narrowed := true }
def NamesUptoSaid : Prop := namesUptoRow.holds Try.pinned (OpenSpec.upto namesSpec)

/-- 'rotuluslaw1.UtfAll', WHERE WHAT IT READS IS OF BULK AT MOST 1048576: true; the input reads as it did. -/
def utfAllUptoRow : OpenClaim := { program := "ytohafoihegjlnaa", sum := "9bab0dbdea114c85793e630b588069bf3f6c11544da7e62beb97e64c6eb510a1", func := "rotulus/rotuluslaw1.UtfAll", spec := "utfAll", unfollowed := true, recurses := true, apart := false, narrowed := true }
def UtfAllUptoSaid : Prop := utfAllUptoRow.holds Try.pinned (OpenSpec.upto utfAllSpec)

/-- 'rotuluslaw1.UtfWrite', WHERE WHAT IT READS IS OF BULK AT MOST 1048576: true; the input reads as it did. -/
def utfWriteUptoRow : OpenClaim := { program := "ytohafoihegjlnaa", sum := "9bab0dbdea114c85793e630b588069bf3f6c11544da7e62beb97e64c6eb510a1", func := "rotulus/rotuluslaw1.UtfWrite", spec := "utfWrite", unfollowed := true, recurses := true, apart := false, narrowed := true }
def UtfWriteUptoSaid : Prop := utfWriteUptoRow.holds Try.pinned (OpenSpec.upto utfWriteSpec)

/-- 'rotuluslaw1.UtfParts', WHERE WHAT IT READS IS OF BULK AT MOST 1048576: true; the input reads as it did. -/
def utfPartsUptoRow : OpenClaim := { program := "ytohafoihegjlnaa", sum := "9bab0dbdea114c85793e630b588069bf3f6c11544da7e62beb97e64c6eb510a1", func := "rotulus/rotuluslaw1.UtfParts", spec := "utfParts", unfollowed := true, recurses := true, apart := false, narrowed := true }
def UtfPartsUptoSaid : Prop := utfPartsUptoRow.holds Try.pinned (OpenSpec.upto utfPartsSpec)

/-- 'rotuluslaw1.UtfOne', WHERE WHAT IT READS IS OF BULK AT MOST 1048576: true; the input reads as it did. -/
def utfOneUptoRow : OpenClaim := { program := "ytohafoihegjlnaa", sum := "9bab0dbdea114c85793e630b588069bf3f6c11544da7e62beb97e64c6eb510a1", func := "rotulus/rotuluslaw1.UtfOne", spec := "utfOne", unfollowed := true, recurses := true, apart := false, narrowed := true }
def UtfOneUptoSaid : Prop := utfOneUptoRow.holds Try.pinned (OpenSpec.upto utfOneSpec)

/-- 'rotuluslaw1.WidthEdges', WHERE WHAT IT READS IS OF BULK AT MOST 1048576: true; the input reads as it did. -/
def widthEdgesUptoRow : OpenClaim := { program := "ytohafoihegjlnaa", sum := "9bab0dbdea114c85793e630b588069bf3f6c11544da7e62beb97e64c6eb510a1", func := "rotulus/rotuluslaw1.WidthEdges", spec := "widthEdges", unfollowed := true, recurses := true, apart := false, narrowed := true }
def WidthEdgesUptoSaid : Prop := widthEdgesUptoRow.holds Try.pinned (OpenSpec.upto widthEdgesSpec)

/-- 'rotuluslaw1.CellOwn', WHERE WHAT IT READS IS OF BULK AT MOST 1048576: true; the input reads as it did. -/
def cellOwnUptoRow : OpenClaim := { program := "ytohafoihegjlnaa", sum := "9bab0dbdea114c85793e630b588069bf3f6c11544da7e62beb97e64c6eb510a1", func := "rotulus/rotuluslaw1.CellOwn", spec := "cellOwn", unfollowed := true, recurses := true, apart := false, narrowed := true }
def CellOwnUptoSaid : Prop := cellOwnUptoRow.holds Try.pinned (OpenSpec.upto cellOwnSpec)

/-- 'rotuluslaw1.CellText', WHERE WHAT IT READS IS OF BULK AT MOST 1048576: true; the input reads as it did. -/
def cellTextUptoRow : OpenClaim := { program := "ytohafoihegjlnaa", sum := "9bab0dbdea114c85793e630b588069bf3f6c11544da7e62beb97e64c6eb510a1", func := "rotulus/rotuluslaw1.CellText", spec := "cellText", unfollowed := true, recurses := true, apart := false, narrowed := true }
def CellTextUptoSaid : Prop := cellTextUptoRow.holds Try.pinned (OpenSpec.upto cellTextSpec)

/-- 'rotuluslaw1.UtfRaw', WHERE WHAT IT READS IS OF BULK AT MOST 1048576: true; the input reads as it did. -/
def utfRawUptoRow : OpenClaim := { program := "ytohafoihegjlnaa", sum := "9bab0dbdea114c85793e630b588069bf3f6c11544da7e62beb97e64c6eb510a1", func := "rotulus/rotuluslaw1.UtfRaw", spec := "utfRaw", unfollowed := true, recurses := true, apart := false, narrowed := true }
def UtfRawUptoSaid : Prop := utfRawUptoRow.holds Try.pinned (OpenSpec.upto utfRawSpec)

/-- 'rotuluslaw1.UtfFour', WHERE WHAT IT READS IS OF BULK AT MOST 1048576: true; the input reads as it did. -/
def utfFourUptoRow : OpenClaim := { program := "ytohafoihegjlnaa", sum := "9bab0dbdea114c85793e630b588069bf3f6c11544da7e62beb97e64c6eb510a1", func := "rotulus/rotuluslaw1.UtfFour", spec := "utfFour", unfollowed := true, recurses := true, apart := false, narrowed := true }
def UtfFourUptoSaid : Prop := utfFourUptoRow.holds Try.pinned (OpenSpec.upto utfFourSpec)

/-- 'rotuluslaw1.UtfSplit', WHERE WHAT IT READS IS OF BULK AT MOST 1048576: true; the input reads as it did. -/
def utfSplitUptoRow : OpenClaim := { program := "ytohafoihegjlnaa", sum := "9bab0dbdea114c85793e630b588069bf3f6c11544da7e62beb97e64c6eb510a1", func := "rotulus/rotuluslaw1.UtfSplit", spec := "utfSplit", unfollowed := true, recurses := true, apart := false, narrowed := true }
def UtfSplitUptoSaid : Prop := utfSplitUptoRow.holds Try.pinned (OpenSpec.upto utfSplitSpec)

/-- 'rotuluslaw1.CellWide', WHERE WHAT IT READS IS OF BULK AT MOST 1048576: true; the input reads as it did. -/
def cellWideUptoRow : OpenClaim := { program := "ytohafoihegjlnaa", sum := "9bab0dbdea114c85793e630b588069bf3f6c11544da7e62beb97e64c6eb510a1", func := "rotulus/rotuluslaw1.CellWide", spec := "cellWide", unfollowed := true, recurses := true, apart := false, narrowed := true }
def CellWideUptoSaid : Prop := cellWideUptoRow.holds Try.pinned (OpenSpec.upto cellWideSpec)

/-- 'rotuluslaw1.CellTrim', WHERE WHAT IT READS IS OF BULK AT MOST 1048576: true; the input reads as it did. -/
def cellTrimUptoRow : OpenClaim := { program := "ytohafoihegjlnaa", sum := "9bab0dbdea114c85793e630b588069bf3f6c11544da7e62beb97e64c6eb510a1", func := "rotulus/rotuluslaw1.CellTrim", spec := "cellTrim", unfollowed := true, recurses := true, apart := false, narrowed := true }
def CellTrimUptoSaid : Prop := cellTrimUptoRow.holds Try.pinned (OpenSpec.upto cellTrimSpec)

/-- 'rotuluslaw1.WidthAll', WHERE WHAT IT READS IS OF BULK AT MOST 1048576: true; the input reads as it did. -/
def widthAllUptoRow : OpenClaim := { program := "ytohafoihegjlnaa", sum := "9bab0dbdea114c85793e630b588069bf3f6c11544da7e62beb97e64c6eb510a1", func := "rotulus/rotuluslaw1.WidthAll", spec := "widthAll", unfollowed := true, recurses := true, apart := false, narrowed := true }
def WidthAllUptoSaid : Prop := widthAllUptoRow.holds Try.pinned (OpenSpec.upto widthAllSpec)

/-- 'rotuluslaw1.UtfNone', WHERE WHAT IT READS IS OF BULK AT MOST 1048576: true; the input reads as it did. -/
def utfNoneUptoRow : OpenClaim := { program := "ytohafoihegjlnaa", sum := "9bab0dbdea114c85793e630b588069bf3f6c11544da7e62beb97e64c6eb510a1", func := "rotulus/rotuluslaw1.UtfNone", spec := "utfNone", unfollowed := true, recurses := true, apart := false, narrowed := true }
def UtfNoneUptoSaid : Prop := utfNoneUptoRow.holds Try.pinned (OpenSpec.upto utfNoneSpec)

/-- 'rotuluslaw1.WidthText', WHERE WHAT IT READS IS OF BULK AT MOST 1048576: true; the input reads as it did. -/
def widthTextUptoRow : OpenClaim := { program := "ytohafoihegjlnaa", sum := "9bab0dbdea114c85793e630b588069bf3f6c11544da7e62beb97e64c6eb510a1", func := "rotulus/rotuluslaw1.WidthText", spec := "widthText", unfollowed := true, recurses := true, apart := false, narrowed := true }
def WidthTextUptoSaid : Prop := widthTextUptoRow.holds Try.pinned (OpenSpec.upto widthTextSpec)

end Rows
end Go.Proofs.Ytohafoihegjlnaa
