/-
  No cell of these rows narrows 'for every input' (looked for: loops, veiled, ifaces, maps, wideKeys, modest, calm, conditions, laid).
  DERIVED. THE GIVEN ROWS OF THIS SEAT. 15 by the template 'for every input the law returns true; each argument reads behind the call as it read before'; 0 by the template 'total and deterministic' (their statements: YtkigdcihhlkkdaaTotals.lean).
  GIVEN WITH THE SEED: the statements are not yours to turn. If you find one false, say at which input.
  Laid BY PROGRAM, IN A SANDBOX (cutbox-rows.mjs): the forced cells as the released guide's own fill.sh prints them over the translation b4133ea8dd0de2bc… (all of the seat's roots in one cut). By AI agents, Wed Nov 11 2026. No macro, syntax, notation, axiom, sorry.
-/
import Derived.Test.YtkigdcihhlkkdaaChecked
import GoSem.Claim
import GoSem.ClaimJoined
import GoSem.ClaimMapViews
import Derived.JoinedTies
import Derived.KernelRfl
namespace Go.Proofs.Ytkigdcihhlkkdaa
/- THE CELL 'sum', in the pinned program and in every row, IS THE sha256 OF THE DUMP (.gsa) THAT YtkigdcihhlkkdaaProg.lean LOADS. Nothing in Lean hashes anything: it is a label: what it is worth is what the hold of that sum in a sandbox is worth. -/
noncomputable def Try.pinned : Pinned := { name := "ytkigdcihhlkkdaa", sum := "b4133ea8dd0de2bc3d524731bba50485e1fc5dc252464c416ccb74c60c6852eb", checked := Try.checked }
namespace Rows
def none {H : Type} : Left H := { results := [], args := [] }

/-- 'rotuluslaw4.PackUint': WHATEVER THE INPUT: true; the input reads as it did. -/
def packUintSpec : ChangeSpec := { name := "packUint", fn := fun _ => fun
  | [d1, d2] => { results := [.lit (.bool true)], args := [d1, d2] }
  | _ => none }
def packUintRow : OpenClaim := { program := "ytkigdcihhlkkdaa", sum := "b4133ea8dd0de2bc3d524731bba50485e1fc5dc252464c416ccb74c60c6852eb", func := "rotulus/rotuluslaw4.PackUint", spec := "packUint", unfollowed := true, recurses := true, apart := false }
def PackUintSaid : Prop := packUintRow.holds Try.pinned (OpenSpec.ofChange packUintSpec)

/-- ITS FALSE NEIGHBOUR: 'it returns false'. Refute it at one input. -/
def packUintWrong : ChangeSpec := { name := "packUint", fn := fun _ => fun
  | [d1, d2] => { results := [.lit (.bool false)], args := [d1, d2] }
  | _ => none }
def PackUintWrongFalsely : Prop := packUintRow.holds Try.pinned (OpenSpec.ofChange packUintWrong)

/-- 'rotuluslaw4.PackAll': WHATEVER THE INPUT: true; the input reads as it did. -/
def packAllSpec : ChangeSpec := { name := "packAll", fn := fun _ => fun
  | [d1, d2, d3] => { results := [.lit (.bool true)], args := [d1, d2, d3] }
  | _ => none }
def packAllRow : OpenClaim := { program := "ytkigdcihhlkkdaa", sum := "b4133ea8dd0de2bc3d524731bba50485e1fc5dc252464c416ccb74c60c6852eb", func := "rotulus/rotuluslaw4.PackAll", spec := "packAll", unfollowed := true, recurses := true, apart := false }
def PackAllSaid : Prop := packAllRow.holds Try.pinned (OpenSpec.ofChange packAllSpec)

/-- ITS FALSE NEIGHBOUR: 'it returns false'. Refute it at one input. -/
def packAllWrong : ChangeSpec := { name := "packAll", fn := fun _ => fun
  | [d1, d2, d3] => { results := [.lit (.bool false)], args := [d1, d2, d3] }
  | _ => none }
def PackAllWrongFalsely : Prop := packAllRow.holds Try.pinned (OpenSpec.ofChange packAllWrong)

/-- 'rotuluslaw4.PackAny': WHATEVER THE INPUT: true; the input reads as it did. -/
def packAnySpec : ChangeSpec := { name := "packAny", fn := fun _ => fun
  | [d1, d2, d3, d4] => { results := [.lit (.bool true)], args := [d1, d2, d3, d4] }
  | _ => none }
def packAnyRow : OpenClaim := { program := "ytkigdcihhlkkdaa", sum := "b4133ea8dd0de2bc3d524731bba50485e1fc5dc252464c416ccb74c60c6852eb", func := "rotulus/rotuluslaw4.PackAny", spec := "packAny", unfollowed := true, recurses := true, apart := false }
def PackAnySaid : Prop := packAnyRow.holds Try.pinned (OpenSpec.ofChange packAnySpec)

/-- ITS FALSE NEIGHBOUR: 'it returns false'. Refute it at one input. -/
def packAnyWrong : ChangeSpec := { name := "packAny", fn := fun _ => fun
  | [d1, d2, d3, d4] => { results := [.lit (.bool false)], args := [d1, d2, d3, d4] }
  | _ => none }
def PackAnyWrongFalsely : Prop := packAnyRow.holds Try.pinned (OpenSpec.ofChange packAnyWrong)

/-- 'rotuluslaw4.PackShort': WHATEVER THE INPUT: true; the input reads as it did. -/
def packShortSpec : ChangeSpec := { name := "packShort", fn := fun _ => fun
  | [d1, d2, d3] => { results := [.lit (.bool true)], args := [d1, d2, d3] }
  | _ => none }
def packShortRow : OpenClaim := { program := "ytkigdcihhlkkdaa", sum := "b4133ea8dd0de2bc3d524731bba50485e1fc5dc252464c416ccb74c60c6852eb", func := "rotulus/rotuluslaw4.PackShort", spec := "packShort", unfollowed := true, recurses := true, apart := false }
def PackShortSaid : Prop := packShortRow.holds Try.pinned (OpenSpec.ofChange packShortSpec)

/-- ITS FALSE NEIGHBOUR: 'it returns false'. Refute it at one input. -/
def packShortWrong : ChangeSpec := { name := "packShort", fn := fun _ => fun
  | [d1, d2, d3] => { results := [.lit (.bool false)], args := [d1, d2, d3] }
  | _ => none }
def PackShortWrongFalsely : Prop := packShortRow.holds Try.pinned (OpenSpec.ofChange packShortWrong)

/-- 'rotuluslaw4.PageAll': WHATEVER THE INPUT: true; the input reads as it did. -/
def pageAllSpec : ChangeSpec := { name := "pageAll", fn := fun _ => fun
  | [d1, d2] => { results := [.lit (.bool true)], args := [d1, d2] }
  | _ => none }
def pageAllRow : OpenClaim := { program := "ytkigdcihhlkkdaa", sum := "b4133ea8dd0de2bc3d524731bba50485e1fc5dc252464c416ccb74c60c6852eb", func := "rotulus/rotuluslaw4.PageAll", spec := "pageAll", unfollowed := true, recurses := true, apart := false }
def PageAllSaid : Prop := pageAllRow.holds Try.pinned (OpenSpec.ofChange pageAllSpec)

/-- ITS FALSE NEIGHBOUR: 'it returns false'. Refute it at one input. -/
def pageAllWrong : ChangeSpec := { name := "pageAll", fn := fun _ => fun
  | [d1, d2] => { results := [.lit (.bool false)], args := [d1, d2] }
  | _ => none }
def PageAllWrongFalsely : Prop := pageAllRow.holds Try.pinned (OpenSpec.ofChange pageAllWrong)

/-- 'rotuluslaw4.StoreEnds': WHATEVER THE INPUT: true; the input reads as it did. -/
def storeEndsSpec : ChangeSpec := { name := "storeEnds", fn := fun _ => fun
  | [d1, d2] => { results := [.lit (.bool true)], args := [d1, d2] }
  | _ => none }
def storeEndsRow : OpenClaim := { program := "ytkigdcihhlkkdaa", sum := "b4133ea8dd0de2bc3d524731bba50485e1fc5dc252464c416ccb74c60c6852eb", func := "rotulus/rotuluslaw4.StoreEnds", spec := "storeEnds", unfollowed := true, recurses := true, apart := false }
def StoreEndsSaid : Prop := storeEndsRow.holds Try.pinned (OpenSpec.ofChange storeEndsSpec)

/-- ITS FALSE NEIGHBOUR: 'it returns false'. Refute it at one input. -/
def storeEndsWrong : ChangeSpec := { name := "storeEnds", fn := fun _ => fun
  | [d1, d2] => { results := [.lit (.bool false)], args := [d1, d2] }
  | _ => none }
def StoreEndsWrongFalsely : Prop := storeEndsRow.holds Try.pinned (OpenSpec.ofChange storeEndsWrong)

/-- 'rotuluslaw4.StoreOwn': WHATEVER THE INPUT: true; the input reads as it did. -/
def storeOwnSpec : ChangeSpec := { name := "storeOwn", fn := fun _ => fun
  | [d] => { results := [.lit (.bool true)], args := [d] }
  | _ => none }
def storeOwnRow : OpenClaim := { program := "ytkigdcihhlkkdaa", sum := "b4133ea8dd0de2bc3d524731bba50485e1fc5dc252464c416ccb74c60c6852eb", func := "rotulus/rotuluslaw4.StoreOwn", spec := "storeOwn", unfollowed := true, recurses := true, apart := false }
def StoreOwnSaid : Prop := storeOwnRow.holds Try.pinned (OpenSpec.ofChange storeOwnSpec)

/-- ITS FALSE NEIGHBOUR: 'it returns false'. Refute it at one input. -/
def storeOwnWrong : ChangeSpec := { name := "storeOwn", fn := fun _ => fun
  | [d] => { results := [.lit (.bool false)], args := [d] }
  | _ => none }
def StoreOwnWrongFalsely : Prop := storeOwnRow.holds Try.pinned (OpenSpec.ofChange storeOwnWrong)

/-- 'rotuluslaw4.PackOrder': WHATEVER THE INPUT: true; the input reads as it did. -/
def packOrderSpec : ChangeSpec := { name := "packOrder", fn := fun _ => fun
  | [d1, d2] => { results := [.lit (.bool true)], args := [d1, d2] }
  | _ => none }
def packOrderRow : OpenClaim := { program := "ytkigdcihhlkkdaa", sum := "b4133ea8dd0de2bc3d524731bba50485e1fc5dc252464c416ccb74c60c6852eb", func := "rotulus/rotuluslaw4.PackOrder", spec := "packOrder", unfollowed := true, recurses := true, apart := false }
def PackOrderSaid : Prop := packOrderRow.holds Try.pinned (OpenSpec.ofChange packOrderSpec)

/-- ITS FALSE NEIGHBOUR: 'it returns false'. Refute it at one input. -/
def packOrderWrong : ChangeSpec := { name := "packOrder", fn := fun _ => fun
  | [d1, d2] => { results := [.lit (.bool false)], args := [d1, d2] }
  | _ => none }
def PackOrderWrongFalsely : Prop := packOrderRow.holds Try.pinned (OpenSpec.ofChange packOrderWrong)

/-- 'rotuluslaw4.PackHalves': WHATEVER THE INPUT: true; the input reads as it did. -/
def packHalvesSpec : ChangeSpec := { name := "packHalves", fn := fun _ => fun
  | [d1, d2, d3] => { results := [.lit (.bool true)], args := [d1, d2, d3] }
  | _ => none }
def packHalvesRow : OpenClaim := { program := "ytkigdcihhlkkdaa", sum := "b4133ea8dd0de2bc3d524731bba50485e1fc5dc252464c416ccb74c60c6852eb", func := "rotulus/rotuluslaw4.PackHalves", spec := "packHalves", unfollowed := true, recurses := true, apart := false }
def PackHalvesSaid : Prop := packHalvesRow.holds Try.pinned (OpenSpec.ofChange packHalvesSpec)

/-- ITS FALSE NEIGHBOUR: 'it returns false'. Refute it at one input. -/
def packHalvesWrong : ChangeSpec := { name := "packHalves", fn := fun _ => fun
  | [d1, d2, d3] => { results := [.lit (.bool false)], args := [d1, d2, d3] }
  | _ => none }
def PackHalvesWrongFalsely : Prop := packHalvesRow.holds Try.pinned (OpenSpec.ofChange packHalvesWrong)

/-- 'rotuluslaw4.PackMany': WHATEVER THE INPUT: true; the input reads as it did. -/
def packManySpec : ChangeSpec := { name := "packMany", fn := fun _ => fun
  | [d] => { results := [.lit (.bool true)], args := [d] }
  | _ => none }
def packManyRow : OpenClaim := { program := "ytkigdcihhlkkdaa", sum := "b4133ea8dd0de2bc3d524731bba50485e1fc5dc252464c416ccb74c60c6852eb", func := "rotulus/rotuluslaw4.PackMany", spec := "packMany", unfollowed := true, recurses := true, apart := false }
def PackManySaid : Prop := packManyRow.holds Try.pinned (OpenSpec.ofChange packManySpec)

/-- ITS FALSE NEIGHBOUR: 'it returns false'. Refute it at one input. -/
def packManyWrong : ChangeSpec := { name := "packMany", fn := fun _ => fun
  | [d] => { results := [.lit (.bool false)], args := [d] }
  | _ => none }
def PackManyWrongFalsely : Prop := packManyRow.holds Try.pinned (OpenSpec.ofChange packManyWrong)

/-- 'rotuluslaw4.PageFull': WHATEVER THE INPUT: true; the input reads as it did. -/
def pageFullSpec : ChangeSpec := { name := "pageFull", fn := fun _ => fun
  | [d1, d2] => { results := [.lit (.bool true)], args := [d1, d2] }
  | _ => none }
def pageFullRow : OpenClaim := { program := "ytkigdcihhlkkdaa", sum := "b4133ea8dd0de2bc3d524731bba50485e1fc5dc252464c416ccb74c60c6852eb", func := "rotulus/rotuluslaw4.PageFull", spec := "pageFull", unfollowed := true, recurses := true, apart := false }
def PageFullSaid : Prop := pageFullRow.holds Try.pinned (OpenSpec.ofChange pageFullSpec)

/-- ITS FALSE NEIGHBOUR: 'it returns false'. Refute it at one input. -/
def pageFullWrong : ChangeSpec := { name := "pageFull", fn := fun _ => fun
  | [d1, d2] => { results := [.lit (.bool false)], args := [d1, d2] }
  | _ => none }
def PageFullWrongFalsely : Prop := pageFullRow.holds Try.pinned (OpenSpec.ofChange pageFullWrong)

/-- 'rotuluslaw4.StoreTurn': WHATEVER THE INPUT: true; the input reads as it did. -/
def storeTurnSpec : ChangeSpec := { name := "storeTurn", fn := fun _ => fun
  | [d1, d2] => { results := [.lit (.bool true)], args := [d1, d2] }
  | _ => none }
def storeTurnRow : OpenClaim := { program := "ytkigdcihhlkkdaa", sum := "b4133ea8dd0de2bc3d524731bba50485e1fc5dc252464c416ccb74c60c6852eb", func := "rotulus/rotuluslaw4.StoreTurn", spec := "storeTurn", unfollowed := true, recurses := true, apart := false }
def StoreTurnSaid : Prop := storeTurnRow.holds Try.pinned (OpenSpec.ofChange storeTurnSpec)

/-- ITS FALSE NEIGHBOUR: 'it returns false'. Refute it at one input. -/
def storeTurnWrong : ChangeSpec := { name := "storeTurn", fn := fun _ => fun
  | [d1, d2] => { results := [.lit (.bool false)], args := [d1, d2] }
  | _ => none }
def StoreTurnWrongFalsely : Prop := storeTurnRow.holds Try.pinned (OpenSpec.ofChange storeTurnWrong)

/-- 'rotuluslaw4.StoreLimits': WHATEVER THE INPUT: true; the input reads as it did. -/
def storeLimitsSpec : ChangeSpec := { name := "storeLimits", fn := fun _ => fun
  | [d] => { results := [.lit (.bool true)], args := [d] }
  | _ => none }
def storeLimitsRow : OpenClaim := { program := "ytkigdcihhlkkdaa", sum := "b4133ea8dd0de2bc3d524731bba50485e1fc5dc252464c416ccb74c60c6852eb", func := "rotulus/rotuluslaw4.StoreLimits", spec := "storeLimits", unfollowed := true, recurses := true, apart := false }
def StoreLimitsSaid : Prop := storeLimitsRow.holds Try.pinned (OpenSpec.ofChange storeLimitsSpec)

/-- ITS FALSE NEIGHBOUR: 'it returns false'. Refute it at one input. -/
def storeLimitsWrong : ChangeSpec := { name := "storeLimits", fn := fun _ => fun
  | [d] => { results := [.lit (.bool false)], args := [d] }
  | _ => none }
def StoreLimitsWrongFalsely : Prop := storeLimitsRow.holds Try.pinned (OpenSpec.ofChange storeLimitsWrong)

/-- 'rotuluslaw4.StoreAll': WHATEVER THE INPUT: true; the input reads as it did. -/
def storeAllSpec : ChangeSpec := { name := "storeAll", fn := fun _ => fun
  | [d1, d2] => { results := [.lit (.bool true)], args := [d1, d2] }
  | _ => none }
def storeAllRow : OpenClaim := { program := "ytkigdcihhlkkdaa", sum := "b4133ea8dd0de2bc3d524731bba50485e1fc5dc252464c416ccb74c60c6852eb", func := "rotulus/rotuluslaw4.StoreAll", spec := "storeAll", unfollowed := true, recurses := true, apart := false }
def StoreAllSaid : Prop := storeAllRow.holds Try.pinned (OpenSpec.ofChange storeAllSpec)

/-- ITS FALSE NEIGHBOUR: 'it returns false'. Refute it at one input. -/
def storeAllWrong : ChangeSpec := { name := "storeAll", fn := fun _ => fun
  | [d1, d2] => { results := [.lit (.bool false)], args := [d1, d2] }
  | _ => none }
def StoreAllWrongFalsely : Prop := storeAllRow.holds Try.pinned (OpenSpec.ofChange storeAllWrong)

/-- 'rotuluslaw4.StoreNone': WHATEVER THE INPUT: true; the input reads as it did. -/
def storeNoneSpec : ChangeSpec := { name := "storeNone", fn := fun _ => fun
  | [] => { results := [.lit (.bool true)], args := [] }
  | _ => none }
def storeNoneRow : OpenClaim := { program := "ytkigdcihhlkkdaa", sum := "b4133ea8dd0de2bc3d524731bba50485e1fc5dc252464c416ccb74c60c6852eb", func := "rotulus/rotuluslaw4.StoreNone", spec := "storeNone", unfollowed := true, recurses := true, apart := false }
def StoreNoneSaid : Prop := storeNoneRow.holds Try.pinned (OpenSpec.ofChange storeNoneSpec)

/-- ITS FALSE NEIGHBOUR: 'it returns false'. Refute it at one input. -/
def storeNoneWrong : ChangeSpec := { name := "storeNone", fn := fun _ => fun
  | [] => { results := [.lit (.bool false)], args := [] }
  | _ => none }
def StoreNoneWrongFalsely : Prop := storeNoneRow.holds Try.pinned (OpenSpec.ofChange storeNoneWrong)

/- THE SECOND FORM. 'bulk': how many values and letters a reading holds, each counted each time it is reached (what is shared counts as often as it is met; a slice's spare places count too). A statement '..UptoSaid' is the law's where the arguments, and the package variables that the reading takes, are together of bulk at most 1048576: NARROWER than '..Said'. Prove '..Said' where nothing that the law and all that it calls make is longer than what came in: it says more and counts as full. Else prove '..UptoSaid'. A law counts once. -/
mutual
def uptoBulk {H : Type} : DataW H → Nat
  | .lit (.string bytes) => bytes.length + 1
  | .lit _ => 1
  | .nil => 1
  | .ptr d => uptoBulk d + 1
  | .slice elems spare => uptoBulkAll elems + uptoBulkAll spare + 1
  | .agg parts => uptoBulkAll parts + 1
  | .iface _ d => uptoBulk d + 1
  | .map entries => uptoBulkEntries entries + 1
  | .held _ => 1
def uptoBulkAll {H : Type} : List (DataW H) → Nat
  | [] => 0
  | d :: r => uptoBulk d + uptoBulkAll r
def uptoBulkEntries {H : Type} : List (Lit × DataW H) → Nat
  | [] => 0
  | x :: r => uptoBulkEntry x + uptoBulkEntries r
def uptoBulkEntry {H : Type} : Lit × DataW H → Nat
  | (.string bytes, d) => bytes.length + uptoBulk d + 1
  | (_, d) => uptoBulk d + 1
 end
def uptoSmall : (H : Type) → List (DataW H) → Bool := fun _ ds => decide (uptoBulkAll ds ≤ 1048576)
def OpenSpec.upto (s : _root_.Go.ChangeSpec) : _root_.Go.OpenSpec := { _root_.Go.OpenSpec.ofChange s with cond := some uptoSmall }

/-- 'rotuluslaw4.PackUint', WHERE WHAT IT READS IS OF BULK AT MOST 1048576: true; the input reads as it did. -/
def packUintUptoRow : OpenClaim := { program := "ytkigdcihhlkkdaa", sum := "b4133ea8dd0de2bc3d524731bba50485e1fc5dc252464c416ccb74c60c6852eb", func := "rotulus/rotuluslaw4.PackUint", spec := "packUint", unfollowed := true, recurses := true, apart := false, narrowed := true }
def PackUintUptoSaid : Prop := packUintUptoRow.holds Try.pinned (OpenSpec.upto packUintSpec)

/-- 'rotuluslaw4.PackAll', WHERE WHAT IT READS IS OF BULK AT MOST 1048576: true; the input reads as it did. -/
def packAllUptoRow : OpenClaim := { program := "ytkigdcihhlkkdaa", sum := "b4133ea8dd0de2bc3d524731bba50485e1fc5dc252464c416ccb74c60c6852eb", func := "rotulus/rotuluslaw4.PackAll", spec := "packAll", unfollowed := true, recurses := true, apart := false, narrowed := true }
def PackAllUptoSaid : Prop := packAllUptoRow.holds Try.pinned (OpenSpec.upto packAllSpec)

/-- 'rotuluslaw4.PackAny', WHERE WHAT IT READS IS OF BULK AT MOST 1048576: true; the input reads as it did. -/
def packAnyUptoRow : OpenClaim := { program := "ytkigdcihhlkkdaa", sum := "b4133ea8dd0de2bc3d524731bba50485e1fc5dc252464c416ccb74c60c6852eb", func := "rotulus/rotuluslaw4.PackAny", spec := "packAny", unfollowed := true, recurses := true, apart := false, narrowed := true }
def PackAnyUptoSaid : Prop := packAnyUptoRow.holds Try.pinned (OpenSpec.upto packAnySpec)

/-- 'rotuluslaw4.PackShort', WHERE WHAT IT READS IS OF BULK AT MOST 1048576: true; the input reads as it did. -/
def packShortUptoRow : OpenClaim := { program := "ytkigdcihhlkkdaa", sum := "b4133ea8dd0de2bc3d524731bba50485e1fc5dc252464c416ccb74c60c6852eb", func := "rotulus/rotuluslaw4.PackShort", spec := "packShort", unfollowed := true, recurses := true, apart := false, narrowed := true }
def PackShortUptoSaid : Prop := packShortUptoRow.holds Try.pinned (OpenSpec.upto packShortSpec)

/-- 'rotuluslaw4.PageAll', WHERE WHAT IT READS IS OF BULK AT MOST 1048576: true; the input reads as it did. -/
def pageAllUptoRow : OpenClaim := { program := "ytkigdcihhlkkdaa", sum := "b4133ea8dd0de2bc3d524731bba50485e1fc5dc252464c416ccb74c60c6852eb", func := "rotulus/rotuluslaw4.PageAll", spec := "pageAll", unfollowed := true, recurses := true, apart := false, narrowed := true }
def PageAllUptoSaid : Prop := pageAllUptoRow.holds Try.pinned (OpenSpec.upto pageAllSpec)

/-- 'rotuluslaw4.StoreEnds', WHERE WHAT IT READS IS OF BULK AT MOST 1048576: true; the input reads as it did. -/
def storeEndsUptoRow : OpenClaim := { program := "ytkigdcihhlkkdaa", sum := "b4133ea8dd0de2bc3d524731bba50485e1fc5dc252464c416ccb74c60c6852eb", func := "rotulus/rotuluslaw4.StoreEnds", spec := "storeEnds", unfollowed := true, recurses := true, apart := false, narrowed := true }
def StoreEndsUptoSaid : Prop := storeEndsUptoRow.holds Try.pinned (OpenSpec.upto storeEndsSpec)

/-- 'rotuluslaw4.StoreOwn', WHERE WHAT IT READS IS OF BULK AT MOST 1048576: true; the input reads as it did. -/
def storeOwnUptoRow : OpenClaim := { program := "ytkigdcihhlkkdaa", sum := "b4133ea8dd0de2bc3d524731bba50485e1fc5dc252464c416ccb74c60c6852eb", func := "rotulus/rotuluslaw4.StoreOwn", spec := "storeOwn", unfollowed := true, recurses := true, apart := false, narrowed := true }
def StoreOwnUptoSaid : Prop := storeOwnUptoRow.holds Try.pinned (OpenSpec.upto storeOwnSpec)

/-- 'rotuluslaw4.PackOrder', WHERE WHAT IT READS IS OF BULK AT MOST 1048576: true; the input reads as it did. -/
def packOrderUptoRow : OpenClaim := { program := "ytkigdcihhlkkdaa", sum := "b4133ea8dd0de2bc3d524731bba50485e1fc5dc252464c416ccb74c60c6852eb", func := "rotulus/rotuluslaw4.PackOrder", spec := "packOrder", unfollowed := true, recurses := true, apart := false, narrowed := true }
def PackOrderUptoSaid : Prop := packOrderUptoRow.holds Try.pinned (OpenSpec.upto packOrderSpec)

/-- 'rotuluslaw4.PackHalves', WHERE WHAT IT READS IS OF BULK AT MOST 1048576: true; the input reads as it did. -/
def packHalvesUptoRow : OpenClaim := { program := "ytkigdcihhlkkdaa", sum := "b4133ea8dd0de2bc3d524731bba50485e1fc5dc252464c416ccb74c60c6852eb", func := "rotulus/rotuluslaw4.PackHalves", spec := "packHalves", unfollowed := true, recurses := true, apart := false, narrowed := true }
def PackHalvesUptoSaid : Prop := packHalvesUptoRow.holds Try.pinned (OpenSpec.upto packHalvesSpec)

/-- 'rotuluslaw4.PackMany', WHERE WHAT IT READS IS OF BULK AT MOST 1048576: true; the input reads as it did. -/
def packManyUptoRow : OpenClaim := { program := "ytkigdcihhlkkdaa", sum := "b4133ea8dd0de2bc3d524731bba50485e1fc5dc252464c416ccb74c60c6852eb", func := "rotulus/rotuluslaw4.PackMany", spec := "packMany", unfollowed := true, recurses := true, apart := false, narrowed := true }
def PackManyUptoSaid : Prop := packManyUptoRow.holds Try.pinned (OpenSpec.upto packManySpec)

/-- 'rotuluslaw4.PageFull', WHERE WHAT IT READS IS OF BULK AT MOST 1048576: true; the input reads as it did. -/
def pageFullUptoRow : OpenClaim := { program := "ytkigdcihhlkkdaa", sum := "b4133ea8dd0de2bc3d524731bba50485e1fc5dc252464c416ccb74c60c6852eb", func := "rotulus/rotuluslaw4.PageFull", spec := "pageFull", unfollowed := true, recurses := true, apart := false, narrowed := true }
def PageFullUptoSaid : Prop := pageFullUptoRow.holds Try.pinned (OpenSpec.upto pageFullSpec)

/-- 'rotuluslaw4.StoreTurn', WHERE WHAT IT READS IS OF BULK AT MOST 1048576: true; the input reads as it did. -/
def storeTurnUptoRow : OpenClaim := { program := "ytkigdcihhlkkdaa", sum := "b4133ea8dd0de2bc3d524731bba50485e1fc5dc252464c416ccb74c60c6852eb", func := "rotulus/rotuluslaw4.StoreTurn", spec := "storeTurn", unfollowed := true, recurses := true, apart := false, narrowed := true }
def StoreTurnUptoSaid : Prop := storeTurnUptoRow.holds Try.pinned (OpenSpec.upto storeTurnSpec)

/-- 'rotuluslaw4.StoreLimits', WHERE WHAT IT READS IS OF BULK AT MOST 1048576: true; the input reads as it did. -/
def storeLimitsUptoRow : OpenClaim := { program := "ytkigdcihhlkkdaa", sum := "b4133ea8dd0de2bc3d524731bba50485e1fc5dc252464c416ccb74c60c6852eb", func := "rotulus/rotuluslaw4.StoreLimits", spec := "storeLimits", unfollowed := true, recurses := true, apart := false, narrowed := true }
def StoreLimitsUptoSaid : Prop := storeLimitsUptoRow.holds Try.pinned (OpenSpec.upto storeLimitsSpec)

/-- 'rotuluslaw4.StoreAll', WHERE WHAT IT READS IS OF BULK AT MOST 1048576: true; the input reads as it did. -/
def storeAllUptoRow : OpenClaim := { program := "ytkigdcihhlkkdaa", sum := "b4133ea8dd0de2bc3d524731bba50485e1fc5dc252464c416ccb74c60c6852eb", func := "rotulus/rotuluslaw4.StoreAll", spec := "storeAll", unfollowed := true, recurses := true, apart := false, narrowed := true }
def StoreAllUptoSaid : Prop := storeAllUptoRow.holds Try.pinned (OpenSpec.upto storeAllSpec)

/-- 'rotuluslaw4.StoreNone', WHERE WHAT IT READS IS OF BULK AT MOST 1048576: true; the input reads as it did. -/
def storeNoneUptoRow : OpenClaim := { program := "ytkigdcihhlkkdaa", sum := "b4133ea8dd0de2bc3d524731bba50485e1fc5dc252464c416ccb74c60c6852eb", func := "rotulus/rotuluslaw4.StoreNone", spec := "storeNone", unfollowed := true, recurses := true, apart := false, narrowed := true }
def StoreNoneUptoSaid : Prop := storeNoneUptoRow.holds Try.pinned (OpenSpec.upto storeNoneSpec)

end Rows
end Go.Proofs.Ytkigdcihhlkkdaa
