/-
  No cell of these rows narrows 'for every input' (looked for: loops, veiled, ifaces, maps, wideKeys, modest, calm, conditions, laid).
  DERIVED. THE GIVEN ROWS OF THIS SEAT. 16 by the template 'for every input the law returns true; each argument reads behind the call as it read before'; 0 by the template 'total and deterministic' (their statements: YtfpnafeildigaaaTotals.lean).
  GIVEN WITH THE SEED: the statements are not yours to turn. If you find one false, say at which input.
  Laid BY PROGRAM, IN A SANDBOX (cutbox-rows.mjs): the forced cells as the released guide's own fill.sh prints them over the translation a075ddc2d41287b9… (all of the seat's roots in one cut). By AI agents, Wed Nov 11 2026. No macro, syntax, notation, axiom, sorry.
-/
import Derived.Test.YtfpnafeildigaaaChecked
import GoSem.Claim
import GoSem.ClaimJoined
import GoSem.ClaimMapViews
import Derived.JoinedTies
import Derived.KernelRfl
namespace Go.Proofs.Ytfpnafeildigaaa
/- THE CELL 'sum', in the pinned program and in every row, IS THE sha256 OF THE DUMP (.gsa) THAT YtfpnafeildigaaaProg.lean LOADS. Nothing in Lean hashes anything: it is a label: what it is worth is what the hold of that sum in a sandbox is worth. -/
noncomputable def Try.pinned : Pinned := { name := "ytfpnafeildigaaa", sum := "a075ddc2d41287b9908ee384082ce3b9e034a2b8df1349999e2147a325ad0e0f", checked := Try.checked }
namespace Rows
def none {H : Type} : Left H := { results := [], args := [] }

/-- 'invigilatorlaw10.ExtendOnes': WHATEVER THE INPUT: true; the input reads as it did. -/
def extendOnesSpec : ChangeSpec := { name := "extendOnes", fn := fun _ => fun
  | [d1, d2] => { results := [.lit (.bool true)], args := [d1, d2] }
  | _ => none }
def extendOnesRow : OpenClaim := { program := "ytfpnafeildigaaa", sum := "a075ddc2d41287b9908ee384082ce3b9e034a2b8df1349999e2147a325ad0e0f", func := "invigilator/invigilatorlaw10.ExtendOnes", spec := "extendOnes", unfollowed := true, recurses := true, apart := false }
def ExtendOnesSaid : Prop := extendOnesRow.holds Try.pinned (OpenSpec.ofChange extendOnesSpec)

/-- ITS FALSE NEIGHBOUR: 'it returns false'. Refute it at one input. -/
def extendOnesWrong : ChangeSpec := { name := "extendOnes", fn := fun _ => fun
  | [d1, d2] => { results := [.lit (.bool false)], args := [d1, d2] }
  | _ => none }
def ExtendOnesWrongFalsely : Prop := extendOnesRow.holds Try.pinned (OpenSpec.ofChange extendOnesWrong)

/-- 'invigilatorlaw10.ExtendTwos': WHATEVER THE INPUT: true; the input reads as it did. -/
def extendTwosSpec : ChangeSpec := { name := "extendTwos", fn := fun _ => fun
  | [d1, d2, d3] => { results := [.lit (.bool true)], args := [d1, d2, d3] }
  | _ => none }
def extendTwosRow : OpenClaim := { program := "ytfpnafeildigaaa", sum := "a075ddc2d41287b9908ee384082ce3b9e034a2b8df1349999e2147a325ad0e0f", func := "invigilator/invigilatorlaw10.ExtendTwos", spec := "extendTwos", unfollowed := true, recurses := true, apart := false }
def ExtendTwosSaid : Prop := extendTwosRow.holds Try.pinned (OpenSpec.ofChange extendTwosSpec)

/-- ITS FALSE NEIGHBOUR: 'it returns false'. Refute it at one input. -/
def extendTwosWrong : ChangeSpec := { name := "extendTwos", fn := fun _ => fun
  | [d1, d2, d3] => { results := [.lit (.bool false)], args := [d1, d2, d3] }
  | _ => none }
def ExtendTwosWrongFalsely : Prop := extendTwosRow.holds Try.pinned (OpenSpec.ofChange extendTwosWrong)

/-- 'invigilatorlaw10.ExtendCells': WHATEVER THE INPUT: true; the input reads as it did. -/
def extendCellsSpec : ChangeSpec := { name := "extendCells", fn := fun _ => fun
  | [d1, d2, d3] => { results := [.lit (.bool true)], args := [d1, d2, d3] }
  | _ => none }
def extendCellsRow : OpenClaim := { program := "ytfpnafeildigaaa", sum := "a075ddc2d41287b9908ee384082ce3b9e034a2b8df1349999e2147a325ad0e0f", func := "invigilator/invigilatorlaw10.ExtendCells", spec := "extendCells", unfollowed := true, recurses := true, apart := false }
def ExtendCellsSaid : Prop := extendCellsRow.holds Try.pinned (OpenSpec.ofChange extendCellsSpec)

/-- ITS FALSE NEIGHBOUR: 'it returns false'. Refute it at one input. -/
def extendCellsWrong : ChangeSpec := { name := "extendCells", fn := fun _ => fun
  | [d1, d2, d3] => { results := [.lit (.bool false)], args := [d1, d2, d3] }
  | _ => none }
def ExtendCellsWrongFalsely : Prop := extendCellsRow.holds Try.pinned (OpenSpec.ofChange extendCellsWrong)

/-- 'invigilatorlaw10.ExtendScalars': WHATEVER THE INPUT: true; the input reads as it did. -/
def extendScalarsSpec : ChangeSpec := { name := "extendScalars", fn := fun _ => fun
  | [d1, d2, d3] => { results := [.lit (.bool true)], args := [d1, d2, d3] }
  | _ => none }
def extendScalarsRow : OpenClaim := { program := "ytfpnafeildigaaa", sum := "a075ddc2d41287b9908ee384082ce3b9e034a2b8df1349999e2147a325ad0e0f", func := "invigilator/invigilatorlaw10.ExtendScalars", spec := "extendScalars", unfollowed := true, recurses := true, apart := false }
def ExtendScalarsSaid : Prop := extendScalarsRow.holds Try.pinned (OpenSpec.ofChange extendScalarsSpec)

/-- ITS FALSE NEIGHBOUR: 'it returns false'. Refute it at one input. -/
def extendScalarsWrong : ChangeSpec := { name := "extendScalars", fn := fun _ => fun
  | [d1, d2, d3] => { results := [.lit (.bool false)], args := [d1, d2, d3] }
  | _ => none }
def ExtendScalarsWrongFalsely : Prop := extendScalarsRow.holds Try.pinned (OpenSpec.ofChange extendScalarsWrong)

/-- 'invigilatorlaw10.ExtendTurns': WHATEVER THE INPUT: true; the input reads as it did. -/
def extendTurnsSpec : ChangeSpec := { name := "extendTurns", fn := fun _ => fun
  | [d1, d2, d3] => { results := [.lit (.bool true)], args := [d1, d2, d3] }
  | _ => none }
def extendTurnsRow : OpenClaim := { program := "ytfpnafeildigaaa", sum := "a075ddc2d41287b9908ee384082ce3b9e034a2b8df1349999e2147a325ad0e0f", func := "invigilator/invigilatorlaw10.ExtendTurns", spec := "extendTurns", unfollowed := true, recurses := true, apart := false }
def ExtendTurnsSaid : Prop := extendTurnsRow.holds Try.pinned (OpenSpec.ofChange extendTurnsSpec)

/-- ITS FALSE NEIGHBOUR: 'it returns false'. Refute it at one input. -/
def extendTurnsWrong : ChangeSpec := { name := "extendTurns", fn := fun _ => fun
  | [d1, d2, d3] => { results := [.lit (.bool false)], args := [d1, d2, d3] }
  | _ => none }
def ExtendTurnsWrongFalsely : Prop := extendTurnsRow.holds Try.pinned (OpenSpec.ofChange extendTurnsWrong)

/-- 'invigilatorlaw10.ExtendParts': WHATEVER THE INPUT: true; the input reads as it did. -/
def extendPartsSpec : ChangeSpec := { name := "extendParts", fn := fun _ => fun
  | [d1, d2, d3] => { results := [.lit (.bool true)], args := [d1, d2, d3] }
  | _ => none }
def extendPartsRow : OpenClaim := { program := "ytfpnafeildigaaa", sum := "a075ddc2d41287b9908ee384082ce3b9e034a2b8df1349999e2147a325ad0e0f", func := "invigilator/invigilatorlaw10.ExtendParts", spec := "extendParts", unfollowed := true, recurses := true, apart := false }
def ExtendPartsSaid : Prop := extendPartsRow.holds Try.pinned (OpenSpec.ofChange extendPartsSpec)

/-- ITS FALSE NEIGHBOUR: 'it returns false'. Refute it at one input. -/
def extendPartsWrong : ChangeSpec := { name := "extendParts", fn := fun _ => fun
  | [d1, d2, d3] => { results := [.lit (.bool false)], args := [d1, d2, d3] }
  | _ => none }
def ExtendPartsWrongFalsely : Prop := extendPartsRow.holds Try.pinned (OpenSpec.ofChange extendPartsWrong)

/-- 'invigilatorlaw10.ExtendFlips': WHATEVER THE INPUT: true; the input reads as it did. -/
def extendFlipsSpec : ChangeSpec := { name := "extendFlips", fn := fun _ => fun
  | [d1, d2, d3] => { results := [.lit (.bool true)], args := [d1, d2, d3] }
  | _ => none }
def extendFlipsRow : OpenClaim := { program := "ytfpnafeildigaaa", sum := "a075ddc2d41287b9908ee384082ce3b9e034a2b8df1349999e2147a325ad0e0f", func := "invigilator/invigilatorlaw10.ExtendFlips", spec := "extendFlips", unfollowed := true, recurses := true, apart := false }
def ExtendFlipsSaid : Prop := extendFlipsRow.holds Try.pinned (OpenSpec.ofChange extendFlipsSpec)

/-- ITS FALSE NEIGHBOUR: 'it returns false'. Refute it at one input. -/
def extendFlipsWrong : ChangeSpec := { name := "extendFlips", fn := fun _ => fun
  | [d1, d2, d3] => { results := [.lit (.bool false)], args := [d1, d2, d3] }
  | _ => none }
def ExtendFlipsWrongFalsely : Prop := extendFlipsRow.holds Try.pinned (OpenSpec.ofChange extendFlipsWrong)

/-- 'invigilatorlaw10.ExtendOwn': WHATEVER THE INPUT: true; the input reads as it did. -/
def extendOwnSpec : ChangeSpec := { name := "extendOwn", fn := fun _ => fun
  | [d1, d2] => { results := [.lit (.bool true)], args := [d1, d2] }
  | _ => none }
def extendOwnRow : OpenClaim := { program := "ytfpnafeildigaaa", sum := "a075ddc2d41287b9908ee384082ce3b9e034a2b8df1349999e2147a325ad0e0f", func := "invigilator/invigilatorlaw10.ExtendOwn", spec := "extendOwn", unfollowed := true, recurses := true, apart := false }
def ExtendOwnSaid : Prop := extendOwnRow.holds Try.pinned (OpenSpec.ofChange extendOwnSpec)

/-- ITS FALSE NEIGHBOUR: 'it returns false'. Refute it at one input. -/
def extendOwnWrong : ChangeSpec := { name := "extendOwn", fn := fun _ => fun
  | [d1, d2] => { results := [.lit (.bool false)], args := [d1, d2] }
  | _ => none }
def ExtendOwnWrongFalsely : Prop := extendOwnRow.holds Try.pinned (OpenSpec.ofChange extendOwnWrong)

/-- 'invigilatorlaw11.FoldsSums': WHATEVER THE INPUT: true; the input reads as it did. -/
def foldsSumsSpec : ChangeSpec := { name := "foldsSums", fn := fun _ => fun
  | [d] => { results := [.lit (.bool true)], args := [d] }
  | _ => none }
def foldsSumsRow : OpenClaim := { program := "ytfpnafeildigaaa", sum := "a075ddc2d41287b9908ee384082ce3b9e034a2b8df1349999e2147a325ad0e0f", func := "invigilator/invigilatorlaw11.FoldsSums", spec := "foldsSums", unfollowed := true, recurses := true, apart := false }
def FoldsSumsSaid : Prop := foldsSumsRow.holds Try.pinned (OpenSpec.ofChange foldsSumsSpec)

/-- ITS FALSE NEIGHBOUR: 'it returns false'. Refute it at one input. -/
def foldsSumsWrong : ChangeSpec := { name := "foldsSums", fn := fun _ => fun
  | [d] => { results := [.lit (.bool false)], args := [d] }
  | _ => none }
def FoldsSumsWrongFalsely : Prop := foldsSumsRow.holds Try.pinned (OpenSpec.ofChange foldsSumsWrong)

/-- 'invigilatorlaw11.FoldsEnds': WHATEVER THE INPUT: true; the input reads as it did. -/
def foldsEndsSpec : ChangeSpec := { name := "foldsEnds", fn := fun _ => fun
  | [d] => { results := [.lit (.bool true)], args := [d] }
  | _ => none }
def foldsEndsRow : OpenClaim := { program := "ytfpnafeildigaaa", sum := "a075ddc2d41287b9908ee384082ce3b9e034a2b8df1349999e2147a325ad0e0f", func := "invigilator/invigilatorlaw11.FoldsEnds", spec := "foldsEnds", unfollowed := true, recurses := true, apart := false }
def FoldsEndsSaid : Prop := foldsEndsRow.holds Try.pinned (OpenSpec.ofChange foldsEndsSpec)

/-- ITS FALSE NEIGHBOUR: 'it returns false'. Refute it at one input. -/
def foldsEndsWrong : ChangeSpec := { name := "foldsEnds", fn := fun _ => fun
  | [d] => { results := [.lit (.bool false)], args := [d] }
  | _ => none }
def FoldsEndsWrongFalsely : Prop := foldsEndsRow.holds Try.pinned (OpenSpec.ofChange foldsEndsWrong)

/-- 'invigilatorlaw11.FoldsScans': WHATEVER THE INPUT: true; the input reads as it did. -/
def foldsScansSpec : ChangeSpec := { name := "foldsScans", fn := fun _ => fun
  | [d] => { results := [.lit (.bool true)], args := [d] }
  | _ => none }
def foldsScansRow : OpenClaim := { program := "ytfpnafeildigaaa", sum := "a075ddc2d41287b9908ee384082ce3b9e034a2b8df1349999e2147a325ad0e0f", func := "invigilator/invigilatorlaw11.FoldsScans", spec := "foldsScans", unfollowed := true, recurses := true, apart := false }
def FoldsScansSaid : Prop := foldsScansRow.holds Try.pinned (OpenSpec.ofChange foldsScansSpec)

/-- ITS FALSE NEIGHBOUR: 'it returns false'. Refute it at one input. -/
def foldsScansWrong : ChangeSpec := { name := "foldsScans", fn := fun _ => fun
  | [d] => { results := [.lit (.bool false)], args := [d] }
  | _ => none }
def FoldsScansWrongFalsely : Prop := foldsScansRow.holds Try.pinned (OpenSpec.ofChange foldsScansWrong)

/-- 'invigilatorlaw11.FoldsBounds': WHATEVER THE INPUT: true; the input reads as it did. -/
def foldsBoundsSpec : ChangeSpec := { name := "foldsBounds", fn := fun _ => fun
  | [d] => { results := [.lit (.bool true)], args := [d] }
  | _ => none }
def foldsBoundsRow : OpenClaim := { program := "ytfpnafeildigaaa", sum := "a075ddc2d41287b9908ee384082ce3b9e034a2b8df1349999e2147a325ad0e0f", func := "invigilator/invigilatorlaw11.FoldsBounds", spec := "foldsBounds", unfollowed := true, recurses := true, apart := false }
def FoldsBoundsSaid : Prop := foldsBoundsRow.holds Try.pinned (OpenSpec.ofChange foldsBoundsSpec)

/-- ITS FALSE NEIGHBOUR: 'it returns false'. Refute it at one input. -/
def foldsBoundsWrong : ChangeSpec := { name := "foldsBounds", fn := fun _ => fun
  | [d] => { results := [.lit (.bool false)], args := [d] }
  | _ => none }
def FoldsBoundsWrongFalsely : Prop := foldsBoundsRow.holds Try.pinned (OpenSpec.ofChange foldsBoundsWrong)

/-- 'invigilatorlaw11.FoldsParts': WHATEVER THE INPUT: true; the input reads as it did. -/
def foldsPartsSpec : ChangeSpec := { name := "foldsParts", fn := fun _ => fun
  | [d1, d2] => { results := [.lit (.bool true)], args := [d1, d2] }
  | _ => none }
def foldsPartsRow : OpenClaim := { program := "ytfpnafeildigaaa", sum := "a075ddc2d41287b9908ee384082ce3b9e034a2b8df1349999e2147a325ad0e0f", func := "invigilator/invigilatorlaw11.FoldsParts", spec := "foldsParts", unfollowed := true, recurses := true, apart := false }
def FoldsPartsSaid : Prop := foldsPartsRow.holds Try.pinned (OpenSpec.ofChange foldsPartsSpec)

/-- ITS FALSE NEIGHBOUR: 'it returns false'. Refute it at one input. -/
def foldsPartsWrong : ChangeSpec := { name := "foldsParts", fn := fun _ => fun
  | [d1, d2] => { results := [.lit (.bool false)], args := [d1, d2] }
  | _ => none }
def FoldsPartsWrongFalsely : Prop := foldsPartsRow.holds Try.pinned (OpenSpec.ofChange foldsPartsWrong)

/-- 'invigilatorlaw11.FoldsRows': WHATEVER THE INPUT: true; the input reads as it did. -/
def foldsRowsSpec : ChangeSpec := { name := "foldsRows", fn := fun _ => fun
  | [d] => { results := [.lit (.bool true)], args := [d] }
  | _ => none }
def foldsRowsRow : OpenClaim := { program := "ytfpnafeildigaaa", sum := "a075ddc2d41287b9908ee384082ce3b9e034a2b8df1349999e2147a325ad0e0f", func := "invigilator/invigilatorlaw11.FoldsRows", spec := "foldsRows", unfollowed := true, recurses := true, apart := false }
def FoldsRowsSaid : Prop := foldsRowsRow.holds Try.pinned (OpenSpec.ofChange foldsRowsSpec)

/-- ITS FALSE NEIGHBOUR: 'it returns false'. Refute it at one input. -/
def foldsRowsWrong : ChangeSpec := { name := "foldsRows", fn := fun _ => fun
  | [d] => { results := [.lit (.bool false)], args := [d] }
  | _ => none }
def FoldsRowsWrongFalsely : Prop := foldsRowsRow.holds Try.pinned (OpenSpec.ofChange foldsRowsWrong)

/-- 'invigilatorlaw11.FoldsChains': WHATEVER THE INPUT: true; the input reads as it did. -/
def foldsChainsSpec : ChangeSpec := { name := "foldsChains", fn := fun _ => fun
  | [d1, d2] => { results := [.lit (.bool true)], args := [d1, d2] }
  | _ => none }
def foldsChainsRow : OpenClaim := { program := "ytfpnafeildigaaa", sum := "a075ddc2d41287b9908ee384082ce3b9e034a2b8df1349999e2147a325ad0e0f", func := "invigilator/invigilatorlaw11.FoldsChains", spec := "foldsChains", unfollowed := true, recurses := true, apart := false }
def FoldsChainsSaid : Prop := foldsChainsRow.holds Try.pinned (OpenSpec.ofChange foldsChainsSpec)

/-- ITS FALSE NEIGHBOUR: 'it returns false'. Refute it at one input. -/
def foldsChainsWrong : ChangeSpec := { name := "foldsChains", fn := fun _ => fun
  | [d1, d2] => { results := [.lit (.bool false)], args := [d1, d2] }
  | _ => none }
def FoldsChainsWrongFalsely : Prop := foldsChainsRow.holds Try.pinned (OpenSpec.ofChange foldsChainsWrong)

/-- 'invigilatorlaw11.FoldsFlat': WHATEVER THE INPUT: true; the input reads as it did. -/
def foldsFlatSpec : ChangeSpec := { name := "foldsFlat", fn := fun _ => fun
  | [d] => { results := [.lit (.bool true)], args := [d] }
  | _ => none }
def foldsFlatRow : OpenClaim := { program := "ytfpnafeildigaaa", sum := "a075ddc2d41287b9908ee384082ce3b9e034a2b8df1349999e2147a325ad0e0f", func := "invigilator/invigilatorlaw11.FoldsFlat", spec := "foldsFlat", unfollowed := true, recurses := true, apart := false }
def FoldsFlatSaid : Prop := foldsFlatRow.holds Try.pinned (OpenSpec.ofChange foldsFlatSpec)

/-- ITS FALSE NEIGHBOUR: 'it returns false'. Refute it at one input. -/
def foldsFlatWrong : ChangeSpec := { name := "foldsFlat", fn := fun _ => fun
  | [d] => { results := [.lit (.bool false)], args := [d] }
  | _ => none }
def FoldsFlatWrongFalsely : Prop := foldsFlatRow.holds Try.pinned (OpenSpec.ofChange foldsFlatWrong)

/- THE SECOND FORM. 'bulk': how many values and letters a reading holds, each counted each time it is reached (what is shared counts as often as it is met; a slice's spare places count too). A statement '..UptoSaid' is the law's where the arguments, and the package variables that the reading takes, are together of bulk at most 1048576: NARROWER than '..Said'. Prove '..Said' where nothing that the law and all that it calls make is longer than what came in: it says more and counts as full. Else prove '..UptoSaid'. A law counts once. -/
mutual
def uptoBulk {H : Type} : DataW H → Nat
  | .lit (.string bytes) => bytes.length + 1
  | .lit _ => 1
  | .nil => 1
  | .ptr d => uptoBulk d + 1
  | .slice elems spare => uptoBulkAll elems + uptoBulkAll spare + 1
  | .agg parts => uptoBulkAll parts + 1
  | .iface _ d => uptoBulk d + 1
  | .map entries => uptoBulkEntries entries + 1
  | .held _ => 1
def uptoBulkAll {H : Type} : List (DataW H) → Nat
  | [] => 0
  | d :: r => uptoBulk d + uptoBulkAll r
def uptoBulkEntries {H : Type} : List (Lit × DataW H) → Nat
  | [] => 0
  | x :: r => uptoBulkEntry x + uptoBulkEntries r
def uptoBulkEntry {H : Type} : Lit × DataW H → Nat
  | (.string bytes, d) => bytes.length + uptoBulk d + 1
  | (_, d) => uptoBulk d + 1
 end
def uptoSmall : (H : Type) → List (DataW H) → Bool := fun _ ds => decide (uptoBulkAll ds ≤ 1048576)
def OpenSpec.upto (s : _root_.Go.ChangeSpec) : _root_.Go.OpenSpec := { _root_.Go.OpenSpec.ofChange s with cond := some uptoSmall }

/-- 'invigilatorlaw10.ExtendOnes', WHERE WHAT IT READS IS OF BULK AT MOST 1048576: true; the input reads as it did. -/
def extendOnesUptoRow : OpenClaim := { program := "ytfpnafeildigaaa", sum := "a075ddc2d41287b9908ee384082ce3b9e034a2b8df1349999e2147a325ad0e0f", func := "invigilator/invigilatorlaw10.ExtendOnes", spec := "extendOnes", unfollowed := true, recurses := true, apart := false, narrowed := true }
def ExtendOnesUptoSaid : Prop := extendOnesUptoRow.holds Try.pinned (OpenSpec.upto extendOnesSpec)

/-- 'invigilatorlaw10.ExtendTwos', WHERE WHAT IT READS IS OF BULK AT MOST 1048576: true; the input reads as it did. -/
def extendTwosUptoRow : OpenClaim := { program := "ytfpnafeildigaaa", sum := "a075ddc2d41287b9908ee384082ce3b9e034a2b8df1349999e2147a325ad0e0f", func := "invigilator/invigilatorlaw10.ExtendTwos", spec := "extendTwos", unfollowed := true, recurses := true, apart := false, narrowed := true }
def ExtendTwosUptoSaid : Prop := extendTwosUptoRow.holds Try.pinned (OpenSpec.upto extendTwosSpec)

/-- 'invigilatorlaw10.ExtendCells', WHERE WHAT IT READS IS OF BULK AT MOST 1048576: true; the input reads as it did. -/
def extendCellsUptoRow : OpenClaim := { program := "ytfpnafeildigaaa", sum := "a075ddc2d41287b9908ee384082ce3b9e034a2b8df1349999e2147a325ad0e0f", func := "invigilator/invigilatorlaw10.ExtendCells", spec := "extendCells", unfollowed := true, recurses := true, apart := false, narrowed := true }
def ExtendCellsUptoSaid : Prop := extendCellsUptoRow.holds Try.pinned (OpenSpec.upto extendCellsSpec)

/-- 'invigilatorlaw10.ExtendScalars', WHERE WHAT IT READS IS OF BULK AT MOST 1048576: true; the input reads as it did. -/
def extendScalarsUptoRow : OpenClaim := { program := "ytfpnafeildigaaa", sum := "a075ddc2d41287b9908ee384082ce3b9e034a2b8df1349999e2147a325ad0e0f", func := "invigilator/invigilatorlaw10.ExtendScalars", spec := "extendScalars", unfollowed := true, recurses := true, apart := false, narrowed := true }
def ExtendScalarsUptoSaid : Prop := extendScalarsUptoRow.holds Try.pinned (OpenSpec.upto extendScalarsSpec)

/-- 'invigilatorlaw10.ExtendTurns', WHERE WHAT IT READS IS OF BULK AT MOST 1048576: true; the input reads as it did. -/
def extendTurnsUptoRow : OpenClaim := { program := "ytfpnafeildigaaa", sum := "a075ddc2d41287b9908ee384082ce3b9e034a2b8df1349999e2147a325ad0e0f", func := "invigilator/invigilatorlaw10.ExtendTurns", spec := "extendTurns", unfollowed := true, recurses := true, apart := false, narrowed := true }
def ExtendTurnsUptoSaid : Prop := extendTurnsUptoRow.holds Try.pinned (OpenSpec.upto extendTurnsSpec)

/-- 'invigilatorlaw10.ExtendParts', WHERE WHAT IT READS IS OF BULK AT MOST 1048576: true; the input reads as it did. -/
def extendPartsUptoRow : OpenClaim := { program := "ytfpnafeildigaaa", sum := "a075ddc2d41287b9908ee384082ce3b9e034a2b8df1349999e2147a325ad0e0f", func := "invigilator/invigilatorlaw10.ExtendParts", spec := "extendParts", unfollowed := true, recurses := true, apart := false, narrowed := true }
def ExtendPartsUptoSaid : Prop := extendPartsUptoRow.holds Try.pinned (OpenSpec.upto extendPartsSpec)

/-- 'invigilatorlaw10.ExtendFlips', WHERE WHAT IT READS IS OF BULK AT MOST 1048576: true; the input reads as it did. -/
def extendFlipsUptoRow : OpenClaim := { program := "ytfpnafeildigaaa", sum := "a075ddc2d41287b9908ee384082ce3b9e034a2b8df1349999e2147a325ad0e0f", func := "invigilator/invigilatorlaw10.ExtendFlips", spec := "extendFlips", unfollowed := true, recurses := true, apart := false, narrowed := true }
def ExtendFlipsUptoSaid : Prop := extendFlipsUptoRow.holds Try.pinned (OpenSpec.upto extendFlipsSpec)

/-- 'invigilatorlaw10.ExtendOwn', WHERE WHAT IT READS IS OF BULK AT MOST 1048576: true; the input reads as it did. -/
def extendOwnUptoRow : OpenClaim := { program := "ytfpnafeildigaaa", sum := "a075ddc2d41287b9908ee384082ce3b9e034a2b8df1349999e2147a325ad0e0f", func := "invigilator/invigilatorlaw10.ExtendOwn", spec := "extendOwn", unfollowed := true, recurses := true, apart := false, narrowed := true }
def ExtendOwnUptoSaid : Prop := extendOwnUptoRow.holds Try.pinned (OpenSpec.upto extendOwnSpec)

/-- 'invigilatorlaw11.FoldsSums', WHERE WHAT IT READS IS OF BULK AT MOST 1048576: true; the input reads as it did. -/
def foldsSumsUptoRow : OpenClaim := { program := "ytfpnafeildigaaa", sum := "a075ddc2d41287b9908ee384082ce3b9e034a2b8df1349999e2147a325ad0e0f", func := "invigilator/invigilatorlaw11.FoldsSums", spec := "foldsSums", unfollowed := true, recurses := true, apart := false, narrowed := true }
def FoldsSumsUptoSaid : Prop := foldsSumsUptoRow.holds Try.pinned (OpenSpec.upto foldsSumsSpec)

/-- 'invigilatorlaw11.FoldsEnds', WHERE WHAT IT READS IS OF BULK AT MOST 1048576: true; the input reads as it did. -/
def foldsEndsUptoRow : OpenClaim := { program := "ytfpnafeildigaaa", sum := "a075ddc2d41287b9908ee384082ce3b9e034a2b8df1349999e2147a325ad0e0f", func := "invigilator/invigilatorlaw11.FoldsEnds", spec := "foldsEnds", unfollowed := true, recurses := true, apart := false, narrowed := true }
def FoldsEndsUptoSaid : Prop := foldsEndsUptoRow.holds Try.pinned (OpenSpec.upto foldsEndsSpec)

/-- 'invigilatorlaw11.FoldsScans', WHERE WHAT IT READS IS OF BULK AT MOST 1048576: true; the input reads as it did. -/
def foldsScansUptoRow : OpenClaim := { program := "ytfpnafeildigaaa", sum := "a075ddc2d41287b9908ee384082ce3b9e034a2b8df1349999e2147a325ad0e0f", func := "invigilator/invigilatorlaw11.FoldsScans", spec := "foldsScans", unfollowed := true, recurses := true, apart := false, narrowed := true }
def FoldsScansUptoSaid : Prop := foldsScansUptoRow.holds Try.pinned (OpenSpec.upto foldsScansSpec)

/-- 'invigilatorlaw11.FoldsBounds', WHERE WHAT IT READS IS OF BULK AT MOST 1048576: true; the input reads as it did. -/
def foldsBoundsUptoRow : OpenClaim := { program := "ytfpnafeildigaaa", sum := "a075ddc2d41287b9908ee384082ce3b9e034a2b8df1349999e2147a325ad0e0f", func := "invigilator/invigilatorlaw11.FoldsBounds", spec := "foldsBounds", unfollowed := true, recurses := true, apart := false, narrowed := true }
def FoldsBoundsUptoSaid : Prop := foldsBoundsUptoRow.holds Try.pinned (OpenSpec.upto foldsBoundsSpec)

/-- 'invigilatorlaw11.FoldsParts', WHERE WHAT IT READS IS OF BULK AT MOST 1048576: true; the input reads as it did. -/
def foldsPartsUptoRow : OpenClaim := { program := "ytfpnafeildigaaa", sum := "a075ddc2d41287b9908ee384082ce3b9e034a2b8df1349999e2147a325ad0e0f", func := "invigilator/invigilatorlaw11.FoldsParts", spec := "foldsParts", unfollowed := true, recurses := true, apart := false, narrowed := true }
def FoldsPartsUptoSaid : Prop := foldsPartsUptoRow.holds Try.pinned (OpenSpec.upto foldsPartsSpec)

/-- 'invigilatorlaw11.FoldsRows', WHERE WHAT IT READS IS OF BULK AT MOST 1048576: true; the input reads as it did. -/
def foldsRowsUptoRow : OpenClaim := { program := "ytfpnafeildigaaa", sum := "a075ddc2d41287b9908ee384082ce3b9e034a2b8df1349999e2147a325ad0e0f", func := "invigilator/invigilatorlaw11.FoldsRows", spec := "foldsRows", unfollowed := true, recurses := true, apart := false, narrowed := true }
def FoldsRowsUptoSaid : Prop := foldsRowsUptoRow.holds Try.pinned (OpenSpec.upto foldsRowsSpec)

/-- 'invigilatorlaw11.FoldsChains', WHERE WHAT IT READS IS OF BULK AT MOST 1048576: true; the input reads as it did. -/
def foldsChainsUptoRow : OpenClaim := { program := "ytfpnafeildigaaa", sum := "a075ddc2d41287b9908ee384082ce3b9e034a2b8df1349999e2147a325ad0e0f", func := "invigilator/invigilatorlaw11.FoldsChains", spec := "foldsChains", unfollowed := true, recurses := true, apart := false, narrowed := true }
def FoldsChainsUptoSaid : Prop := foldsChainsUptoRow.holds Try.pinned (OpenSpec.upto foldsChainsSpec)

/-- 'invigilatorlaw11.FoldsFlat', WHERE WHAT IT READS IS OF BULK AT MOST 1048576: true; the input reads as it did. -/
def foldsFlatUptoRow : OpenClaim := { program := "ytfpnafeildigaaa", sum := "a075ddc2d41287b9908ee384082ce3b9e034a2b8df1349999e2147a325ad0e0f", func := "invigilator/invigilatorlaw11.FoldsFlat", spec := "foldsFlat", unfollowed := true, recurses := true, apart := false, narrowed := true }
def FoldsFlatUptoSaid : Prop := foldsFlatUptoRow.holds Try.pinned (OpenSpec.upto foldsFlatSpec)

end Rows
end Go.Proofs.Ytfpnafeildigaaa
