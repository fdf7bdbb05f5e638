/-
  NARROWER THAN 'FOR EVERY INPUT', by the rows' own cells (each row's printed sentence says how): ExprChecks: laid · ExprParts: laid · ExprTree: laid · ExprTogether: laid · ExprReplaces: laid · ExprLists: laid · ExprKnown: laid · ExprSwaps: laid.
  DERIVED. THE GIVEN ROWS OF THIS SEAT. 8 by the template 'for every input the law returns true; each argument reads behind the call as it read before'; 0 by the template 'total and deterministic' (their statements: YtpkldfkmokeamaaGreatDoorTotals.lean).
  GIVEN WITH THE SEED: the statements are not yours to turn. If you find one false, say at which input.
  Laid BY PROGRAM, IN A SANDBOX (cutbox-rows.mjs): the forced cells as the released guide's own fill.sh prints them over the translation a220616c66bc1fad… (all of the seat's roots in one cut). By AI agents, Wed Nov 11 2026. No macro, syntax, notation, axiom, sorry.
-/
import Derived.Test.YtpkldfkmokeamaaGreatDoorChecked
import GoSem.PinnedTables
import GoSem.Claim
import GoSem.ClaimJoined
import GoSem.ClaimMapViews
import Derived.JoinedTies
import Derived.KernelRfl
namespace Go.Proofs.YtpkldfkmokeamaaGreatDoor
/- THE CELL 'sum', in the pinned program and in every row, IS THE sha256 OF THE DUMP (.gsa) THAT YtpkldfkmokeamaaGreatDoorProg.lean LOADS. Nothing in Lean hashes anything: it is a label: what it is worth is what the hold of that sum in a sandbox is worth. -/
noncomputable def Tryz.pinned : Pinned := { name := "ytpkldfkmokeamaagreatdoor", sum := "a220616c66bc1faded1dd88b5e7789468e8556bbd65a4557c981a87c1cff76a4", checked := Tryz.checked }
namespace Rows
def none {H : Type} : Left H := { results := [], args := [] }

/- WHAT THE LISTED PACKAGE-LEVEL VARIABLES READ AS WHEN THE CALL BEGINS. Each datum BY PROGRAM (the guide's laid-datum.mjs) off the statement by which the dump's own 'gosem.cut.vars' lays the variable. In a bare row this is a premise. The card (YtpkldfkmokeamaaGreatDoorCards.lean) ties it to the program's text. -/
def laid_unicode_utf8_acceptRanges {H : Type} : DataW H := .agg [.agg [.lit (.int .u8 128), .lit (.int .u8 191)], .agg [.lit (.int .u8 160), .lit (.int .u8 191)], .agg [.lit (.int .u8 128), .lit (.int .u8 159)], .agg [.lit (.int .u8 144), .lit (.int .u8 191)], .agg [.lit (.int .u8 128), .lit (.int .u8 143)], .agg [.lit (.int .u8 0), .lit (.int .u8 0)], .agg [.lit (.int .u8 0), .lit (.int .u8 0)], .agg [.lit (.int .u8 0), .lit (.int .u8 0)], .agg [.lit (.int .u8 0), .lit (.int .u8 0)], .agg [.lit (.int .u8 0), .lit (.int .u8 0)], .agg [.lit (.int .u8 0), .lit (.int .u8 0)], .agg [.lit (.int .u8 0), .lit (.int .u8 0)], .agg [.lit (.int .u8 0), .lit (.int .u8 0)], .agg [.lit (.int .u8 0), .lit (.int .u8 0)], .agg [.lit (.int .u8 0), .lit (.int .u8 0)], .agg [.lit (.int .u8 0), .lit (.int .u8 0)]]
def laid_invigilator_prims_numbers {H : Type} : DataW H := .slice [.lit (.string [105, 110, 105, 110]), .lit (.string [105, 48, 105, 110, 105, 110]), .lit (.string [105, 110, 105, 48, 105, 110]), .lit (.string [105, 110, 105, 110, 105, 110])] []
def laid_invigilator_prims_alike {H : Type} : DataW H := .slice [.lit (.string [107, 48, 107, 110, 105, 110]), .lit (.string [107, 110, 107, 48, 105, 110]), .lit (.string [107, 110, 107, 110, 105, 110])] []
/-- One of Go's own tables, pinned by name: the form's constant. -/
def laid_unicode_utf8_first : DataW Unit := Go.Pinned.utf8First

/-- 'invigilatorlaw15.ExprChecks': WHATEVER THE INPUT: true; the input reads as it did. -/
def exprChecksSpec : ChangeSpec := { name := "exprChecks", fn := fun _ => fun
  | [d1, d2] => { results := [.lit (.bool true)], args := [d1, d2] }
  | _ => none }
def exprChecksRow : OpenClaim := { program := "ytpkldfkmokeamaagreatdoor", sum := "a220616c66bc1faded1dd88b5e7789468e8556bbd65a4557c981a87c1cff76a4", func := "invigilator/invigilatorlaw15.ExprChecks", spec := "exprChecks", inPlace := ["internal/bytealg.IndexByteString", "internal/bytealg.IndexString"], unfollowed := true, recurses := true, named := ["invigilator/prims.numbers", "invigilator/prims.alike", "unicode/utf8.first", "unicode/utf8.acceptRanges", "internal/bytealg.MaxLen"], apart := false, laid := [("unicode/utf8.acceptRanges", laid_unicode_utf8_acceptRanges), ("invigilator/prims.numbers", laid_invigilator_prims_numbers), ("invigilator/prims.alike", laid_invigilator_prims_alike), ("unicode/utf8.first", laid_unicode_utf8_first)] }
def ExprChecksSaid : Prop := exprChecksRow.holds Tryz.pinned (OpenSpec.ofChange exprChecksSpec)

/-- ITS FALSE NEIGHBOUR: 'it returns false'. Refute it at one input. -/
def exprChecksWrong : ChangeSpec := { name := "exprChecks", fn := fun _ => fun
  | [d1, d2] => { results := [.lit (.bool false)], args := [d1, d2] }
  | _ => none }
def ExprChecksWrongFalsely : Prop := exprChecksRow.holds Tryz.pinned (OpenSpec.ofChange exprChecksWrong)

/-- 'invigilatorlaw15.ExprParts': WHATEVER THE INPUT: true; the input reads as it did. -/
def exprPartsSpec : ChangeSpec := { name := "exprParts", fn := fun _ => fun
  | [d1, d2] => { results := [.lit (.bool true)], args := [d1, d2] }
  | _ => none }
def exprPartsRow : OpenClaim := { program := "ytpkldfkmokeamaagreatdoor", sum := "a220616c66bc1faded1dd88b5e7789468e8556bbd65a4557c981a87c1cff76a4", func := "invigilator/invigilatorlaw15.ExprParts", spec := "exprParts", inPlace := ["internal/bytealg.IndexByteString", "internal/bytealg.IndexString"], unfollowed := true, recurses := true, named := ["invigilator/prims.numbers", "invigilator/prims.alike", "unicode/utf8.first", "unicode/utf8.acceptRanges", "internal/bytealg.MaxLen"], apart := false, laid := [("unicode/utf8.acceptRanges", laid_unicode_utf8_acceptRanges), ("invigilator/prims.numbers", laid_invigilator_prims_numbers), ("invigilator/prims.alike", laid_invigilator_prims_alike), ("unicode/utf8.first", laid_unicode_utf8_first)] }
def ExprPartsSaid : Prop := exprPartsRow.holds Tryz.pinned (OpenSpec.ofChange exprPartsSpec)

/-- ITS FALSE NEIGHBOUR: 'it returns false'. Refute it at one input. -/
def exprPartsWrong : ChangeSpec := { name := "exprParts", fn := fun _ => fun
  | [d1, d2] => { results := [.lit (.bool false)], args := [d1, d2] }
  | _ => none }
def ExprPartsWrongFalsely : Prop := exprPartsRow.holds Tryz.pinned (OpenSpec.ofChange exprPartsWrong)

/-- 'invigilatorlaw15.ExprTree': WHATEVER THE INPUT: true; the input reads as it did. -/
def exprTreeSpec : ChangeSpec := { name := "exprTree", fn := fun _ => fun
  | [d] => { results := [.lit (.bool true)], args := [d] }
  | _ => none }
def exprTreeRow : OpenClaim := { program := "ytpkldfkmokeamaagreatdoor", sum := "a220616c66bc1faded1dd88b5e7789468e8556bbd65a4557c981a87c1cff76a4", func := "invigilator/invigilatorlaw15.ExprTree", spec := "exprTree", inPlace := ["internal/bytealg.IndexByteString", "internal/bytealg.IndexString"], unfollowed := true, recurses := true, named := ["invigilator/prims.numbers", "invigilator/prims.alike", "unicode/utf8.first", "unicode/utf8.acceptRanges", "internal/bytealg.MaxLen"], apart := false, laid := [("unicode/utf8.acceptRanges", laid_unicode_utf8_acceptRanges), ("invigilator/prims.numbers", laid_invigilator_prims_numbers), ("invigilator/prims.alike", laid_invigilator_prims_alike), ("unicode/utf8.first", laid_unicode_utf8_first)] }
def ExprTreeSaid : Prop := exprTreeRow.holds Tryz.pinned (OpenSpec.ofChange exprTreeSpec)

/-- ITS FALSE NEIGHBOUR: 'it returns false'. Refute it at one input. -/
def exprTreeWrong : ChangeSpec := { name := "exprTree", fn := fun _ => fun
  | [d] => { results := [.lit (.bool false)], args := [d] }
  | _ => none }
def ExprTreeWrongFalsely : Prop := exprTreeRow.holds Tryz.pinned (OpenSpec.ofChange exprTreeWrong)

/-- 'invigilatorlaw15.ExprTogether': WHATEVER THE INPUT: true; the input reads as it did. -/
def exprTogetherSpec : ChangeSpec := { name := "exprTogether", fn := fun _ => fun
  | [d1, d2] => { results := [.lit (.bool true)], args := [d1, d2] }
  | _ => none }
def exprTogetherRow : OpenClaim := { program := "ytpkldfkmokeamaagreatdoor", sum := "a220616c66bc1faded1dd88b5e7789468e8556bbd65a4557c981a87c1cff76a4", func := "invigilator/invigilatorlaw15.ExprTogether", spec := "exprTogether", inPlace := ["internal/bytealg.IndexByteString", "internal/bytealg.IndexString"], unfollowed := true, recurses := true, named := ["invigilator/prims.numbers", "invigilator/prims.alike", "unicode/utf8.first", "unicode/utf8.acceptRanges", "internal/bytealg.MaxLen"], apart := false, laid := [("unicode/utf8.acceptRanges", laid_unicode_utf8_acceptRanges), ("invigilator/prims.numbers", laid_invigilator_prims_numbers), ("invigilator/prims.alike", laid_invigilator_prims_alike), ("unicode/utf8.first", laid_unicode_utf8_first)] }
def ExprTogetherSaid : Prop := exprTogetherRow.holds Tryz.pinned (OpenSpec.ofChange exprTogetherSpec)

/-- ITS FALSE NEIGHBOUR: 'it returns false'. Refute it at one input. -/
def exprTogetherWrong : ChangeSpec := { name := "exprTogether", fn := fun _ => fun
  | [d1, d2] => { results := [.lit (.bool false)], args := [d1, d2] }
  | _ => none }
def ExprTogetherWrongFalsely : Prop := exprTogetherRow.holds Tryz.pinned (OpenSpec.ofChange exprTogetherWrong)

/-- 'invigilatorlaw15.ExprReplaces': WHATEVER THE INPUT: true; the input reads as it did. -/
def exprReplacesSpec : ChangeSpec := { name := "exprReplaces", fn := fun _ => fun
  | [d1, d2, d3] => { results := [.lit (.bool true)], args := [d1, d2, d3] }
  | _ => none }
def exprReplacesRow : OpenClaim := { program := "ytpkldfkmokeamaagreatdoor", sum := "a220616c66bc1faded1dd88b5e7789468e8556bbd65a4557c981a87c1cff76a4", func := "invigilator/invigilatorlaw15.ExprReplaces", spec := "exprReplaces", inPlace := ["internal/bytealg.IndexByteString", "internal/bytealg.IndexString"], unfollowed := true, recurses := true, named := ["invigilator/prims.numbers", "invigilator/prims.alike", "unicode/utf8.first", "unicode/utf8.acceptRanges", "internal/bytealg.MaxLen"], apart := false, laid := [("unicode/utf8.acceptRanges", laid_unicode_utf8_acceptRanges), ("invigilator/prims.numbers", laid_invigilator_prims_numbers), ("invigilator/prims.alike", laid_invigilator_prims_alike), ("unicode/utf8.first", laid_unicode_utf8_first)] }
def ExprReplacesSaid : Prop := exprReplacesRow.holds Tryz.pinned (OpenSpec.ofChange exprReplacesSpec)

/-- ITS FALSE NEIGHBOUR: 'it returns false'. Refute it at one input. -/
def exprReplacesWrong : ChangeSpec := { name := "exprReplaces", fn := fun _ => fun
  | [d1, d2, d3] => { results := [.lit (.bool false)], args := [d1, d2, d3] }
  | _ => none }
def ExprReplacesWrongFalsely : Prop := exprReplacesRow.holds Tryz.pinned (OpenSpec.ofChange exprReplacesWrong)

/-- 'invigilatorlaw15.ExprLists': WHATEVER THE INPUT: true; the input reads as it did. -/
def exprListsSpec : ChangeSpec := { name := "exprLists", fn := fun _ => fun
  | [d1, d2] => { results := [.lit (.bool true)], args := [d1, d2] }
  | _ => none }
def exprListsRow : OpenClaim := { program := "ytpkldfkmokeamaagreatdoor", sum := "a220616c66bc1faded1dd88b5e7789468e8556bbd65a4557c981a87c1cff76a4", func := "invigilator/invigilatorlaw15.ExprLists", spec := "exprLists", inPlace := ["internal/bytealg.IndexByteString", "internal/bytealg.IndexString"], unfollowed := true, recurses := true, named := ["invigilator/prims.numbers", "invigilator/prims.alike", "unicode/utf8.first", "unicode/utf8.acceptRanges", "internal/bytealg.MaxLen"], apart := false, laid := [("unicode/utf8.acceptRanges", laid_unicode_utf8_acceptRanges), ("invigilator/prims.numbers", laid_invigilator_prims_numbers), ("invigilator/prims.alike", laid_invigilator_prims_alike), ("unicode/utf8.first", laid_unicode_utf8_first)] }
def ExprListsSaid : Prop := exprListsRow.holds Tryz.pinned (OpenSpec.ofChange exprListsSpec)

/-- ITS FALSE NEIGHBOUR: 'it returns false'. Refute it at one input. -/
def exprListsWrong : ChangeSpec := { name := "exprLists", fn := fun _ => fun
  | [d1, d2] => { results := [.lit (.bool false)], args := [d1, d2] }
  | _ => none }
def ExprListsWrongFalsely : Prop := exprListsRow.holds Tryz.pinned (OpenSpec.ofChange exprListsWrong)

/-- 'invigilatorlaw15.ExprKnown': WHATEVER THE INPUT: true; the input reads as it did. -/
def exprKnownSpec : ChangeSpec := { name := "exprKnown", fn := fun _ => fun
  | [] => { results := [.lit (.bool true)], args := [] }
  | _ => none }
def exprKnownRow : OpenClaim := { program := "ytpkldfkmokeamaagreatdoor", sum := "a220616c66bc1faded1dd88b5e7789468e8556bbd65a4557c981a87c1cff76a4", func := "invigilator/invigilatorlaw15.ExprKnown", spec := "exprKnown", inPlace := ["internal/bytealg.IndexByteString", "internal/bytealg.IndexString"], unfollowed := true, recurses := true, named := ["invigilator/prims.numbers", "invigilator/prims.alike", "unicode/utf8.first", "unicode/utf8.acceptRanges", "internal/bytealg.MaxLen"], apart := false, laid := [("unicode/utf8.acceptRanges", laid_unicode_utf8_acceptRanges), ("invigilator/prims.numbers", laid_invigilator_prims_numbers), ("invigilator/prims.alike", laid_invigilator_prims_alike), ("unicode/utf8.first", laid_unicode_utf8_first)] }
def ExprKnownSaid : Prop := exprKnownRow.holds Tryz.pinned (OpenSpec.ofChange exprKnownSpec)

/-- ITS FALSE NEIGHBOUR: 'it returns false'. Refute it at one input. -/
def exprKnownWrong : ChangeSpec := { name := "exprKnown", fn := fun _ => fun
  | [] => { results := [.lit (.bool false)], args := [] }
  | _ => none }
def ExprKnownWrongFalsely : Prop := exprKnownRow.holds Tryz.pinned (OpenSpec.ofChange exprKnownWrong)

/-- 'invigilatorlaw15.ExprSwaps': WHATEVER THE INPUT: true; the input reads as it did. -/
def exprSwapsSpec : ChangeSpec := { name := "exprSwaps", fn := fun _ => fun
  | [d1, d2, d3] => { results := [.lit (.bool true)], args := [d1, d2, d3] }
  | _ => none }
def exprSwapsRow : OpenClaim := { program := "ytpkldfkmokeamaagreatdoor", sum := "a220616c66bc1faded1dd88b5e7789468e8556bbd65a4557c981a87c1cff76a4", func := "invigilator/invigilatorlaw15.ExprSwaps", spec := "exprSwaps", inPlace := ["internal/bytealg.IndexByteString", "internal/bytealg.IndexString"], unfollowed := true, recurses := true, named := ["invigilator/prims.numbers", "invigilator/prims.alike", "unicode/utf8.first", "unicode/utf8.acceptRanges", "internal/bytealg.MaxLen"], apart := false, laid := [("unicode/utf8.acceptRanges", laid_unicode_utf8_acceptRanges), ("invigilator/prims.numbers", laid_invigilator_prims_numbers), ("invigilator/prims.alike", laid_invigilator_prims_alike), ("unicode/utf8.first", laid_unicode_utf8_first)] }
def ExprSwapsSaid : Prop := exprSwapsRow.holds Tryz.pinned (OpenSpec.ofChange exprSwapsSpec)

/-- ITS FALSE NEIGHBOUR: 'it returns false'. Refute it at one input. -/
def exprSwapsWrong : ChangeSpec := { name := "exprSwaps", fn := fun _ => fun
  | [d1, d2, d3] => { results := [.lit (.bool false)], args := [d1, d2, d3] }
  | _ => none }
def ExprSwapsWrongFalsely : Prop := exprSwapsRow.holds Tryz.pinned (OpenSpec.ofChange exprSwapsWrong)

/- THE SECOND FORM. 'bulk': how many values and letters a reading holds, each counted each time it is reached (what is shared counts as often as it is met; a slice's spare places count too). A statement '..UptoSaid' is the law's where the arguments, and the package variables that the reading takes, are together of bulk at most 1048576: NARROWER than '..Said'. Prove '..Said' where nothing that the law and all that it calls make is longer than what came in: it says more and counts as full. Else prove '..UptoSaid'. A law counts once. -/
mutual
def uptoBulk {H : Type} : DataW H → Nat
  | .lit (.string bytes) => bytes.length + 1
  | .lit _ => 1
  | .nil => 1
  | .ptr d => uptoBulk d + 1
  | .slice elems spare => uptoBulkAll elems + uptoBulkAll spare + 1
  | .agg parts => uptoBulkAll parts + 1
  | .iface _ d => uptoBulk d + 1
  | .map entries => uptoBulkEntries entries + 1
  | .held _ => 1
def uptoBulkAll {H : Type} : List (DataW H) → Nat
  | [] => 0
  | d :: r => uptoBulk d + uptoBulkAll r
def uptoBulkEntries {H : Type} : List (Lit × DataW H) → Nat
  | [] => 0
  | x :: r => uptoBulkEntry x + uptoBulkEntries r
def uptoBulkEntry {H : Type} : Lit × DataW H → Nat
  | (.string bytes, d) => bytes.length + uptoBulk d + 1
  | (_, d) => uptoBulk d + 1
 end
def uptoSmall : (H : Type) → List (DataW H) → Bool := fun _ ds => decide (uptoBulkAll ds ≤ 1048576)
def OpenSpec.upto (s : _root_.Go.ChangeSpec) : _root_.Go.OpenSpec := { _root_.Go.OpenSpec.ofChange s with cond := some uptoSmall }

/-- 'invigilatorlaw15.ExprChecks', WHERE WHAT IT READS IS OF BULK AT MOST 1048576: true; the input reads as it did. -/
def exprChecksUptoRow : OpenClaim := { program := "ytpkldfkmokeamaagreatdoor", sum := "a220616c66bc1faded1dd88b5e7789468e8556bbd65a4557c981a87c1cff76a4", func := "invigilator/invigilatorlaw15.ExprChecks", spec := "exprChecks", inPlace := ["internal/bytealg.IndexByteString", "internal/bytealg.IndexString"], unfollowed := true, recurses := true, named := ["invigilator/prims.numbers", "invigilator/prims.alike", "unicode/utf8.first", "unicode/utf8.acceptRanges", "internal/bytealg.MaxLen"], apart := false, laid := [("unicode/utf8.acceptRanges", laid_unicode_utf8_acceptRanges), ("invigilator/prims.numbers", laid_invigilator_prims_numbers), ("invigilator/prims.alike", laid_invigilator_prims_alike), ("unicode/utf8.first", laid_unicode_utf8_first)], narrowed := true }
def ExprChecksUptoSaid : Prop := exprChecksUptoRow.holds Tryz.pinned (OpenSpec.upto exprChecksSpec)

/-- 'invigilatorlaw15.ExprParts', WHERE WHAT IT READS IS OF BULK AT MOST 1048576: true; the input reads as it did. -/
def exprPartsUptoRow : OpenClaim := { program := "ytpkldfkmokeamaagreatdoor", sum := "a220616c66bc1faded1dd88b5e7789468e8556bbd65a4557c981a87c1cff76a4", func := "invigilator/invigilatorlaw15.ExprParts", spec := "exprParts", inPlace := ["internal/bytealg.IndexByteString", "internal/bytealg.IndexString"], unfollowed := true, recurses := true, named := ["invigilator/prims.numbers", "invigilator/prims.alike", "unicode/utf8.first", "unicode/utf8.acceptRanges", "internal/bytealg.MaxLen"], apart := false, laid := [("unicode/utf8.acceptRanges", laid_unicode_utf8_acceptRanges), ("invigilator/prims.numbers", laid_invigilator_prims_numbers), ("invigilator/prims.alike", laid_invigilator_prims_alike), ("unicode/utf8.first", laid_unicode_utf8_first)], narrowed := true }
def ExprPartsUptoSaid : Prop := exprPartsUptoRow.holds Tryz.pinned (OpenSpec.upto exprPartsSpec)

/-- 'invigilatorlaw15.ExprTree', WHERE WHAT IT READS IS OF BULK AT MOST 1048576: true; the input reads as it did. -/
def exprTreeUptoRow : OpenClaim := { program := "ytpkldfkmokeamaagreatdoor", sum := "a220616c66bc1faded1dd88b5e7789468e8556bbd65a4557c981a87c1cff76a4", func := "invigilator/invigilatorlaw15.ExprTree", spec := "exprTree", inPlace := ["internal/bytealg.IndexByteString", "internal/bytealg.IndexString"], unfollowed := true, recurses := true, named := ["invigilator/prims.numbers", "invigilator/prims.alike", "unicode/utf8.first", "unicode/utf8.acceptRanges", "internal/bytealg.MaxLen"], apart := false, laid := [("unicode/utf8.acceptRanges", laid_unicode_utf8_acceptRanges), ("invigilator/prims.numbers", laid_invigilator_prims_numbers), ("invigilator/prims.alike", laid_invigilator_prims_alike), ("unicode/utf8.first", laid_unicode_utf8_first)], narrowed := true }
def ExprTreeUptoSaid : Prop := exprTreeUptoRow.holds Tryz.pinned (OpenSpec.upto exprTreeSpec)

/-- 'invigilatorlaw15.ExprTogether', WHERE WHAT IT READS IS OF BULK AT MOST 1048576: true; the input reads as it did. -/
def exprTogetherUptoRow : OpenClaim := { program := "ytpkldfkmokeamaagreatdoor", sum := "a220616c66bc1faded1dd88b5e7789468e8556bbd65a4557c981a87c1cff76a4", func := "invigilator/invigilatorlaw15.ExprTogether", spec := "exprTogether", inPlace := ["internal/bytealg.IndexByteString", "internal/bytealg.IndexString"], unfollowed := true, recurses := true, named := ["invigilator/prims.numbers", "invigilator/prims.alike", "unicode/utf8.first", "unicode/utf8.acceptRanges", "internal/bytealg.MaxLen"], apart := false, laid := [("unicode/utf8.acceptRanges", laid_unicode_utf8_acceptRanges), ("invigilator/prims.numbers", laid_invigilator_prims_numbers), ("invigilator/prims.alike", laid_invigilator_prims_alike), ("unicode/utf8.first", laid_unicode_utf8_first)], narrowed := true }
def ExprTogetherUptoSaid : Prop := exprTogetherUptoRow.holds Tryz.pinned (OpenSpec.upto exprTogetherSpec)

/-- 'invigilatorlaw15.ExprReplaces', WHERE WHAT IT READS IS OF BULK AT MOST 1048576: true; the input reads as it did. -/
def exprReplacesUptoRow : OpenClaim := { program := "ytpkldfkmokeamaagreatdoor", sum := "a220616c66bc1faded1dd88b5e7789468e8556bbd65a4557c981a87c1cff76a4", func := "invigilator/invigilatorlaw15.ExprReplaces", spec := "exprReplaces", inPlace := ["internal/bytealg.IndexByteString", "internal/bytealg.IndexString"], unfollowed := true, recurses := true, named := ["invigilator/prims.numbers", "invigilator/prims.alike", "unicode/utf8.first", "unicode/utf8.acceptRanges", "internal/bytealg.MaxLen"], apart := false, laid := [("unicode/utf8.acceptRanges", laid_unicode_utf8_acceptRanges), ("invigilator/prims.numbers", laid_invigilator_prims_numbers), ("invigilator/prims.alike", laid_invigilator_prims_alike), ("unicode/utf8.first", laid_unicode_utf8_first)], narrowed := true }
def ExprReplacesUptoSaid : Prop := exprReplacesUptoRow.holds Tryz.pinned (OpenSpec.upto exprReplacesSpec)

/-- 'invigilatorlaw15.ExprLists', WHERE WHAT IT READS IS OF BULK AT MOST 1048576: true; the input reads as it did. -/
def exprListsUptoRow : OpenClaim := { program := "ytpkldfkmokeamaagreatdoor", sum := "a220616c66bc1faded1dd88b5e7789468e8556bbd65a4557c981a87c1cff76a4", func := "invigilator/invigilatorlaw15.ExprLists", spec := "exprLists", inPlace := ["internal/bytealg.IndexByteString", "internal/bytealg.IndexString"], unfollowed := true, recurses := true, named := ["invigilator/prims.numbers", "invigilator/prims.alike", "unicode/utf8.first", "unicode/utf8.acceptRanges", "internal/bytealg.MaxLen"], apart := false, laid := [("unicode/utf8.acceptRanges", laid_unicode_utf8_acceptRanges), ("invigilator/prims.numbers", laid_invigilator_prims_numbers), ("invigilator/prims.alike", laid_invigilator_prims_alike), ("unicode/utf8.first", laid_unicode_utf8_first)], narrowed := true }
def ExprListsUptoSaid : Prop := exprListsUptoRow.holds Tryz.pinned (OpenSpec.upto exprListsSpec)

/-- 'invigilatorlaw15.ExprKnown', WHERE WHAT IT READS IS OF BULK AT MOST 1048576: true; the input reads as it did. -/
def exprKnownUptoRow : OpenClaim := { program := "ytpkldfkmokeamaagreatdoor", sum := "a220616c66bc1faded1dd88b5e7789468e8556bbd65a4557c981a87c1cff76a4", func := "invigilator/invigilatorlaw15.ExprKnown", spec := "exprKnown", inPlace := ["internal/bytealg.IndexByteString", "internal/bytealg.IndexString"], unfollowed := true, recurses := true, named := ["invigilator/prims.numbers", "invigilator/prims.alike", "unicode/utf8.first", "unicode/utf8.acceptRanges", "internal/bytealg.MaxLen"], apart := false, laid := [("unicode/utf8.acceptRanges", laid_unicode_utf8_acceptRanges), ("invigilator/prims.numbers", laid_invigilator_prims_numbers), ("invigilator/prims.alike", laid_invigilator_prims_alike), ("unicode/utf8.first", laid_unicode_utf8_first)], narrowed := true }
def ExprKnownUptoSaid : Prop := exprKnownUptoRow.holds Tryz.pinned (OpenSpec.upto exprKnownSpec)

/-- 'invigilatorlaw15.ExprSwaps', WHERE WHAT IT READS IS OF BULK AT MOST 1048576: true; the input reads as it did. -/
def exprSwapsUptoRow : OpenClaim := { program := "ytpkldfkmokeamaagreatdoor", sum := "a220616c66bc1faded1dd88b5e7789468e8556bbd65a4557c981a87c1cff76a4", func := "invigilator/invigilatorlaw15.ExprSwaps", spec := "exprSwaps", inPlace := ["internal/bytealg.IndexByteString", "internal/bytealg.IndexString"], unfollowed := true, recurses := true, named := ["invigilator/prims.numbers", "invigilator/prims.alike", "unicode/utf8.first", "unicode/utf8.acceptRanges", "internal/bytealg.MaxLen"], apart := false, laid := [("unicode/utf8.acceptRanges", laid_unicode_utf8_acceptRanges), ("invigilator/prims.numbers", laid_invigilator_prims_numbers), ("invigilator/prims.alike", laid_invigilator_prims_alike), ("unicode/utf8.first", laid_unicode_utf8_first)], narrowed := true }
def ExprSwapsUptoSaid : Prop := exprSwapsUptoRow.holds Tryz.pinned (OpenSpec.upto exprSwapsSpec)

end Rows
end Go.Proofs.YtpkldfkmokeamaaGreatDoor
