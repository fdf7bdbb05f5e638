/-
  NARROWER THAN 'FOR EVERY INPUT', by the rows' own cells (each row's printed sentence says how): CostPrims: laid · CostExprs: laid · CostBlind: laid · CostAdds: laid · CostCharges: laid · CostStmts: laid · CostLeasts: laid · CostTops: laid · CostKnown: laid.
  DERIVED. THE GIVEN ROWS OF THIS SEAT. 9 by the template 'for every input the law returns true; each argument reads behind the call as it read before'; 0 by the template 'total and deterministic' (their statements: YtapgddiocdcaeaaGreatDoorTotals.lean).
  GIVEN WITH THE SEED: the statements are not yours to turn. If you find one false, say at which input.
  Laid BY PROGRAM, IN A SANDBOX (cutbox-rows.mjs): the forced cells as the released guide's own fill.sh prints them over the translation baab779d148de450… (all of the seat's roots in one cut). By AI agents, Wed Nov 11 2026. No macro, syntax, notation, axiom, sorry.
-/
import Derived.Test.YtapgddiocdcaeaaGreatDoorChecked
import GoSem.PinnedTables
import GoSem.Claim
import GoSem.ClaimJoined
import GoSem.ClaimMapViews
import Derived.JoinedTies
import Derived.KernelRfl
namespace Go.Proofs.YtapgddiocdcaeaaGreatDoor
/- THE CELL 'sum', in the pinned program and in every row, IS THE sha256 OF THE DUMP (.gsa) THAT YtapgddiocdcaeaaGreatDoorProg.lean LOADS. Nothing in Lean hashes anything: it is a label: what it is worth is what the hold of that sum in a sandbox is worth. -/
noncomputable def Tryz.pinned : Pinned := { name := "ytapgddiocdcaeaagreatdoor", sum := "baab779d148de4503576b31e1df6f8db6eddb1304ac5bde3264d407692d545bf", checked := Tryz.checked }
namespace Rows
def none {H : Type} : Left H := { results := [], args := [] }

/- WHAT THE LISTED PACKAGE-LEVEL VARIABLES READ AS WHEN THE CALL BEGINS. Each datum BY PROGRAM (the guide's laid-datum.mjs) off the statement by which the dump's own 'gosem.cut.vars' lays the variable. In a bare row this is a premise. The card (YtapgddiocdcaeaaGreatDoorCards.lean) ties it to the program's text. -/
def laid_unicode_utf8_acceptRanges {H : Type} : DataW H := .agg [.agg [.lit (.int .u8 128), .lit (.int .u8 191)], .agg [.lit (.int .u8 160), .lit (.int .u8 191)], .agg [.lit (.int .u8 128), .lit (.int .u8 159)], .agg [.lit (.int .u8 144), .lit (.int .u8 191)], .agg [.lit (.int .u8 128), .lit (.int .u8 143)], .agg [.lit (.int .u8 0), .lit (.int .u8 0)], .agg [.lit (.int .u8 0), .lit (.int .u8 0)], .agg [.lit (.int .u8 0), .lit (.int .u8 0)], .agg [.lit (.int .u8 0), .lit (.int .u8 0)], .agg [.lit (.int .u8 0), .lit (.int .u8 0)], .agg [.lit (.int .u8 0), .lit (.int .u8 0)], .agg [.lit (.int .u8 0), .lit (.int .u8 0)], .agg [.lit (.int .u8 0), .lit (.int .u8 0)], .agg [.lit (.int .u8 0), .lit (.int .u8 0)], .agg [.lit (.int .u8 0), .lit (.int .u8 0)], .agg [.lit (.int .u8 0), .lit (.int .u8 0)]]
def laid_invigilator_prims_numbers {H : Type} : DataW H := .slice [.lit (.string [105, 110, 105, 110]), .lit (.string [105, 48, 105, 110, 105, 110]), .lit (.string [105, 110, 105, 48, 105, 110]), .lit (.string [105, 110, 105, 110, 105, 110])] []
def laid_invigilator_prims_alike {H : Type} : DataW H := .slice [.lit (.string [107, 48, 107, 110, 105, 110]), .lit (.string [107, 110, 107, 48, 105, 110]), .lit (.string [107, 110, 107, 110, 105, 110])] []
/-- One of Go's own tables, pinned by name: the form's constant. -/
def laid_unicode_utf8_first : DataW Unit := Go.Pinned.utf8First

/-- 'invigilatorlaw25.CostPrims': WHATEVER THE INPUT: true; the input reads as it did. -/
def costPrimsSpec : ChangeSpec := { name := "costPrims", fn := fun _ => fun
  | [d1, d2, d3] => { results := [.lit (.bool true)], args := [d1, d2, d3] }
  | _ => none }
def costPrimsRow : OpenClaim := { program := "ytapgddiocdcaeaagreatdoor", sum := "baab779d148de4503576b31e1df6f8db6eddb1304ac5bde3264d407692d545bf", func := "invigilator/invigilatorlaw25.CostPrims", spec := "costPrims", inPlace := ["internal/bytealg.IndexByteString", "internal/bytealg.IndexString"], unfollowed := true, recurses := true, named := ["invigilator/prims.numbers", "invigilator/prims.alike", "unicode/utf8.first", "unicode/utf8.acceptRanges", "internal/bytealg.MaxLen"], apart := false, laid := [("unicode/utf8.acceptRanges", laid_unicode_utf8_acceptRanges), ("invigilator/prims.numbers", laid_invigilator_prims_numbers), ("invigilator/prims.alike", laid_invigilator_prims_alike), ("unicode/utf8.first", laid_unicode_utf8_first)] }
def CostPrimsSaid : Prop := costPrimsRow.holds Tryz.pinned (OpenSpec.ofChange costPrimsSpec)

/-- ITS FALSE NEIGHBOUR: 'it returns false'. Refute it at one input. -/
def costPrimsWrong : ChangeSpec := { name := "costPrims", fn := fun _ => fun
  | [d1, d2, d3] => { results := [.lit (.bool false)], args := [d1, d2, d3] }
  | _ => none }
def CostPrimsWrongFalsely : Prop := costPrimsRow.holds Tryz.pinned (OpenSpec.ofChange costPrimsWrong)

/-- 'invigilatorlaw25.CostExprs': WHATEVER THE INPUT: true; the input reads as it did. -/
def costExprsSpec : ChangeSpec := { name := "costExprs", fn := fun _ => fun
  | [d1, d2] => { results := [.lit (.bool true)], args := [d1, d2] }
  | _ => none }
def costExprsRow : OpenClaim := { program := "ytapgddiocdcaeaagreatdoor", sum := "baab779d148de4503576b31e1df6f8db6eddb1304ac5bde3264d407692d545bf", func := "invigilator/invigilatorlaw25.CostExprs", spec := "costExprs", inPlace := ["internal/bytealg.IndexByteString", "internal/bytealg.IndexString"], unfollowed := true, recurses := true, named := ["invigilator/prims.numbers", "invigilator/prims.alike", "unicode/utf8.first", "unicode/utf8.acceptRanges", "internal/bytealg.MaxLen"], apart := false, laid := [("unicode/utf8.acceptRanges", laid_unicode_utf8_acceptRanges), ("invigilator/prims.numbers", laid_invigilator_prims_numbers), ("invigilator/prims.alike", laid_invigilator_prims_alike), ("unicode/utf8.first", laid_unicode_utf8_first)] }
def CostExprsSaid : Prop := costExprsRow.holds Tryz.pinned (OpenSpec.ofChange costExprsSpec)

/-- ITS FALSE NEIGHBOUR: 'it returns false'. Refute it at one input. -/
def costExprsWrong : ChangeSpec := { name := "costExprs", fn := fun _ => fun
  | [d1, d2] => { results := [.lit (.bool false)], args := [d1, d2] }
  | _ => none }
def CostExprsWrongFalsely : Prop := costExprsRow.holds Tryz.pinned (OpenSpec.ofChange costExprsWrong)

/-- 'invigilatorlaw25.CostBlind': WHATEVER THE INPUT: true; the input reads as it did. -/
def costBlindSpec : ChangeSpec := { name := "costBlind", fn := fun _ => fun
  | [d1, d2, d3] => { results := [.lit (.bool true)], args := [d1, d2, d3] }
  | _ => none }
def costBlindRow : OpenClaim := { program := "ytapgddiocdcaeaagreatdoor", sum := "baab779d148de4503576b31e1df6f8db6eddb1304ac5bde3264d407692d545bf", func := "invigilator/invigilatorlaw25.CostBlind", spec := "costBlind", inPlace := ["internal/bytealg.IndexByteString", "internal/bytealg.IndexString"], unfollowed := true, recurses := true, named := ["invigilator/prims.numbers", "invigilator/prims.alike", "unicode/utf8.first", "unicode/utf8.acceptRanges", "internal/bytealg.MaxLen"], apart := false, laid := [("unicode/utf8.acceptRanges", laid_unicode_utf8_acceptRanges), ("invigilator/prims.numbers", laid_invigilator_prims_numbers), ("invigilator/prims.alike", laid_invigilator_prims_alike), ("unicode/utf8.first", laid_unicode_utf8_first)] }
def CostBlindSaid : Prop := costBlindRow.holds Tryz.pinned (OpenSpec.ofChange costBlindSpec)

/-- ITS FALSE NEIGHBOUR: 'it returns false'. Refute it at one input. -/
def costBlindWrong : ChangeSpec := { name := "costBlind", fn := fun _ => fun
  | [d1, d2, d3] => { results := [.lit (.bool false)], args := [d1, d2, d3] }
  | _ => none }
def CostBlindWrongFalsely : Prop := costBlindRow.holds Tryz.pinned (OpenSpec.ofChange costBlindWrong)

/-- 'invigilatorlaw25.CostAdds': WHATEVER THE INPUT: true; the input reads as it did. -/
def costAddsSpec : ChangeSpec := { name := "costAdds", fn := fun _ => fun
  | [d1, d2] => { results := [.lit (.bool true)], args := [d1, d2] }
  | _ => none }
def costAddsRow : OpenClaim := { program := "ytapgddiocdcaeaagreatdoor", sum := "baab779d148de4503576b31e1df6f8db6eddb1304ac5bde3264d407692d545bf", func := "invigilator/invigilatorlaw25.CostAdds", spec := "costAdds", inPlace := ["internal/bytealg.IndexByteString", "internal/bytealg.IndexString"], unfollowed := true, recurses := true, named := ["invigilator/prims.numbers", "invigilator/prims.alike", "unicode/utf8.first", "unicode/utf8.acceptRanges", "internal/bytealg.MaxLen"], apart := false, laid := [("unicode/utf8.acceptRanges", laid_unicode_utf8_acceptRanges), ("invigilator/prims.numbers", laid_invigilator_prims_numbers), ("invigilator/prims.alike", laid_invigilator_prims_alike), ("unicode/utf8.first", laid_unicode_utf8_first)] }
def CostAddsSaid : Prop := costAddsRow.holds Tryz.pinned (OpenSpec.ofChange costAddsSpec)

/-- ITS FALSE NEIGHBOUR: 'it returns false'. Refute it at one input. -/
def costAddsWrong : ChangeSpec := { name := "costAdds", fn := fun _ => fun
  | [d1, d2] => { results := [.lit (.bool false)], args := [d1, d2] }
  | _ => none }
def CostAddsWrongFalsely : Prop := costAddsRow.holds Tryz.pinned (OpenSpec.ofChange costAddsWrong)

/-- 'invigilatorlaw25.CostCharges': WHATEVER THE INPUT: true; the input reads as it did. -/
def costChargesSpec : ChangeSpec := { name := "costCharges", fn := fun _ => fun
  | [d1, d2] => { results := [.lit (.bool true)], args := [d1, d2] }
  | _ => none }
def costChargesRow : OpenClaim := { program := "ytapgddiocdcaeaagreatdoor", sum := "baab779d148de4503576b31e1df6f8db6eddb1304ac5bde3264d407692d545bf", func := "invigilator/invigilatorlaw25.CostCharges", spec := "costCharges", inPlace := ["internal/bytealg.IndexByteString", "internal/bytealg.IndexString"], unfollowed := true, recurses := true, named := ["invigilator/prims.numbers", "invigilator/prims.alike", "unicode/utf8.first", "unicode/utf8.acceptRanges", "internal/bytealg.MaxLen"], apart := false, laid := [("unicode/utf8.acceptRanges", laid_unicode_utf8_acceptRanges), ("invigilator/prims.numbers", laid_invigilator_prims_numbers), ("invigilator/prims.alike", laid_invigilator_prims_alike), ("unicode/utf8.first", laid_unicode_utf8_first)] }
def CostChargesSaid : Prop := costChargesRow.holds Tryz.pinned (OpenSpec.ofChange costChargesSpec)

/-- ITS FALSE NEIGHBOUR: 'it returns false'. Refute it at one input. -/
def costChargesWrong : ChangeSpec := { name := "costCharges", fn := fun _ => fun
  | [d1, d2] => { results := [.lit (.bool false)], args := [d1, d2] }
  | _ => none }
def CostChargesWrongFalsely : Prop := costChargesRow.holds Tryz.pinned (OpenSpec.ofChange costChargesWrong)

/-- 'invigilatorlaw25.CostStmts': WHATEVER THE INPUT: true; the input reads as it did. -/
def costStmtsSpec : ChangeSpec := { name := "costStmts", fn := fun _ => fun
  | [d1, d2, d3] => { results := [.lit (.bool true)], args := [d1, d2, d3] }
  | _ => none }
def costStmtsRow : OpenClaim := { program := "ytapgddiocdcaeaagreatdoor", sum := "baab779d148de4503576b31e1df6f8db6eddb1304ac5bde3264d407692d545bf", func := "invigilator/invigilatorlaw25.CostStmts", spec := "costStmts", inPlace := ["internal/bytealg.IndexByteString", "internal/bytealg.IndexString"], unfollowed := true, recurses := true, named := ["invigilator/prims.numbers", "invigilator/prims.alike", "unicode/utf8.first", "unicode/utf8.acceptRanges", "internal/bytealg.MaxLen"], apart := false, laid := [("unicode/utf8.acceptRanges", laid_unicode_utf8_acceptRanges), ("invigilator/prims.numbers", laid_invigilator_prims_numbers), ("invigilator/prims.alike", laid_invigilator_prims_alike), ("unicode/utf8.first", laid_unicode_utf8_first)] }
def CostStmtsSaid : Prop := costStmtsRow.holds Tryz.pinned (OpenSpec.ofChange costStmtsSpec)

/-- ITS FALSE NEIGHBOUR: 'it returns false'. Refute it at one input. -/
def costStmtsWrong : ChangeSpec := { name := "costStmts", fn := fun _ => fun
  | [d1, d2, d3] => { results := [.lit (.bool false)], args := [d1, d2, d3] }
  | _ => none }
def CostStmtsWrongFalsely : Prop := costStmtsRow.holds Tryz.pinned (OpenSpec.ofChange costStmtsWrong)

/-- 'invigilatorlaw25.CostLeasts': WHATEVER THE INPUT: true; the input reads as it did. -/
def costLeastsSpec : ChangeSpec := { name := "costLeasts", fn := fun _ => fun
  | [d] => { results := [.lit (.bool true)], args := [d] }
  | _ => none }
def costLeastsRow : OpenClaim := { program := "ytapgddiocdcaeaagreatdoor", sum := "baab779d148de4503576b31e1df6f8db6eddb1304ac5bde3264d407692d545bf", func := "invigilator/invigilatorlaw25.CostLeasts", spec := "costLeasts", inPlace := ["internal/bytealg.IndexByteString", "internal/bytealg.IndexString"], unfollowed := true, recurses := true, named := ["invigilator/prims.numbers", "invigilator/prims.alike", "unicode/utf8.first", "unicode/utf8.acceptRanges", "internal/bytealg.MaxLen"], apart := false, laid := [("unicode/utf8.acceptRanges", laid_unicode_utf8_acceptRanges), ("invigilator/prims.numbers", laid_invigilator_prims_numbers), ("invigilator/prims.alike", laid_invigilator_prims_alike), ("unicode/utf8.first", laid_unicode_utf8_first)] }
def CostLeastsSaid : Prop := costLeastsRow.holds Tryz.pinned (OpenSpec.ofChange costLeastsSpec)

/-- ITS FALSE NEIGHBOUR: 'it returns false'. Refute it at one input. -/
def costLeastsWrong : ChangeSpec := { name := "costLeasts", fn := fun _ => fun
  | [d] => { results := [.lit (.bool false)], args := [d] }
  | _ => none }
def CostLeastsWrongFalsely : Prop := costLeastsRow.holds Tryz.pinned (OpenSpec.ofChange costLeastsWrong)

/-- 'invigilatorlaw25.CostTops': WHATEVER THE INPUT: true; the input reads as it did. -/
def costTopsSpec : ChangeSpec := { name := "costTops", fn := fun _ => fun
  | [d] => { results := [.lit (.bool true)], args := [d] }
  | _ => none }
def costTopsRow : OpenClaim := { program := "ytapgddiocdcaeaagreatdoor", sum := "baab779d148de4503576b31e1df6f8db6eddb1304ac5bde3264d407692d545bf", func := "invigilator/invigilatorlaw25.CostTops", spec := "costTops", inPlace := ["internal/bytealg.IndexByteString", "internal/bytealg.IndexString"], unfollowed := true, recurses := true, named := ["invigilator/prims.numbers", "invigilator/prims.alike", "unicode/utf8.first", "unicode/utf8.acceptRanges", "internal/bytealg.MaxLen"], apart := false, laid := [("unicode/utf8.acceptRanges", laid_unicode_utf8_acceptRanges), ("invigilator/prims.numbers", laid_invigilator_prims_numbers), ("invigilator/prims.alike", laid_invigilator_prims_alike), ("unicode/utf8.first", laid_unicode_utf8_first)] }
def CostTopsSaid : Prop := costTopsRow.holds Tryz.pinned (OpenSpec.ofChange costTopsSpec)

/-- ITS FALSE NEIGHBOUR: 'it returns false'. Refute it at one input. -/
def costTopsWrong : ChangeSpec := { name := "costTops", fn := fun _ => fun
  | [d] => { results := [.lit (.bool false)], args := [d] }
  | _ => none }
def CostTopsWrongFalsely : Prop := costTopsRow.holds Tryz.pinned (OpenSpec.ofChange costTopsWrong)

/-- 'invigilatorlaw25.CostKnown': WHATEVER THE INPUT: true; the input reads as it did. -/
def costKnownSpec : ChangeSpec := { name := "costKnown", fn := fun _ => fun
  | [] => { results := [.lit (.bool true)], args := [] }
  | _ => none }
def costKnownRow : OpenClaim := { program := "ytapgddiocdcaeaagreatdoor", sum := "baab779d148de4503576b31e1df6f8db6eddb1304ac5bde3264d407692d545bf", func := "invigilator/invigilatorlaw25.CostKnown", spec := "costKnown", inPlace := ["internal/bytealg.IndexByteString", "internal/bytealg.IndexString"], unfollowed := true, recurses := true, named := ["invigilator/prims.numbers", "invigilator/prims.alike", "unicode/utf8.first", "unicode/utf8.acceptRanges", "internal/bytealg.MaxLen"], apart := false, laid := [("unicode/utf8.acceptRanges", laid_unicode_utf8_acceptRanges), ("invigilator/prims.numbers", laid_invigilator_prims_numbers), ("invigilator/prims.alike", laid_invigilator_prims_alike), ("unicode/utf8.first", laid_unicode_utf8_first)] }
def CostKnownSaid : Prop := costKnownRow.holds Tryz.pinned (OpenSpec.ofChange costKnownSpec)

/-- ITS FALSE NEIGHBOUR: 'it returns false'. Refute it at one input. -/
def costKnownWrong : ChangeSpec := { name := "costKnown", fn := fun _ => fun
  | [] => { results := [.lit (.bool false)], args := [] }
  | _ => none }
def CostKnownWrongFalsely : Prop := costKnownRow.holds Tryz.pinned (OpenSpec.ofChange costKnownWrong)

/- THE SECOND FORM. 'bulk': how many values and letters a reading holds, each counted each time it is reached (what is shared counts as often as it is met; a slice's spare places count too). A statement '..UptoSaid' is the law's where the arguments, and the package variables that the reading takes, are together of bulk at most 1048576: NARROWER than '..Said'. Prove '..Said' where nothing that the law and all that it calls make is longer than what came in: it says more and counts as full. Else prove '..UptoSaid'. A law counts once. -/
mutual
def uptoBulk {H : Type} : DataW H → Nat
  | .lit (.string bytes) => bytes.length + 1
  | .lit _ => 1
  | .nil => 1
  | .ptr d => uptoBulk d + 1
  | .slice elems spare => uptoBulkAll elems + uptoBulkAll spare + 1
  | .agg parts => uptoBulkAll parts + 1
  | .iface _ d => uptoBulk d + 1
  | .map entries => uptoBulkEntries entries + 1
  | .held _ => 1
def uptoBulkAll {H : Type} : List (DataW H) → Nat
  | [] => 0
  | d :: r => uptoBulk d + uptoBulkAll r
def uptoBulkEntries {H : Type} : List (Lit × DataW H) → Nat
  | [] => 0
  | x :: r => uptoBulkEntry x + uptoBulkEntries r
def uptoBulkEntry {H : Type} : Lit × DataW H → Nat
  | (.string bytes, d) => bytes.length + uptoBulk d + 1
  | (_, d) => uptoBulk d + 1
 end
def uptoSmall : (H : Type) → List (DataW H) → Bool := fun _ ds => decide (uptoBulkAll ds ≤ 1048576)
def OpenSpec.upto (s : _root_.Go.ChangeSpec) : _root_.Go.OpenSpec := { _root_.Go.OpenSpec.ofChange s with cond := some uptoSmall }

/-- 'invigilatorlaw25.CostPrims', WHERE WHAT IT READS IS OF BULK AT MOST 1048576: true; the input reads as it did. -/
def costPrimsUptoRow : OpenClaim := { program := "ytapgddiocdcaeaagreatdoor", sum := "baab779d148de4503576b31e1df6f8db6eddb1304ac5bde3264d407692d545bf", func := "invigilator/invigilatorlaw25.CostPrims", spec := "costPrims", inPlace := ["internal/bytealg.IndexByteString", "internal/bytealg.IndexString"], unfollowed := true, recurses := true, named := ["invigilator/prims.numbers", "invigilator/prims.alike", "unicode/utf8.first", "unicode/utf8.acceptRanges", "internal/bytealg.MaxLen"], apart := false, laid := [("unicode/utf8.acceptRanges", laid_unicode_utf8_acceptRanges), ("invigilator/prims.numbers", laid_invigilator_prims_numbers), ("invigilator/prims.alike", laid_invigilator_prims_alike), ("unicode/utf8.first", laid_unicode_utf8_first)], narrowed := true }
def CostPrimsUptoSaid : Prop := costPrimsUptoRow.holds Tryz.pinned (OpenSpec.upto costPrimsSpec)

/-- 'invigilatorlaw25.CostExprs', WHERE WHAT IT READS IS OF BULK AT MOST 1048576: true; the input reads as it did. -/
def costExprsUptoRow : OpenClaim := { program := "ytapgddiocdcaeaagreatdoor", sum := "baab779d148de4503576b31e1df6f8db6eddb1304ac5bde3264d407692d545bf", func := "invigilator/invigilatorlaw25.CostExprs", spec := "costExprs", inPlace := ["internal/bytealg.IndexByteString", "internal/bytealg.IndexString"], unfollowed := true, recurses := true, named := ["invigilator/prims.numbers", "invigilator/prims.alike", "unicode/utf8.first", "unicode/utf8.acceptRanges", "internal/bytealg.MaxLen"], apart := false, laid := [("unicode/utf8.acceptRanges", laid_unicode_utf8_acceptRanges), ("invigilator/prims.numbers", laid_invigilator_prims_numbers), ("invigilator/prims.alike", laid_invigilator_prims_alike), ("unicode/utf8.first", laid_unicode_utf8_first)], narrowed := true }
def CostExprsUptoSaid : Prop := costExprsUptoRow.holds Tryz.pinned (OpenSpec.upto costExprsSpec)

/-- 'invigilatorlaw25.CostBlind', WHERE WHAT IT READS IS OF BULK AT MOST 1048576: true; the input reads as it did. -/
def costBlindUptoRow : OpenClaim := { program := "ytapgddiocdcaeaagreatdoor", sum := "baab779d148de4503576b31e1df6f8db6eddb1304ac5bde3264d407692d545bf", func := "invigilator/invigilatorlaw25.CostBlind", spec := "costBlind", inPlace := ["internal/bytealg.IndexByteString", "internal/bytealg.IndexString"], unfollowed := true, recurses := true, named := ["invigilator/prims.numbers", "invigilator/prims.alike", "unicode/utf8.first", "unicode/utf8.acceptRanges", "internal/bytealg.MaxLen"], apart := false, laid := [("unicode/utf8.acceptRanges", laid_unicode_utf8_acceptRanges), ("invigilator/prims.numbers", laid_invigilator_prims_numbers), ("invigilator/prims.alike", laid_invigilator_prims_alike), ("unicode/utf8.first", laid_unicode_utf8_first)], narrowed := true }
def CostBlindUptoSaid : Prop := costBlindUptoRow.holds Tryz.pinned (OpenSpec.upto costBlindSpec)

/-- 'invigilatorlaw25.CostAdds', WHERE WHAT IT READS IS OF BULK AT MOST 1048576: true; the input reads as it did. -/
def costAddsUptoRow : OpenClaim := { program := "ytapgddiocdcaeaagreatdoor", sum := "baab779d148de4503576b31e1df6f8db6eddb1304ac5bde3264d407692d545bf", func := "invigilator/invigilatorlaw25.CostAdds", spec := "costAdds", inPlace := ["internal/bytealg.IndexByteString", "internal/bytealg.IndexString"], unfollowed := true, recurses := true, named := ["invigilator/prims.numbers", "invigilator/prims.alike", "unicode/utf8.first", "unicode/utf8.acceptRanges", "internal/bytealg.MaxLen"], apart := false, laid := [("unicode/utf8.acceptRanges", laid_unicode_utf8_acceptRanges), ("invigilator/prims.numbers", laid_invigilator_prims_numbers), ("invigilator/prims.alike", laid_invigilator_prims_alike), ("unicode/utf8.first", laid_unicode_utf8_first)], narrowed := true }
def CostAddsUptoSaid : Prop := costAddsUptoRow.holds Tryz.pinned (OpenSpec.upto costAddsSpec)

/-- 'invigilatorlaw25.CostCharges', WHERE WHAT IT READS IS OF BULK AT MOST 1048576: true; the input reads as it did. -/
def costChargesUptoRow : OpenClaim := { program := "ytapgddiocdcaeaagreatdoor", sum := "baab779d148de4503576b31e1df6f8db6eddb1304ac5bde3264d407692d545bf", func := "invigilator/invigilatorlaw25.CostCharges", spec := "costCharges", inPlace := ["internal/bytealg.IndexByteString", "internal/bytealg.IndexString"], unfollowed := true, recurses := true, named := ["invigilator/prims.numbers", "invigilator/prims.alike", "unicode/utf8.first", "unicode/utf8.acceptRanges", "internal/bytealg.MaxLen"], apart := false, laid := [("unicode/utf8.acceptRanges", laid_unicode_utf8_acceptRanges), ("invigilator/prims.numbers", laid_invigilator_prims_numbers), ("invigilator/prims.alike", laid_invigilator_prims_alike), ("unicode/utf8.first", laid_unicode_utf8_first)], narrowed := true }
def CostChargesUptoSaid : Prop := costChargesUptoRow.holds Tryz.pinned (OpenSpec.upto costChargesSpec)

/-- 'invigilatorlaw25.CostStmts', WHERE WHAT IT READS IS OF BULK AT MOST 1048576: true; the input reads as it did. -/
def costStmtsUptoRow : OpenClaim := { program := "ytapgddiocdcaeaagreatdoor", sum := "baab779d148de4503576b31e1df6f8db6eddb1304ac5bde3264d407692d545bf", func := "invigilator/invigilatorlaw25.CostStmts", spec := "costStmts", inPlace := ["internal/bytealg.IndexByteString", "internal/bytealg.IndexString"], unfollowed := true, recurses := true, named := ["invigilator/prims.numbers", "invigilator/prims.alike", "unicode/utf8.first", "unicode/utf8.acceptRanges", "internal/bytealg.MaxLen"], apart := false, laid := [("unicode/utf8.acceptRanges", laid_unicode_utf8_acceptRanges), ("invigilator/prims.numbers", laid_invigilator_prims_numbers), ("invigilator/prims.alike", laid_invigilator_prims_alike), ("unicode/utf8.first", laid_unicode_utf8_first)], narrowed := true }
def CostStmtsUptoSaid : Prop := costStmtsUptoRow.holds Tryz.pinned (OpenSpec.upto costStmtsSpec)

/-- 'invigilatorlaw25.CostLeasts', WHERE WHAT IT READS IS OF BULK AT MOST 1048576: true; the input reads as it did. -/
def costLeastsUptoRow : OpenClaim := { program := "ytapgddiocdcaeaagreatdoor", sum := "baab779d148de4503576b31e1df6f8db6eddb1304ac5bde3264d407692d545bf", func := "invigilator/invigilatorlaw25.CostLeasts", spec := "costLeasts", inPlace := ["internal/bytealg.IndexByteString", "internal/bytealg.IndexString"], unfollowed := true, recurses := true, named := ["invigilator/prims.numbers", "invigilator/prims.alike", "unicode/utf8.first", "unicode/utf8.acceptRanges", "internal/bytealg.MaxLen"], apart := false, laid := [("unicode/utf8.acceptRanges", laid_unicode_utf8_acceptRanges), ("invigilator/prims.numbers", laid_invigilator_prims_numbers), ("invigilator/prims.alike", laid_invigilator_prims_alike), ("unicode/utf8.first", laid_unicode_utf8_first)], narrowed := true }
def CostLeastsUptoSaid : Prop := costLeastsUptoRow.holds Tryz.pinned (OpenSpec.upto costLeastsSpec)

/-- 'invigilatorlaw25.CostTops', WHERE WHAT IT READS IS OF BULK AT MOST 1048576: true; the input reads as it did. -/
def costTopsUptoRow : OpenClaim := { program := "ytapgddiocdcaeaagreatdoor", sum := "baab779d148de4503576b31e1df6f8db6eddb1304ac5bde3264d407692d545bf", func := "invigilator/invigilatorlaw25.CostTops", spec := "costTops", inPlace := ["internal/bytealg.IndexByteString", "internal/bytealg.IndexString"], unfollowed := true, recurses := true, named := ["invigilator/prims.numbers", "invigilator/prims.alike", "unicode/utf8.first", "unicode/utf8.acceptRanges", "internal/bytealg.MaxLen"], apart := false, laid := [("unicode/utf8.acceptRanges", laid_unicode_utf8_acceptRanges), ("invigilator/prims.numbers", laid_invigilator_prims_numbers), ("invigilator/prims.alike", laid_invigilator_prims_alike), ("unicode/utf8.first", laid_unicode_utf8_first)], narrowed := true }
def CostTopsUptoSaid : Prop := costTopsUptoRow.holds Tryz.pinned (OpenSpec.upto costTopsSpec)

/-- 'invigilatorlaw25.CostKnown', WHERE WHAT IT READS IS OF BULK AT MOST 1048576: true; the input reads as it did. -/
def costKnownUptoRow : OpenClaim := { program := "ytapgddiocdcaeaagreatdoor", sum := "baab779d148de4503576b31e1df6f8db6eddb1304ac5bde3264d407692d545bf", func := "invigilator/invigilatorlaw25.CostKnown", spec := "costKnown", inPlace := ["internal/bytealg.IndexByteString", "internal/bytealg.IndexString"], unfollowed := true, recurses := true, named := ["invigilator/prims.numbers", "invigilator/prims.alike", "unicode/utf8.first", "unicode/utf8.acceptRanges", "internal/bytealg.MaxLen"], apart := false, laid := [("unicode/utf8.acceptRanges", laid_unicode_utf8_acceptRanges), ("invigilator/prims.numbers", laid_invigilator_prims_numbers), ("invigilator/prims.alike", laid_invigilator_prims_alike), ("unicode/utf8.first", laid_unicode_utf8_first)], narrowed := true }
def CostKnownUptoSaid : Prop := costKnownUptoRow.holds Tryz.pinned (OpenSpec.upto costKnownSpec)

end Rows
end Go.Proofs.YtapgddiocdcaeaaGreatDoor
