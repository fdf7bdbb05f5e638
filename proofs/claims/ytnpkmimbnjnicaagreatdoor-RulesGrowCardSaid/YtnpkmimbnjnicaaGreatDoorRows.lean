/-
  NARROWER THAN 'FOR EVERY INPUT', by the rows' own cells (each row's printed sentence says how): RulesErrors: laid · RulesKnown: laid · RulesBehind: laid · RulesRules: laid · RulesGrow: laid.
  DERIVED. THE GIVEN ROWS OF THIS SEAT. 5 by the template 'for every input the law returns true; each argument reads behind the call as it read before'; 0 by the template 'total and deterministic' (their statements: YtnpkmimbnjnicaaGreatDoorTotals.lean).
  GIVEN WITH THE SEED: the statements are not yours to turn. If you find one false, say at which input.
  Laid BY PROGRAM, IN A SANDBOX (cutbox-rows.mjs): the forced cells as the released guide's own fill.sh prints them over the translation 194f4aeef2653014… (all of the seat's roots in one cut). By AI agents, Wed Nov 11 2026. No macro, syntax, notation, axiom, sorry.
-/
import Derived.Test.YtnpkmimbnjnicaaGreatDoorChecked
import GoSem.PinnedTables
import GoSem.Claim
import GoSem.ClaimJoined
import GoSem.ClaimMapViews
import Derived.JoinedTies
import Derived.KernelRfl
namespace Go.Proofs.YtnpkmimbnjnicaaGreatDoor
/- THE CELL 'sum', in the pinned program and in every row, IS THE sha256 OF THE DUMP (.gsa) THAT YtnpkmimbnjnicaaGreatDoorProg.lean LOADS. Nothing in Lean hashes anything: it is a label: what it is worth is what the hold of that sum in a sandbox is worth. -/
noncomputable def Tryz.pinned : Pinned := { name := "ytnpkmimbnjnicaagreatdoor", sum := "194f4aeef26530141cb9cb66612235f8268c526a9b4a9da9b0530ecd9c71dcd8", checked := Tryz.checked }
namespace Rows
def none {H : Type} : Left H := { results := [], args := [] }

/- WHAT THE LISTED PACKAGE-LEVEL VARIABLES READ AS WHEN THE CALL BEGINS. Each datum BY PROGRAM (the guide's laid-datum.mjs) off the statement by which the dump's own 'gosem.cut.vars' lays the variable. In a bare row this is a premise. The card (YtnpkmimbnjnicaaGreatDoorCards.lean) ties it to the program's text. -/
def laid_unicode_utf8_acceptRanges {H : Type} : DataW H := .agg [.agg [.lit (.int .u8 128), .lit (.int .u8 191)], .agg [.lit (.int .u8 160), .lit (.int .u8 191)], .agg [.lit (.int .u8 128), .lit (.int .u8 159)], .agg [.lit (.int .u8 144), .lit (.int .u8 191)], .agg [.lit (.int .u8 128), .lit (.int .u8 143)], .agg [.lit (.int .u8 0), .lit (.int .u8 0)], .agg [.lit (.int .u8 0), .lit (.int .u8 0)], .agg [.lit (.int .u8 0), .lit (.int .u8 0)], .agg [.lit (.int .u8 0), .lit (.int .u8 0)], .agg [.lit (.int .u8 0), .lit (.int .u8 0)], .agg [.lit (.int .u8 0), .lit (.int .u8 0)], .agg [.lit (.int .u8 0), .lit (.int .u8 0)], .agg [.lit (.int .u8 0), .lit (.int .u8 0)], .agg [.lit (.int .u8 0), .lit (.int .u8 0)], .agg [.lit (.int .u8 0), .lit (.int .u8 0)], .agg [.lit (.int .u8 0), .lit (.int .u8 0)]]
def laid_invigilator_prims_numbers {H : Type} : DataW H := .slice [.lit (.string [105, 110, 105, 110]), .lit (.string [105, 48, 105, 110, 105, 110]), .lit (.string [105, 110, 105, 48, 105, 110]), .lit (.string [105, 110, 105, 110, 105, 110])] []
def laid_invigilator_prims_alike {H : Type} : DataW H := .slice [.lit (.string [107, 48, 107, 110, 105, 110]), .lit (.string [107, 110, 107, 48, 105, 110]), .lit (.string [107, 110, 107, 110, 105, 110])] []
/-- One of Go's own tables, pinned by name: the form's constant. -/
def laid_unicode_utf8_first : DataW Unit := Go.Pinned.utf8First

/-- 'invigilatorlaw21.RulesErrors': WHATEVER THE INPUT: true; the input reads as it did. -/
def rulesErrorsSpec : ChangeSpec := { name := "rulesErrors", fn := fun _ => fun
  | [d] => { results := [.lit (.bool true)], args := [d] }
  | _ => none }
def rulesErrorsRow : OpenClaim := { program := "ytnpkmimbnjnicaagreatdoor", sum := "194f4aeef26530141cb9cb66612235f8268c526a9b4a9da9b0530ecd9c71dcd8", func := "invigilator/invigilatorlaw21.RulesErrors", spec := "rulesErrors", inPlace := ["internal/bytealg.IndexByteString", "internal/bytealg.IndexString"], unfollowed := true, recurses := true, named := ["unicode/utf8.first", "unicode/utf8.acceptRanges", "invigilator/prims.numbers", "invigilator/prims.alike", "internal/bytealg.MaxLen"], apart := false, laid := [("unicode/utf8.acceptRanges", laid_unicode_utf8_acceptRanges), ("invigilator/prims.numbers", laid_invigilator_prims_numbers), ("invigilator/prims.alike", laid_invigilator_prims_alike), ("unicode/utf8.first", laid_unicode_utf8_first)] }
def RulesErrorsSaid : Prop := rulesErrorsRow.holds Tryz.pinned (OpenSpec.ofChange rulesErrorsSpec)

/-- ITS FALSE NEIGHBOUR: 'it returns false'. Refute it at one input. -/
def rulesErrorsWrong : ChangeSpec := { name := "rulesErrors", fn := fun _ => fun
  | [d] => { results := [.lit (.bool false)], args := [d] }
  | _ => none }
def RulesErrorsWrongFalsely : Prop := rulesErrorsRow.holds Tryz.pinned (OpenSpec.ofChange rulesErrorsWrong)

/-- 'invigilatorlaw21.RulesKnown': WHATEVER THE INPUT: true; the input reads as it did. -/
def rulesKnownSpec : ChangeSpec := { name := "rulesKnown", fn := fun _ => fun
  | [] => { results := [.lit (.bool true)], args := [] }
  | _ => none }
def rulesKnownRow : OpenClaim := { program := "ytnpkmimbnjnicaagreatdoor", sum := "194f4aeef26530141cb9cb66612235f8268c526a9b4a9da9b0530ecd9c71dcd8", func := "invigilator/invigilatorlaw21.RulesKnown", spec := "rulesKnown", inPlace := ["internal/bytealg.IndexByteString", "internal/bytealg.IndexString"], unfollowed := true, recurses := true, named := ["unicode/utf8.first", "unicode/utf8.acceptRanges", "invigilator/prims.numbers", "invigilator/prims.alike", "internal/bytealg.MaxLen"], apart := false, laid := [("unicode/utf8.acceptRanges", laid_unicode_utf8_acceptRanges), ("invigilator/prims.numbers", laid_invigilator_prims_numbers), ("invigilator/prims.alike", laid_invigilator_prims_alike), ("unicode/utf8.first", laid_unicode_utf8_first)] }
def RulesKnownSaid : Prop := rulesKnownRow.holds Tryz.pinned (OpenSpec.ofChange rulesKnownSpec)

/-- ITS FALSE NEIGHBOUR: 'it returns false'. Refute it at one input. -/
def rulesKnownWrong : ChangeSpec := { name := "rulesKnown", fn := fun _ => fun
  | [] => { results := [.lit (.bool false)], args := [] }
  | _ => none }
def RulesKnownWrongFalsely : Prop := rulesKnownRow.holds Tryz.pinned (OpenSpec.ofChange rulesKnownWrong)

/-- 'invigilatorlaw21.RulesBehind': WHATEVER THE INPUT: true; the input reads as it did. -/
def rulesBehindSpec : ChangeSpec := { name := "rulesBehind", fn := fun _ => fun
  | [d1, d2, d3] => { results := [.lit (.bool true)], args := [d1, d2, d3] }
  | _ => none }
def rulesBehindRow : OpenClaim := { program := "ytnpkmimbnjnicaagreatdoor", sum := "194f4aeef26530141cb9cb66612235f8268c526a9b4a9da9b0530ecd9c71dcd8", func := "invigilator/invigilatorlaw21.RulesBehind", spec := "rulesBehind", inPlace := ["internal/bytealg.IndexByteString", "internal/bytealg.IndexString"], unfollowed := true, recurses := true, named := ["unicode/utf8.first", "unicode/utf8.acceptRanges", "invigilator/prims.numbers", "invigilator/prims.alike", "internal/bytealg.MaxLen"], apart := false, laid := [("unicode/utf8.acceptRanges", laid_unicode_utf8_acceptRanges), ("invigilator/prims.numbers", laid_invigilator_prims_numbers), ("invigilator/prims.alike", laid_invigilator_prims_alike), ("unicode/utf8.first", laid_unicode_utf8_first)] }
def RulesBehindSaid : Prop := rulesBehindRow.holds Tryz.pinned (OpenSpec.ofChange rulesBehindSpec)

/-- ITS FALSE NEIGHBOUR: 'it returns false'. Refute it at one input. -/
def rulesBehindWrong : ChangeSpec := { name := "rulesBehind", fn := fun _ => fun
  | [d1, d2, d3] => { results := [.lit (.bool false)], args := [d1, d2, d3] }
  | _ => none }
def RulesBehindWrongFalsely : Prop := rulesBehindRow.holds Tryz.pinned (OpenSpec.ofChange rulesBehindWrong)

/-- 'invigilatorlaw21.RulesRules': WHATEVER THE INPUT: true; the input reads as it did. -/
def rulesRulesSpec : ChangeSpec := { name := "rulesRules", fn := fun _ => fun
  | [d1, d2, d3] => { results := [.lit (.bool true)], args := [d1, d2, d3] }
  | _ => none }
def rulesRulesRow : OpenClaim := { program := "ytnpkmimbnjnicaagreatdoor", sum := "194f4aeef26530141cb9cb66612235f8268c526a9b4a9da9b0530ecd9c71dcd8", func := "invigilator/invigilatorlaw21.RulesRules", spec := "rulesRules", inPlace := ["internal/bytealg.IndexByteString", "internal/bytealg.IndexString"], unfollowed := true, recurses := true, named := ["unicode/utf8.first", "unicode/utf8.acceptRanges", "invigilator/prims.numbers", "invigilator/prims.alike", "internal/bytealg.MaxLen"], apart := false, laid := [("unicode/utf8.acceptRanges", laid_unicode_utf8_acceptRanges), ("invigilator/prims.numbers", laid_invigilator_prims_numbers), ("invigilator/prims.alike", laid_invigilator_prims_alike), ("unicode/utf8.first", laid_unicode_utf8_first)] }
def RulesRulesSaid : Prop := rulesRulesRow.holds Tryz.pinned (OpenSpec.ofChange rulesRulesSpec)

/-- ITS FALSE NEIGHBOUR: 'it returns false'. Refute it at one input. -/
def rulesRulesWrong : ChangeSpec := { name := "rulesRules", fn := fun _ => fun
  | [d1, d2, d3] => { results := [.lit (.bool false)], args := [d1, d2, d3] }
  | _ => none }
def RulesRulesWrongFalsely : Prop := rulesRulesRow.holds Tryz.pinned (OpenSpec.ofChange rulesRulesWrong)

/-- 'invigilatorlaw21.RulesGrow': WHATEVER THE INPUT: true; the input reads as it did. -/
def rulesGrowSpec : ChangeSpec := { name := "rulesGrow", fn := fun _ => fun
  | [d1, d2, d3] => { results := [.lit (.bool true)], args := [d1, d2, d3] }
  | _ => none }
def rulesGrowRow : OpenClaim := { program := "ytnpkmimbnjnicaagreatdoor", sum := "194f4aeef26530141cb9cb66612235f8268c526a9b4a9da9b0530ecd9c71dcd8", func := "invigilator/invigilatorlaw21.RulesGrow", spec := "rulesGrow", inPlace := ["internal/bytealg.IndexByteString", "internal/bytealg.IndexString"], unfollowed := true, recurses := true, named := ["unicode/utf8.first", "unicode/utf8.acceptRanges", "invigilator/prims.numbers", "invigilator/prims.alike", "internal/bytealg.MaxLen"], apart := false, laid := [("unicode/utf8.acceptRanges", laid_unicode_utf8_acceptRanges), ("invigilator/prims.numbers", laid_invigilator_prims_numbers), ("invigilator/prims.alike", laid_invigilator_prims_alike), ("unicode/utf8.first", laid_unicode_utf8_first)] }
def RulesGrowSaid : Prop := rulesGrowRow.holds Tryz.pinned (OpenSpec.ofChange rulesGrowSpec)

/-- ITS FALSE NEIGHBOUR: 'it returns false'. Refute it at one input. -/
def rulesGrowWrong : ChangeSpec := { name := "rulesGrow", fn := fun _ => fun
  | [d1, d2, d3] => { results := [.lit (.bool false)], args := [d1, d2, d3] }
  | _ => none }
def RulesGrowWrongFalsely : Prop := rulesGrowRow.holds Tryz.pinned (OpenSpec.ofChange rulesGrowWrong)

/- THE SECOND FORM. 'bulk': how many values and letters a reading holds, each counted each time it is reached (what is shared counts as often as it is met; a slice's spare places count too). A statement '..UptoSaid' is the law's where the arguments, and the package variables that the reading takes, are together of bulk at most 1048576: NARROWER than '..Said'. Prove '..Said' where nothing that the law and all that it calls make is longer than what came in: it says more and counts as full. Else prove '..UptoSaid'. A law counts once. -/
mutual
def uptoBulk {H : Type} : DataW H → Nat
  | .lit (.string bytes) => bytes.length + 1
  | .lit _ => 1
  | .nil => 1
  | .ptr d => uptoBulk d + 1
  | .slice elems spare => uptoBulkAll elems + uptoBulkAll spare + 1
  | .agg parts => uptoBulkAll parts + 1
  | .iface _ d => uptoBulk d + 1
  | .map entries => uptoBulkEntries entries + 1
  | .held _ => 1
def uptoBulkAll {H : Type} : List (DataW H) → Nat
  | [] => 0
  | d :: r => uptoBulk d + uptoBulkAll r
def uptoBulkEntries {H : Type} : List (Lit × DataW H) → Nat
  | [] => 0
  | x :: r => uptoBulkEntry x + uptoBulkEntries r
def uptoBulkEntry {H : Type} : Lit × DataW H → Nat
  | (.string bytes, d) => bytes.length + uptoBulk d + 1
  | (_, d) => uptoBulk d + 1
 end
def uptoSmall : (H : Type) → List (DataW H) → Bool := fun _ ds => decide (uptoBulkAll ds ≤ 1048576)
def OpenSpec.upto (s : _root_.Go.ChangeSpec) : _root_.Go.OpenSpec := { _root_.Go.OpenSpec.ofChange s with cond := some uptoSmall }

/-- 'invigilatorlaw21.RulesErrors', WHERE WHAT IT READS IS OF BULK AT MOST 1048576: true; the input reads as it did. -/
def rulesErrorsUptoRow : OpenClaim := { program := "ytnpkmimbnjnicaagreatdoor", sum := "194f4aeef26530141cb9cb66612235f8268c526a9b4a9da9b0530ecd9c71dcd8", func := "invigilator/invigilatorlaw21.RulesErrors", spec := "rulesErrors", inPlace := ["internal/bytealg.IndexByteString", "internal/bytealg.IndexString"], unfollowed := true, recurses := true, named := ["unicode/utf8.first", "unicode/utf8.acceptRanges", "invigilator/prims.numbers", "invigilator/prims.alike", "internal/bytealg.MaxLen"], apart := false, laid := [("unicode/utf8.acceptRanges", laid_unicode_utf8_acceptRanges), ("invigilator/prims.numbers", laid_invigilator_prims_numbers), ("invigilator/prims.alike", laid_invigilator_prims_alike), ("unicode/utf8.first", laid_unicode_utf8_first)], narrowed := true }
def RulesErrorsUptoSaid : Prop := rulesErrorsUptoRow.holds Tryz.pinned (OpenSpec.upto rulesErrorsSpec)

/-- 'invigilatorlaw21.RulesKnown', WHERE WHAT IT READS IS OF BULK AT MOST 1048576: true; the input reads as it did. -/
def rulesKnownUptoRow : OpenClaim := { program := "ytnpkmimbnjnicaagreatdoor", sum := "194f4aeef26530141cb9cb66612235f8268c526a9b4a9da9b0530ecd9c71dcd8", func := "invigilator/invigilatorlaw21.RulesKnown", spec := "rulesKnown", inPlace := ["internal/bytealg.IndexByteString", "internal/bytealg.IndexString"], unfollowed := true, recurses := true, named := ["unicode/utf8.first", "unicode/utf8.acceptRanges", "invigilator/prims.numbers", "invigilator/prims.alike", "internal/bytealg.MaxLen"], apart := false, laid := [("unicode/utf8.acceptRanges", laid_unicode_utf8_acceptRanges), ("invigilator/prims.numbers", laid_invigilator_prims_numbers), ("invigilator/prims.alike", laid_invigilator_prims_alike), ("unicode/utf8.first", laid_unicode_utf8_first)], narrowed := true }
def RulesKnownUptoSaid : Prop := rulesKnownUptoRow.holds Tryz.pinned (OpenSpec.upto rulesKnownSpec)

/-- 'invigilatorlaw21.RulesBehind', WHERE WHAT IT READS IS OF BULK AT MOST 1048576: true; the input reads as it did. -/
def rulesBehindUptoRow : OpenClaim := { program := "ytnpkmimbnjnicaagreatdoor", sum := "194f4aeef26530141cb9cb66612235f8268c526a9b4a9da9b0530ecd9c71dcd8", func := "invigilator/invigilatorlaw21.RulesBehind", spec := "rulesBehind", inPlace := ["internal/bytealg.IndexByteString", "internal/bytealg.IndexString"], unfollowed := true, recurses := true, named := ["unicode/utf8.first", "unicode/utf8.acceptRanges", "invigilator/prims.numbers", "invigilator/prims.alike", "internal/bytealg.MaxLen"], apart := false, laid := [("unicode/utf8.acceptRanges", laid_unicode_utf8_acceptRanges), ("invigilator/prims.numbers", laid_invigilator_prims_numbers), ("invigilator/prims.alike", laid_invigilator_prims_alike), ("unicode/utf8.first", laid_unicode_utf8_first)], narrowed := true }
def RulesBehindUptoSaid : Prop := rulesBehindUptoRow.holds Tryz.pinned (OpenSpec.upto rulesBehindSpec)

/-- 'invigilatorlaw21.RulesRules', WHERE WHAT IT READS IS OF BULK AT MOST 1048576: true; the input reads as it did. -/
def rulesRulesUptoRow : OpenClaim := { program := "ytnpkmimbnjnicaagreatdoor", sum := "194f4aeef26530141cb9cb66612235f8268c526a9b4a9da9b0530ecd9c71dcd8", func := "invigilator/invigilatorlaw21.RulesRules", spec := "rulesRules", inPlace := ["internal/bytealg.IndexByteString", "internal/bytealg.IndexString"], unfollowed := true, recurses := true, named := ["unicode/utf8.first", "unicode/utf8.acceptRanges", "invigilator/prims.numbers", "invigilator/prims.alike", "internal/bytealg.MaxLen"], apart := false, laid := [("unicode/utf8.acceptRanges", laid_unicode_utf8_acceptRanges), ("invigilator/prims.numbers", laid_invigilator_prims_numbers), ("invigilator/prims.alike", laid_invigilator_prims_alike), ("unicode/utf8.first", laid_unicode_utf8_first)], narrowed := true }
def RulesRulesUptoSaid : Prop := rulesRulesUptoRow.holds Tryz.pinned (OpenSpec.upto rulesRulesSpec)

/-- 'invigilatorlaw21.RulesGrow', WHERE WHAT IT READS IS OF BULK AT MOST 1048576: true; the input reads as it did. -/
def rulesGrowUptoRow : OpenClaim := { program := "ytnpkmimbnjnicaagreatdoor", sum := "194f4aeef26530141cb9cb66612235f8268c526a9b4a9da9b0530ecd9c71dcd8", func := "invigilator/invigilatorlaw21.RulesGrow", spec := "rulesGrow", inPlace := ["internal/bytealg.IndexByteString", "internal/bytealg.IndexString"], unfollowed := true, recurses := true, named := ["unicode/utf8.first", "unicode/utf8.acceptRanges", "invigilator/prims.numbers", "invigilator/prims.alike", "internal/bytealg.MaxLen"], apart := false, laid := [("unicode/utf8.acceptRanges", laid_unicode_utf8_acceptRanges), ("invigilator/prims.numbers", laid_invigilator_prims_numbers), ("invigilator/prims.alike", laid_invigilator_prims_alike), ("unicode/utf8.first", laid_unicode_utf8_first)], narrowed := true }
def RulesGrowUptoSaid : Prop := rulesGrowUptoRow.holds Tryz.pinned (OpenSpec.upto rulesGrowSpec)

end Rows
end Go.Proofs.YtnpkmimbnjnicaaGreatDoor
