/-
  NARROWER THAN 'FOR EVERY INPUT', by the rows' own cells (each row's printed sentence says how): PrimsFits: laid · PrimsDoes: laid · PrimsSound: laid · PrimsOwn: laid · PrimsBlind: laid · PrimsSwaps: laid · PrimsNames: laid · PrimsTable: laid.
  DERIVED. THE GIVEN ROWS OF THIS SEAT. 8 by the template 'for every input the law returns true; each argument reads behind the call as it read before'; 0 by the template 'total and deterministic' (their statements: YtaelfhjdmljblaaGreatDoorTotals.lean).
  GIVEN WITH THE SEED: the statements are not yours to turn. If you find one false, say at which input.
  Laid BY PROGRAM, IN A SANDBOX (cutbox-rows.mjs): the forced cells as the released guide's own fill.sh prints them over the translation 7597d22e298ef65c… (all of the seat's roots in one cut). By AI agents, Wed Nov 11 2026. No macro, syntax, notation, axiom, sorry.
-/
import Derived.Test.YtaelfhjdmljblaaGreatDoorChecked
import GoSem.Claim
import GoSem.ClaimJoined
import GoSem.ClaimMapViews
import Derived.JoinedTies
import Derived.KernelRfl
namespace Go.Proofs.YtaelfhjdmljblaaGreatDoor
/- THE CELL 'sum', in the pinned program and in every row, IS THE sha256 OF THE DUMP (.gsa) THAT YtaelfhjdmljblaaGreatDoorProg.lean LOADS. Nothing in Lean hashes anything: it is a label: what it is worth is what the hold of that sum in a sandbox is worth. -/
noncomputable def Tryz.pinned : Pinned := { name := "ytaelfhjdmljblaagreatdoor", sum := "7597d22e298ef65c0419ccca80bedee2df6dead126ca54ec68e8f0b437ca6942", checked := Tryz.checked }
namespace Rows
def none {H : Type} : Left H := { results := [], args := [] }

/- WHAT THE LISTED PACKAGE-LEVEL VARIABLES READ AS WHEN THE CALL BEGINS. Each datum BY PROGRAM (the guide's laid-datum.mjs) off the statement by which the dump's own 'gosem.cut.vars' lays the variable. In a bare row this is a premise. The card (YtaelfhjdmljblaaGreatDoorCards.lean) ties it to the program's text. -/
def laid_invigilator_prims_numbers {H : Type} : DataW H := .slice [.lit (.string [105, 110, 105, 110]), .lit (.string [105, 48, 105, 110, 105, 110]), .lit (.string [105, 110, 105, 48, 105, 110]), .lit (.string [105, 110, 105, 110, 105, 110])] []
def laid_invigilator_prims_alike {H : Type} : DataW H := .slice [.lit (.string [107, 48, 107, 110, 105, 110]), .lit (.string [107, 110, 107, 48, 105, 110]), .lit (.string [107, 110, 107, 110, 105, 110])] []

/-- 'invigilatorlaw12.PrimsFits': WHATEVER THE INPUT: true; the input reads as it did. -/
def primsFitsSpec : ChangeSpec := { name := "primsFits", fn := fun _ => fun
  | [d1, d2, d3] => { results := [.lit (.bool true)], args := [d1, d2, d3] }
  | _ => none }
def primsFitsRow : OpenClaim := { program := "ytaelfhjdmljblaagreatdoor", sum := "7597d22e298ef65c0419ccca80bedee2df6dead126ca54ec68e8f0b437ca6942", func := "invigilator/invigilatorlaw12.PrimsFits", spec := "primsFits", unfollowed := true, recurses := true, named := ["invigilator/prims.numbers", "invigilator/prims.alike"], apart := false, laid := [("invigilator/prims.numbers", laid_invigilator_prims_numbers), ("invigilator/prims.alike", laid_invigilator_prims_alike)] }
def PrimsFitsSaid : Prop := primsFitsRow.holds Tryz.pinned (OpenSpec.ofChange primsFitsSpec)

/-- ITS FALSE NEIGHBOUR: 'it returns false'. Refute it at one input. -/
def primsFitsWrong : ChangeSpec := { name := "primsFits", fn := fun _ => fun
  | [d1, d2, d3] => { results := [.lit (.bool false)], args := [d1, d2, d3] }
  | _ => none }
def PrimsFitsWrongFalsely : Prop := primsFitsRow.holds Tryz.pinned (OpenSpec.ofChange primsFitsWrong)

/-- 'invigilatorlaw12.PrimsDoes': WHATEVER THE INPUT: true; the input reads as it did. -/
def primsDoesSpec : ChangeSpec := { name := "primsDoes", fn := fun _ => fun
  | [d1, d2] => { results := [.lit (.bool true)], args := [d1, d2] }
  | _ => none }
def primsDoesRow : OpenClaim := { program := "ytaelfhjdmljblaagreatdoor", sum := "7597d22e298ef65c0419ccca80bedee2df6dead126ca54ec68e8f0b437ca6942", func := "invigilator/invigilatorlaw12.PrimsDoes", spec := "primsDoes", unfollowed := true, recurses := true, named := ["invigilator/prims.numbers", "invigilator/prims.alike"], apart := false, laid := [("invigilator/prims.numbers", laid_invigilator_prims_numbers), ("invigilator/prims.alike", laid_invigilator_prims_alike)] }
def PrimsDoesSaid : Prop := primsDoesRow.holds Tryz.pinned (OpenSpec.ofChange primsDoesSpec)

/-- ITS FALSE NEIGHBOUR: 'it returns false'. Refute it at one input. -/
def primsDoesWrong : ChangeSpec := { name := "primsDoes", fn := fun _ => fun
  | [d1, d2] => { results := [.lit (.bool false)], args := [d1, d2] }
  | _ => none }
def PrimsDoesWrongFalsely : Prop := primsDoesRow.holds Tryz.pinned (OpenSpec.ofChange primsDoesWrong)

/-- 'invigilatorlaw12.PrimsSound': WHATEVER THE INPUT: true; the input reads as it did. -/
def primsSoundSpec : ChangeSpec := { name := "primsSound", fn := fun _ => fun
  | [d1, d2] => { results := [.lit (.bool true)], args := [d1, d2] }
  | _ => none }
def primsSoundRow : OpenClaim := { program := "ytaelfhjdmljblaagreatdoor", sum := "7597d22e298ef65c0419ccca80bedee2df6dead126ca54ec68e8f0b437ca6942", func := "invigilator/invigilatorlaw12.PrimsSound", spec := "primsSound", unfollowed := true, recurses := true, named := ["invigilator/prims.numbers", "invigilator/prims.alike"], apart := false, laid := [("invigilator/prims.numbers", laid_invigilator_prims_numbers), ("invigilator/prims.alike", laid_invigilator_prims_alike)] }
def PrimsSoundSaid : Prop := primsSoundRow.holds Tryz.pinned (OpenSpec.ofChange primsSoundSpec)

/-- ITS FALSE NEIGHBOUR: 'it returns false'. Refute it at one input. -/
def primsSoundWrong : ChangeSpec := { name := "primsSound", fn := fun _ => fun
  | [d1, d2] => { results := [.lit (.bool false)], args := [d1, d2] }
  | _ => none }
def PrimsSoundWrongFalsely : Prop := primsSoundRow.holds Tryz.pinned (OpenSpec.ofChange primsSoundWrong)

/-- 'invigilatorlaw12.PrimsOwn': WHATEVER THE INPUT: true; the input reads as it did. -/
def primsOwnSpec : ChangeSpec := { name := "primsOwn", fn := fun _ => fun
  | [d1, d2] => { results := [.lit (.bool true)], args := [d1, d2] }
  | _ => none }
def primsOwnRow : OpenClaim := { program := "ytaelfhjdmljblaagreatdoor", sum := "7597d22e298ef65c0419ccca80bedee2df6dead126ca54ec68e8f0b437ca6942", func := "invigilator/invigilatorlaw12.PrimsOwn", spec := "primsOwn", unfollowed := true, recurses := true, named := ["invigilator/prims.numbers", "invigilator/prims.alike"], apart := false, laid := [("invigilator/prims.numbers", laid_invigilator_prims_numbers), ("invigilator/prims.alike", laid_invigilator_prims_alike)] }
def PrimsOwnSaid : Prop := primsOwnRow.holds Tryz.pinned (OpenSpec.ofChange primsOwnSpec)

/-- ITS FALSE NEIGHBOUR: 'it returns false'. Refute it at one input. -/
def primsOwnWrong : ChangeSpec := { name := "primsOwn", fn := fun _ => fun
  | [d1, d2] => { results := [.lit (.bool false)], args := [d1, d2] }
  | _ => none }
def PrimsOwnWrongFalsely : Prop := primsOwnRow.holds Tryz.pinned (OpenSpec.ofChange primsOwnWrong)

/-- 'invigilatorlaw12.PrimsBlind': WHATEVER THE INPUT: true; the input reads as it did. -/
def primsBlindSpec : ChangeSpec := { name := "primsBlind", fn := fun _ => fun
  | [d1, d2, d3] => { results := [.lit (.bool true)], args := [d1, d2, d3] }
  | _ => none }
def primsBlindRow : OpenClaim := { program := "ytaelfhjdmljblaagreatdoor", sum := "7597d22e298ef65c0419ccca80bedee2df6dead126ca54ec68e8f0b437ca6942", func := "invigilator/invigilatorlaw12.PrimsBlind", spec := "primsBlind", unfollowed := true, recurses := true, named := ["invigilator/prims.numbers", "invigilator/prims.alike"], apart := false, laid := [("invigilator/prims.numbers", laid_invigilator_prims_numbers), ("invigilator/prims.alike", laid_invigilator_prims_alike)] }
def PrimsBlindSaid : Prop := primsBlindRow.holds Tryz.pinned (OpenSpec.ofChange primsBlindSpec)

/-- ITS FALSE NEIGHBOUR: 'it returns false'. Refute it at one input. -/
def primsBlindWrong : ChangeSpec := { name := "primsBlind", fn := fun _ => fun
  | [d1, d2, d3] => { results := [.lit (.bool false)], args := [d1, d2, d3] }
  | _ => none }
def PrimsBlindWrongFalsely : Prop := primsBlindRow.holds Tryz.pinned (OpenSpec.ofChange primsBlindWrong)

/-- 'invigilatorlaw12.PrimsSwaps': WHATEVER THE INPUT: true; the input reads as it did. -/
def primsSwapsSpec : ChangeSpec := { name := "primsSwaps", fn := fun _ => fun
  | [d] => { results := [.lit (.bool true)], args := [d] }
  | _ => none }
def primsSwapsRow : OpenClaim := { program := "ytaelfhjdmljblaagreatdoor", sum := "7597d22e298ef65c0419ccca80bedee2df6dead126ca54ec68e8f0b437ca6942", func := "invigilator/invigilatorlaw12.PrimsSwaps", spec := "primsSwaps", unfollowed := true, recurses := true, named := ["invigilator/prims.numbers", "invigilator/prims.alike"], apart := false, laid := [("invigilator/prims.numbers", laid_invigilator_prims_numbers), ("invigilator/prims.alike", laid_invigilator_prims_alike)] }
def PrimsSwapsSaid : Prop := primsSwapsRow.holds Tryz.pinned (OpenSpec.ofChange primsSwapsSpec)

/-- ITS FALSE NEIGHBOUR: 'it returns false'. Refute it at one input. -/
def primsSwapsWrong : ChangeSpec := { name := "primsSwaps", fn := fun _ => fun
  | [d] => { results := [.lit (.bool false)], args := [d] }
  | _ => none }
def PrimsSwapsWrongFalsely : Prop := primsSwapsRow.holds Tryz.pinned (OpenSpec.ofChange primsSwapsWrong)

/-- 'invigilatorlaw12.PrimsNames': WHATEVER THE INPUT: true; the input reads as it did. -/
def primsNamesSpec : ChangeSpec := { name := "primsNames", fn := fun _ => fun
  | [d1, d2] => { results := [.lit (.bool true)], args := [d1, d2] }
  | _ => none }
def primsNamesRow : OpenClaim := { program := "ytaelfhjdmljblaagreatdoor", sum := "7597d22e298ef65c0419ccca80bedee2df6dead126ca54ec68e8f0b437ca6942", func := "invigilator/invigilatorlaw12.PrimsNames", spec := "primsNames", unfollowed := true, recurses := true, named := ["invigilator/prims.numbers", "invigilator/prims.alike"], apart := false, laid := [("invigilator/prims.numbers", laid_invigilator_prims_numbers), ("invigilator/prims.alike", laid_invigilator_prims_alike)] }
def PrimsNamesSaid : Prop := primsNamesRow.holds Tryz.pinned (OpenSpec.ofChange primsNamesSpec)

/-- ITS FALSE NEIGHBOUR: 'it returns false'. Refute it at one input. -/
def primsNamesWrong : ChangeSpec := { name := "primsNames", fn := fun _ => fun
  | [d1, d2] => { results := [.lit (.bool false)], args := [d1, d2] }
  | _ => none }
def PrimsNamesWrongFalsely : Prop := primsNamesRow.holds Tryz.pinned (OpenSpec.ofChange primsNamesWrong)

/-- 'invigilatorlaw12.PrimsTable': WHATEVER THE INPUT: true; the input reads as it did. -/
def primsTableSpec : ChangeSpec := { name := "primsTable", fn := fun _ => fun
  | [d1, d2] => { results := [.lit (.bool true)], args := [d1, d2] }
  | _ => none }
def primsTableRow : OpenClaim := { program := "ytaelfhjdmljblaagreatdoor", sum := "7597d22e298ef65c0419ccca80bedee2df6dead126ca54ec68e8f0b437ca6942", func := "invigilator/invigilatorlaw12.PrimsTable", spec := "primsTable", unfollowed := true, recurses := true, named := ["invigilator/prims.numbers", "invigilator/prims.alike"], apart := false, laid := [("invigilator/prims.numbers", laid_invigilator_prims_numbers), ("invigilator/prims.alike", laid_invigilator_prims_alike)] }
def PrimsTableSaid : Prop := primsTableRow.holds Tryz.pinned (OpenSpec.ofChange primsTableSpec)

/-- ITS FALSE NEIGHBOUR: 'it returns false'. Refute it at one input. -/
def primsTableWrong : ChangeSpec := { name := "primsTable", fn := fun _ => fun
  | [d1, d2] => { results := [.lit (.bool false)], args := [d1, d2] }
  | _ => none }
def PrimsTableWrongFalsely : Prop := primsTableRow.holds Tryz.pinned (OpenSpec.ofChange primsTableWrong)

/- THE SECOND FORM. 'bulk': how many values and letters a reading holds, each counted each time it is reached (what is shared counts as often as it is met; a slice's spare places count too). A statement '..UptoSaid' is the law's where the arguments, and the package variables that the reading takes, are together of bulk at most 1048576: NARROWER than '..Said'. Prove '..Said' where nothing that the law and all that it calls make is longer than what came in: it says more and counts as full. Else prove '..UptoSaid'. A law counts once. -/
mutual
def uptoBulk {H : Type} : DataW H → Nat
  | .lit (.string bytes) => bytes.length + 1
  | .lit _ => 1
  | .nil => 1
  | .ptr d => uptoBulk d + 1
  | .slice elems spare => uptoBulkAll elems + uptoBulkAll spare + 1
  | .agg parts => uptoBulkAll parts + 1
  | .iface _ d => uptoBulk d + 1
  | .map entries => uptoBulkEntries entries + 1
  | .held _ => 1
def uptoBulkAll {H : Type} : List (DataW H) → Nat
  | [] => 0
  | d :: r => uptoBulk d + uptoBulkAll r
def uptoBulkEntries {H : Type} : List (Lit × DataW H) → Nat
  | [] => 0
  | x :: r => uptoBulkEntry x + uptoBulkEntries r
def uptoBulkEntry {H : Type} : Lit × DataW H → Nat
  | (.string bytes, d) => bytes.length + uptoBulk d + 1
  | (_, d) => uptoBulk d + 1
 end
def uptoSmall : (H : Type) → List (DataW H) → Bool := fun _ ds => decide (uptoBulkAll ds ≤ 1048576)
def OpenSpec.upto (s : _root_.Go.ChangeSpec) : _root_.Go.OpenSpec := { _root_.Go.OpenSpec.ofChange s with cond := some uptoSmall }

/-- 'invigilatorlaw12.PrimsFits', WHERE WHAT IT READS IS OF BULK AT MOST 1048576: true; the input reads as it did. -/
def primsFitsUptoRow : OpenClaim := { program := "ytaelfhjdmljblaagreatdoor", sum := "7597d22e298ef65c0419ccca80bedee2df6dead126ca54ec68e8f0b437ca6942", func := "invigilator/invigilatorlaw12.PrimsFits", spec := "primsFits", unfollowed := true, recurses := true, named := ["invigilator/prims.numbers", "invigilator/prims.alike"], apart := false, laid := [("invigilator/prims.numbers", laid_invigilator_prims_numbers), ("invigilator/prims.alike", laid_invigilator_prims_alike)], narrowed := true }
def PrimsFitsUptoSaid : Prop := primsFitsUptoRow.holds Tryz.pinned (OpenSpec.upto primsFitsSpec)

/-- 'invigilatorlaw12.PrimsDoes', WHERE WHAT IT READS IS OF BULK AT MOST 1048576: true; the input reads as it did. -/
def primsDoesUptoRow : OpenClaim := { program := "ytaelfhjdmljblaagreatdoor", sum := "7597d22e298ef65c0419ccca80bedee2df6dead126ca54ec68e8f0b437ca6942", func := "invigilator/invigilatorlaw12.PrimsDoes", spec := "primsDoes", unfollowed := true, recurses := true, named := ["invigilator/prims.numbers", "invigilator/prims.alike"], apart := false, laid := [("invigilator/prims.numbers", laid_invigilator_prims_numbers), ("invigilator/prims.alike", laid_invigilator_prims_alike)], narrowed := true }
def PrimsDoesUptoSaid : Prop := primsDoesUptoRow.holds Tryz.pinned (OpenSpec.upto primsDoesSpec)

/-- 'invigilatorlaw12.PrimsSound', WHERE WHAT IT READS IS OF BULK AT MOST 1048576: true; the input reads as it did. -/
def primsSoundUptoRow : OpenClaim := { program := "ytaelfhjdmljblaagreatdoor", sum := "7597d22e298ef65c0419ccca80bedee2df6dead126ca54ec68e8f0b437ca6942", func := "invigilator/invigilatorlaw12.PrimsSound", spec := "primsSound", unfollowed := true, recurses := true, named := ["invigilator/prims.numbers", "invigilator/prims.alike"], apart := false, laid := [("invigilator/prims.numbers", laid_invigilator_prims_numbers), ("invigilator/prims.alike", laid_invigilator_prims_alike)], narrowed := true }
def PrimsSoundUptoSaid : Prop := primsSoundUptoRow.holds Tryz.pinned (OpenSpec.upto primsSoundSpec)

/-- 'invigilatorlaw12.PrimsOwn', WHERE WHAT IT READS IS OF BULK AT MOST 1048576: true; the input reads as it did. -/
def primsOwnUptoRow : OpenClaim := { program := "ytaelfhjdmljblaagreatdoor", sum := "7597d22e298ef65c0419ccca80bedee2df6dead126ca54ec68e8f0b437ca6942", func := "invigilator/invigilatorlaw12.PrimsOwn", spec := "primsOwn", unfollowed := true, recurses := true, named := ["invigilator/prims.numbers", "invigilator/prims.alike"], apart := false, laid := [("invigilator/prims.numbers", laid_invigilator_prims_numbers), ("invigilator/prims.alike", laid_invigilator_prims_alike)], narrowed := true }
def PrimsOwnUptoSaid : Prop := primsOwnUptoRow.holds Tryz.pinned (OpenSpec.upto primsOwnSpec)

/-- 'invigilatorlaw12.PrimsBlind', WHERE WHAT IT READS IS OF BULK AT MOST 1048576: true; the input reads as it did. -/
def primsBlindUptoRow : OpenClaim := { program := "ytaelfhjdmljblaagreatdoor", sum := "7597d22e298ef65c0419ccca80bedee2df6dead126ca54ec68e8f0b437ca6942", func := "invigilator/invigilatorlaw12.PrimsBlind", spec := "primsBlind", unfollowed := true, recurses := true, named := ["invigilator/prims.numbers", "invigilator/prims.alike"], apart := false, laid := [("invigilator/prims.numbers", laid_invigilator_prims_numbers), ("invigilator/prims.alike", laid_invigilator_prims_alike)], narrowed := true }
def PrimsBlindUptoSaid : Prop := primsBlindUptoRow.holds Tryz.pinned (OpenSpec.upto primsBlindSpec)

/-- 'invigilatorlaw12.PrimsSwaps', WHERE WHAT IT READS IS OF BULK AT MOST 1048576: true; the input reads as it did. -/
def primsSwapsUptoRow : OpenClaim := { program := "ytaelfhjdmljblaagreatdoor", sum := "7597d22e298ef65c0419ccca80bedee2df6dead126ca54ec68e8f0b437ca6942", func := "invigilator/invigilatorlaw12.PrimsSwaps", spec := "primsSwaps", unfollowed := true, recurses := true, named := ["invigilator/prims.numbers", "invigilator/prims.alike"], apart := false, laid := [("invigilator/prims.numbers", laid_invigilator_prims_numbers), ("invigilator/prims.alike", laid_invigilator_prims_alike)], narrowed := true }
def PrimsSwapsUptoSaid : Prop := primsSwapsUptoRow.holds Tryz.pinned (OpenSpec.upto primsSwapsSpec)

/-- 'invigilatorlaw12.PrimsNames', WHERE WHAT IT READS IS OF BULK AT MOST 1048576: true; the input reads as it did. -/
def primsNamesUptoRow : OpenClaim := { program := "ytaelfhjdmljblaagreatdoor", sum := "7597d22e298ef65c0419ccca80bedee2df6dead126ca54ec68e8f0b437ca6942", func := "invigilator/invigilatorlaw12.PrimsNames", spec := "primsNames", unfollowed := true, recurses := true, named := ["invigilator/prims.numbers", "invigilator/prims.alike"], apart := false, laid := [("invigilator/prims.numbers", laid_invigilator_prims_numbers), ("invigilator/prims.alike", laid_invigilator_prims_alike)], narrowed := true }
def PrimsNamesUptoSaid : Prop := primsNamesUptoRow.holds Tryz.pinned (OpenSpec.upto primsNamesSpec)

/-- 'invigilatorlaw12.PrimsTable', WHERE WHAT IT READS IS OF BULK AT MOST 1048576: true; the input reads as it did. -/
def primsTableUptoRow : OpenClaim := { program := "ytaelfhjdmljblaagreatdoor", sum := "7597d22e298ef65c0419ccca80bedee2df6dead126ca54ec68e8f0b437ca6942", func := "invigilator/invigilatorlaw12.PrimsTable", spec := "primsTable", unfollowed := true, recurses := true, named := ["invigilator/prims.numbers", "invigilator/prims.alike"], apart := false, laid := [("invigilator/prims.numbers", laid_invigilator_prims_numbers), ("invigilator/prims.alike", laid_invigilator_prims_alike)], narrowed := true }
def PrimsTableUptoSaid : Prop := primsTableUptoRow.holds Tryz.pinned (OpenSpec.upto primsTableSpec)

end Rows
end Go.Proofs.YtaelfhjdmljblaaGreatDoor
