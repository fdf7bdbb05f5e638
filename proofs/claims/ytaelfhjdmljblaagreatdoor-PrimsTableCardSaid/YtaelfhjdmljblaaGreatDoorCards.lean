/-
  DERIVED. GIVEN WITH THE SEED: THE CARDS: each row of YtaelfhjdmljblaaGreatDoorRows.lean that lists a variable, with what it lists TIED to the program's text (the seventh form; the later family's looks); each row that meets fmt, with fmt's text TOLD by the authors' own Lean function (tested against real Go, not proved from fmt's source: count such statements apart). THE CARD IS WHAT COUNTS. Prove the row's statement (the work); the ties are given (YtaelfhjdmljblaaGreatDoorTie.lean); close each card by the builder's one call (the guide's Derived/Test/ToyasCard.lean, 'card_holds'). Laid BY PROGRAM, IN A SANDBOX (cutbox-door.mjs). By AI agents, Wed Nov 11 2026. No macro, syntax, notation, axiom, sorry.
-/
import Derived.Test.YtaelfhjdmljblaaGreatDoorRows
import GoSem.ClaimSeven
namespace Go.Proofs.YtaelfhjdmljblaaGreatDoor
namespace Rows

/-- THE TIED CARD OF 'invigilatorlaw12.PrimsFits'. -/
def primsFitsCard : Claim7 := { stood := { row := primsFitsRow, standIns := [], harness := (true, "5741a4378664212b5a403190b9926633a01bf54cb5375a2b73ee3c3a265fd35a"), looks := true }, kinds := [], alts := [], laidByText := true, laidKinds := [.widerDeep, .widerDeep], laidTests := true, laidLooks := .later }
def PrimsFitsCardSaid : Prop := Claim7.holds Tryz.pinned (.plain (OpenSpec.ofChange primsFitsSpec)) primsFitsCard

/-- THE TIED CARD OF 'invigilatorlaw12.PrimsDoes'. -/
def primsDoesCard : Claim7 := { stood := { row := primsDoesRow, standIns := [], harness := (true, "5741a4378664212b5a403190b9926633a01bf54cb5375a2b73ee3c3a265fd35a"), looks := true }, kinds := [], alts := [], laidByText := true, laidKinds := [.widerDeep, .widerDeep], laidTests := true, laidLooks := .later }
def PrimsDoesCardSaid : Prop := Claim7.holds Tryz.pinned (.plain (OpenSpec.ofChange primsDoesSpec)) primsDoesCard

/-- THE TIED CARD OF 'invigilatorlaw12.PrimsSound'. -/
def primsSoundCard : Claim7 := { stood := { row := primsSoundRow, standIns := [], harness := (true, "5741a4378664212b5a403190b9926633a01bf54cb5375a2b73ee3c3a265fd35a"), looks := true }, kinds := [], alts := [], laidByText := true, laidKinds := [.widerDeep, .widerDeep], laidTests := true, laidLooks := .later }
def PrimsSoundCardSaid : Prop := Claim7.holds Tryz.pinned (.plain (OpenSpec.ofChange primsSoundSpec)) primsSoundCard

/-- THE TIED CARD OF 'invigilatorlaw12.PrimsOwn'. -/
def primsOwnCard : Claim7 := { stood := { row := primsOwnRow, standIns := [], harness := (true, "5741a4378664212b5a403190b9926633a01bf54cb5375a2b73ee3c3a265fd35a"), looks := true }, kinds := [], alts := [], laidByText := true, laidKinds := [.widerDeep, .widerDeep], laidTests := true, laidLooks := .later }
def PrimsOwnCardSaid : Prop := Claim7.holds Tryz.pinned (.plain (OpenSpec.ofChange primsOwnSpec)) primsOwnCard

/-- THE TIED CARD OF 'invigilatorlaw12.PrimsBlind'. -/
def primsBlindCard : Claim7 := { stood := { row := primsBlindRow, standIns := [], harness := (true, "5741a4378664212b5a403190b9926633a01bf54cb5375a2b73ee3c3a265fd35a"), looks := true }, kinds := [], alts := [], laidByText := true, laidKinds := [.widerDeep, .widerDeep], laidTests := true, laidLooks := .later }
def PrimsBlindCardSaid : Prop := Claim7.holds Tryz.pinned (.plain (OpenSpec.ofChange primsBlindSpec)) primsBlindCard

/-- THE TIED CARD OF 'invigilatorlaw12.PrimsSwaps'. -/
def primsSwapsCard : Claim7 := { stood := { row := primsSwapsRow, standIns := [], harness := (true, "5741a4378664212b5a403190b9926633a01bf54cb5375a2b73ee3c3a265fd35a"), looks := true }, kinds := [], alts := [], laidByText := true, laidKinds := [.widerDeep, .widerDeep], laidTests := true, laidLooks := .later }
def PrimsSwapsCardSaid : Prop := Claim7.holds Tryz.pinned (.plain (OpenSpec.ofChange primsSwapsSpec)) primsSwapsCard

/-- THE TIED CARD OF 'invigilatorlaw12.PrimsNames'. -/
def primsNamesCard : Claim7 := { stood := { row := primsNamesRow, standIns := [], harness := (true, "5741a4378664212b5a403190b9926633a01bf54cb5375a2b73ee3c3a265fd35a"), looks := true }, kinds := [], alts := [], laidByText := true, laidKinds := [.widerDeep, .widerDeep], laidTests := true, laidLooks := .later }
def PrimsNamesCardSaid : Prop := Claim7.holds Tryz.pinned (.plain (OpenSpec.ofChange primsNamesSpec)) primsNamesCard

/-- THE TIED CARD OF 'invigilatorlaw12.PrimsTable'. -/
def primsTableCard : Claim7 := { stood := { row := primsTableRow, standIns := [], harness := (true, "5741a4378664212b5a403190b9926633a01bf54cb5375a2b73ee3c3a265fd35a"), looks := true }, kinds := [], alts := [], laidByText := true, laidKinds := [.widerDeep, .widerDeep], laidTests := true, laidLooks := .later }
def PrimsTableCardSaid : Prop := Claim7.holds Tryz.pinned (.plain (OpenSpec.ofChange primsTableSpec)) primsTableCard

/-- THE SECOND FORM's CARD OF 'invigilatorlaw12.PrimsFits'. -/
def primsFitsUptoCard : Claim7 := { stood := { row := primsFitsUptoRow, standIns := [], harness := (true, "5741a4378664212b5a403190b9926633a01bf54cb5375a2b73ee3c3a265fd35a"), looks := true }, kinds := [], alts := [], laidByText := true, laidKinds := [.widerDeep, .widerDeep], laidTests := true, laidLooks := .later }
def PrimsFitsUptoCardSaid : Prop := Claim7.holds Tryz.pinned (.plain (OpenSpec.upto primsFitsSpec)) primsFitsUptoCard

/-- THE SECOND FORM's CARD OF 'invigilatorlaw12.PrimsDoes'. -/
def primsDoesUptoCard : Claim7 := { stood := { row := primsDoesUptoRow, standIns := [], harness := (true, "5741a4378664212b5a403190b9926633a01bf54cb5375a2b73ee3c3a265fd35a"), looks := true }, kinds := [], alts := [], laidByText := true, laidKinds := [.widerDeep, .widerDeep], laidTests := true, laidLooks := .later }
def PrimsDoesUptoCardSaid : Prop := Claim7.holds Tryz.pinned (.plain (OpenSpec.upto primsDoesSpec)) primsDoesUptoCard

/-- THE SECOND FORM's CARD OF 'invigilatorlaw12.PrimsSound'. -/
def primsSoundUptoCard : Claim7 := { stood := { row := primsSoundUptoRow, standIns := [], harness := (true, "5741a4378664212b5a403190b9926633a01bf54cb5375a2b73ee3c3a265fd35a"), looks := true }, kinds := [], alts := [], laidByText := true, laidKinds := [.widerDeep, .widerDeep], laidTests := true, laidLooks := .later }
def PrimsSoundUptoCardSaid : Prop := Claim7.holds Tryz.pinned (.plain (OpenSpec.upto primsSoundSpec)) primsSoundUptoCard

/-- THE SECOND FORM's CARD OF 'invigilatorlaw12.PrimsOwn'. -/
def primsOwnUptoCard : Claim7 := { stood := { row := primsOwnUptoRow, standIns := [], harness := (true, "5741a4378664212b5a403190b9926633a01bf54cb5375a2b73ee3c3a265fd35a"), looks := true }, kinds := [], alts := [], laidByText := true, laidKinds := [.widerDeep, .widerDeep], laidTests := true, laidLooks := .later }
def PrimsOwnUptoCardSaid : Prop := Claim7.holds Tryz.pinned (.plain (OpenSpec.upto primsOwnSpec)) primsOwnUptoCard

/-- THE SECOND FORM's CARD OF 'invigilatorlaw12.PrimsBlind'. -/
def primsBlindUptoCard : Claim7 := { stood := { row := primsBlindUptoRow, standIns := [], harness := (true, "5741a4378664212b5a403190b9926633a01bf54cb5375a2b73ee3c3a265fd35a"), looks := true }, kinds := [], alts := [], laidByText := true, laidKinds := [.widerDeep, .widerDeep], laidTests := true, laidLooks := .later }
def PrimsBlindUptoCardSaid : Prop := Claim7.holds Tryz.pinned (.plain (OpenSpec.upto primsBlindSpec)) primsBlindUptoCard

/-- THE SECOND FORM's CARD OF 'invigilatorlaw12.PrimsSwaps'. -/
def primsSwapsUptoCard : Claim7 := { stood := { row := primsSwapsUptoRow, standIns := [], harness := (true, "5741a4378664212b5a403190b9926633a01bf54cb5375a2b73ee3c3a265fd35a"), looks := true }, kinds := [], alts := [], laidByText := true, laidKinds := [.widerDeep, .widerDeep], laidTests := true, laidLooks := .later }
def PrimsSwapsUptoCardSaid : Prop := Claim7.holds Tryz.pinned (.plain (OpenSpec.upto primsSwapsSpec)) primsSwapsUptoCard

/-- THE SECOND FORM's CARD OF 'invigilatorlaw12.PrimsNames'. -/
def primsNamesUptoCard : Claim7 := { stood := { row := primsNamesUptoRow, standIns := [], harness := (true, "5741a4378664212b5a403190b9926633a01bf54cb5375a2b73ee3c3a265fd35a"), looks := true }, kinds := [], alts := [], laidByText := true, laidKinds := [.widerDeep, .widerDeep], laidTests := true, laidLooks := .later }
def PrimsNamesUptoCardSaid : Prop := Claim7.holds Tryz.pinned (.plain (OpenSpec.upto primsNamesSpec)) primsNamesUptoCard

/-- THE SECOND FORM's CARD OF 'invigilatorlaw12.PrimsTable'. -/
def primsTableUptoCard : Claim7 := { stood := { row := primsTableUptoRow, standIns := [], harness := (true, "5741a4378664212b5a403190b9926633a01bf54cb5375a2b73ee3c3a265fd35a"), looks := true }, kinds := [], alts := [], laidByText := true, laidKinds := [.widerDeep, .widerDeep], laidTests := true, laidLooks := .later }
def PrimsTableUptoCardSaid : Prop := Claim7.holds Tryz.pinned (.plain (OpenSpec.upto primsTableSpec)) primsTableUptoCard
end Rows
end Go.Proofs.YtaelfhjdmljblaaGreatDoor
