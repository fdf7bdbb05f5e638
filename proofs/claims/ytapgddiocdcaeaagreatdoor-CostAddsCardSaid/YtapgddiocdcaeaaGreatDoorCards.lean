/-
  DERIVED. GIVEN WITH THE SEED: THE CARDS: each row of YtapgddiocdcaeaaGreatDoorRows.lean that lists a variable, with what it lists TIED to the program's text (the seventh form; the later family's looks); each row that meets fmt, with fmt's text TOLD by the authors' own Lean function (tested against real Go, not proved from fmt's source: count such statements apart). THE CARD IS WHAT COUNTS. Prove the row's statement (the work); the ties are given (YtapgddiocdcaeaaGreatDoorTie.lean); close each card by the builder's one call (the guide's Derived/Test/ToyasCard.lean, 'card_holds'). Laid BY PROGRAM, IN A SANDBOX (cutbox-door.mjs). By AI agents, Wed Nov 11 2026. No macro, syntax, notation, axiom, sorry.
-/
import Derived.Test.YtapgddiocdcaeaaGreatDoorRows
import GoSem.ClaimSeven
namespace Go.Proofs.YtapgddiocdcaeaaGreatDoor
namespace Rows

/-- THE TIED CARD OF 'invigilatorlaw25.CostPrims'. -/
def costPrimsCard : Claim7 := { stood := { row := costPrimsRow, standIns := [], harness := (true, "d6a16e607c5eaf14f1875331eb9ff999dee3854f68343b144038c8200f3e3fa5"), looks := false }, kinds := [], alts := [], laidByText := true, laidKinds := [.data, .widerDeep, .widerDeep, .pinned], laidTests := true, laidLooks := .later }
def CostPrimsCardSaid : Prop := Claim7.holds Tryz.pinned (.plain (OpenSpec.ofChange costPrimsSpec)) costPrimsCard

/-- THE TIED CARD OF 'invigilatorlaw25.CostExprs'. -/
def costExprsCard : Claim7 := { stood := { row := costExprsRow, standIns := [], harness := (true, "d6a16e607c5eaf14f1875331eb9ff999dee3854f68343b144038c8200f3e3fa5"), looks := false }, kinds := [], alts := [], laidByText := true, laidKinds := [.data, .widerDeep, .widerDeep, .pinned], laidTests := true, laidLooks := .later }
def CostExprsCardSaid : Prop := Claim7.holds Tryz.pinned (.plain (OpenSpec.ofChange costExprsSpec)) costExprsCard

/-- THE TIED CARD OF 'invigilatorlaw25.CostBlind'. -/
def costBlindCard : Claim7 := { stood := { row := costBlindRow, standIns := [], harness := (true, "d6a16e607c5eaf14f1875331eb9ff999dee3854f68343b144038c8200f3e3fa5"), looks := false }, kinds := [], alts := [], laidByText := true, laidKinds := [.data, .widerDeep, .widerDeep, .pinned], laidTests := true, laidLooks := .later }
def CostBlindCardSaid : Prop := Claim7.holds Tryz.pinned (.plain (OpenSpec.ofChange costBlindSpec)) costBlindCard

/-- THE TIED CARD OF 'invigilatorlaw25.CostAdds'. -/
def costAddsCard : Claim7 := { stood := { row := costAddsRow, standIns := [], harness := (true, "d6a16e607c5eaf14f1875331eb9ff999dee3854f68343b144038c8200f3e3fa5"), looks := false }, kinds := [], alts := [], laidByText := true, laidKinds := [.data, .widerDeep, .widerDeep, .pinned], laidTests := true, laidLooks := .later }
def CostAddsCardSaid : Prop := Claim7.holds Tryz.pinned (.plain (OpenSpec.ofChange costAddsSpec)) costAddsCard

/-- THE TIED CARD OF 'invigilatorlaw25.CostCharges'. -/
def costChargesCard : Claim7 := { stood := { row := costChargesRow, standIns := [], harness := (true, "d6a16e607c5eaf14f1875331eb9ff999dee3854f68343b144038c8200f3e3fa5"), looks := false }, kinds := [], alts := [], laidByText := true, laidKinds := [.data, .widerDeep, .widerDeep, .pinned], laidTests := true, laidLooks := .later }
def CostChargesCardSaid : Prop := Claim7.holds Tryz.pinned (.plain (OpenSpec.ofChange costChargesSpec)) costChargesCard

/-- THE TIED CARD OF 'invigilatorlaw25.CostStmts'. -/
def costStmtsCard : Claim7 := { stood := { row := costStmtsRow, standIns := [], harness := (true, "d6a16e607c5eaf14f1875331eb9ff999dee3854f68343b144038c8200f3e3fa5"), looks := false }, kinds := [], alts := [], laidByText := true, laidKinds := [.data, .widerDeep, .widerDeep, .pinned], laidTests := true, laidLooks := .later }
def CostStmtsCardSaid : Prop := Claim7.holds Tryz.pinned (.plain (OpenSpec.ofChange costStmtsSpec)) costStmtsCard

/-- THE TIED CARD OF 'invigilatorlaw25.CostLeasts'. -/
def costLeastsCard : Claim7 := { stood := { row := costLeastsRow, standIns := [], harness := (true, "d6a16e607c5eaf14f1875331eb9ff999dee3854f68343b144038c8200f3e3fa5"), looks := false }, kinds := [], alts := [], laidByText := true, laidKinds := [.data, .widerDeep, .widerDeep, .pinned], laidTests := true, laidLooks := .later }
def CostLeastsCardSaid : Prop := Claim7.holds Tryz.pinned (.plain (OpenSpec.ofChange costLeastsSpec)) costLeastsCard

/-- THE TIED CARD OF 'invigilatorlaw25.CostTops'. -/
def costTopsCard : Claim7 := { stood := { row := costTopsRow, standIns := [], harness := (true, "d6a16e607c5eaf14f1875331eb9ff999dee3854f68343b144038c8200f3e3fa5"), looks := false }, kinds := [], alts := [], laidByText := true, laidKinds := [.data, .widerDeep, .widerDeep, .pinned], laidTests := true, laidLooks := .later }
def CostTopsCardSaid : Prop := Claim7.holds Tryz.pinned (.plain (OpenSpec.ofChange costTopsSpec)) costTopsCard

/-- THE TIED CARD OF 'invigilatorlaw25.CostKnown'. -/
def costKnownCard : Claim7 := { stood := { row := costKnownRow, standIns := [], harness := (true, "d6a16e607c5eaf14f1875331eb9ff999dee3854f68343b144038c8200f3e3fa5"), looks := false }, kinds := [], alts := [], laidByText := true, laidKinds := [.data, .widerDeep, .widerDeep, .pinned], laidTests := true, laidLooks := .later }
def CostKnownCardSaid : Prop := Claim7.holds Tryz.pinned (.plain (OpenSpec.ofChange costKnownSpec)) costKnownCard

/-- THE SECOND FORM's CARD OF 'invigilatorlaw25.CostPrims'. -/
def costPrimsUptoCard : Claim7 := { stood := { row := costPrimsUptoRow, standIns := [], harness := (true, "d6a16e607c5eaf14f1875331eb9ff999dee3854f68343b144038c8200f3e3fa5"), looks := false }, kinds := [], alts := [], laidByText := true, laidKinds := [.data, .widerDeep, .widerDeep, .pinned], laidTests := true, laidLooks := .later }
def CostPrimsUptoCardSaid : Prop := Claim7.holds Tryz.pinned (.plain (OpenSpec.upto costPrimsSpec)) costPrimsUptoCard

/-- THE SECOND FORM's CARD OF 'invigilatorlaw25.CostExprs'. -/
def costExprsUptoCard : Claim7 := { stood := { row := costExprsUptoRow, standIns := [], harness := (true, "d6a16e607c5eaf14f1875331eb9ff999dee3854f68343b144038c8200f3e3fa5"), looks := false }, kinds := [], alts := [], laidByText := true, laidKinds := [.data, .widerDeep, .widerDeep, .pinned], laidTests := true, laidLooks := .later }
def CostExprsUptoCardSaid : Prop := Claim7.holds Tryz.pinned (.plain (OpenSpec.upto costExprsSpec)) costExprsUptoCard

/-- THE SECOND FORM's CARD OF 'invigilatorlaw25.CostBlind'. -/
def costBlindUptoCard : Claim7 := { stood := { row := costBlindUptoRow, standIns := [], harness := (true, "d6a16e607c5eaf14f1875331eb9ff999dee3854f68343b144038c8200f3e3fa5"), looks := false }, kinds := [], alts := [], laidByText := true, laidKinds := [.data, .widerDeep, .widerDeep, .pinned], laidTests := true, laidLooks := .later }
def CostBlindUptoCardSaid : Prop := Claim7.holds Tryz.pinned (.plain (OpenSpec.upto costBlindSpec)) costBlindUptoCard

/-- THE SECOND FORM's CARD OF 'invigilatorlaw25.CostAdds'. -/
def costAddsUptoCard : Claim7 := { stood := { row := costAddsUptoRow, standIns := [], harness := (true, "d6a16e607c5eaf14f1875331eb9ff999dee3854f68343b144038c8200f3e3fa5"), looks := false }, kinds := [], alts := [], laidByText := true, laidKinds := [.data, .widerDeep, .widerDeep, .pinned], laidTests := true, laidLooks := .later }
def CostAddsUptoCardSaid : Prop := Claim7.holds Tryz.pinned (.plain (OpenSpec.upto costAddsSpec)) costAddsUptoCard

/-- THE SECOND FORM's CARD OF 'invigilatorlaw25.CostCharges'. -/
def costChargesUptoCard : Claim7 := { stood := { row := costChargesUptoRow, standIns := [], harness := (true, "d6a16e607c5eaf14f1875331eb9ff999dee3854f68343b144038c8200f3e3fa5"), looks := false }, kinds := [], alts := [], laidByText := true, laidKinds := [.data, .widerDeep, .widerDeep, .pinned], laidTests := true, laidLooks := .later }
def CostChargesUptoCardSaid : Prop := Claim7.holds Tryz.pinned (.plain (OpenSpec.upto costChargesSpec)) costChargesUptoCard

/-- THE SECOND FORM's CARD OF 'invigilatorlaw25.CostStmts'. -/
def costStmtsUptoCard : Claim7 := { stood := { row := costStmtsUptoRow, standIns := [], harness := (true, "d6a16e607c5eaf14f1875331eb9ff999dee3854f68343b144038c8200f3e3fa5"), looks := false }, kinds := [], alts := [], laidByText := true, laidKinds := [.data, .widerDeep, .widerDeep, .pinned], laidTests := true, laidLooks := .later }
def CostStmtsUptoCardSaid : Prop := Claim7.holds Tryz.pinned (.plain (OpenSpec.upto costStmtsSpec)) costStmtsUptoCard

/-- THE SECOND FORM's CARD OF 'invigilatorlaw25.CostLeasts'. -/
def costLeastsUptoCard : Claim7 := { stood := { row := costLeastsUptoRow, standIns := [], harness := (true, "d6a16e607c5eaf14f1875331eb9ff999dee3854f68343b144038c8200f3e3fa5"), looks := false }, kinds := [], alts := [], laidByText := true, laidKinds := [.data, .widerDeep, .widerDeep, .pinned], laidTests := true, laidLooks := .later }
def CostLeastsUptoCardSaid : Prop := Claim7.holds Tryz.pinned (.plain (OpenSpec.upto costLeastsSpec)) costLeastsUptoCard

/-- THE SECOND FORM's CARD OF 'invigilatorlaw25.CostTops'. -/
def costTopsUptoCard : Claim7 := { stood := { row := costTopsUptoRow, standIns := [], harness := (true, "d6a16e607c5eaf14f1875331eb9ff999dee3854f68343b144038c8200f3e3fa5"), looks := false }, kinds := [], alts := [], laidByText := true, laidKinds := [.data, .widerDeep, .widerDeep, .pinned], laidTests := true, laidLooks := .later }
def CostTopsUptoCardSaid : Prop := Claim7.holds Tryz.pinned (.plain (OpenSpec.upto costTopsSpec)) costTopsUptoCard

/-- THE SECOND FORM's CARD OF 'invigilatorlaw25.CostKnown'. -/
def costKnownUptoCard : Claim7 := { stood := { row := costKnownUptoRow, standIns := [], harness := (true, "d6a16e607c5eaf14f1875331eb9ff999dee3854f68343b144038c8200f3e3fa5"), looks := false }, kinds := [], alts := [], laidByText := true, laidKinds := [.data, .widerDeep, .widerDeep, .pinned], laidTests := true, laidLooks := .later }
def CostKnownUptoCardSaid : Prop := Claim7.holds Tryz.pinned (.plain (OpenSpec.upto costKnownSpec)) costKnownUptoCard
end Rows
end Go.Proofs.YtapgddiocdcaeaaGreatDoor
