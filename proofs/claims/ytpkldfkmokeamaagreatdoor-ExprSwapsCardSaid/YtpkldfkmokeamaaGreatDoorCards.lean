/-
  DERIVED. GIVEN WITH THE SEED: THE CARDS: each row of YtpkldfkmokeamaaGreatDoorRows.lean that lists a variable, with what it lists TIED to the program's text (the seventh form; the later family's looks); each row that meets fmt, with fmt's text TOLD by the authors' own Lean function (tested against real Go, not proved from fmt's source: count such statements apart). THE CARD IS WHAT COUNTS. Prove the row's statement (the work); the ties are given (YtpkldfkmokeamaaGreatDoorTie.lean); close each card by the builder's one call (the guide's Derived/Test/ToyasCard.lean, 'card_holds'). Laid BY PROGRAM, IN A SANDBOX (cutbox-door.mjs). By AI agents, Wed Nov 11 2026. No macro, syntax, notation, axiom, sorry.
-/
import Derived.Test.YtpkldfkmokeamaaGreatDoorRows
import GoSem.ClaimSeven
namespace Go.Proofs.YtpkldfkmokeamaaGreatDoor
namespace Rows

/-- THE TIED CARD OF 'invigilatorlaw15.ExprChecks'. -/
def exprChecksCard : Claim7 := { stood := { row := exprChecksRow, standIns := [], harness := (true, "917f1261023baaed9291ea368e0b87230d63d9b59cdfe5031046586e8ce2c34b"), looks := false }, kinds := [], alts := [], laidByText := true, laidKinds := [.data, .widerDeep, .widerDeep, .pinned], laidTests := true, laidLooks := .later }
def ExprChecksCardSaid : Prop := Claim7.holds Tryz.pinned (.plain (OpenSpec.ofChange exprChecksSpec)) exprChecksCard

/-- THE TIED CARD OF 'invigilatorlaw15.ExprParts'. -/
def exprPartsCard : Claim7 := { stood := { row := exprPartsRow, standIns := [], harness := (true, "917f1261023baaed9291ea368e0b87230d63d9b59cdfe5031046586e8ce2c34b"), looks := false }, kinds := [], alts := [], laidByText := true, laidKinds := [.data, .widerDeep, .widerDeep, .pinned], laidTests := true, laidLooks := .later }
def ExprPartsCardSaid : Prop := Claim7.holds Tryz.pinned (.plain (OpenSpec.ofChange exprPartsSpec)) exprPartsCard

/-- THE TIED CARD OF 'invigilatorlaw15.ExprTree'. -/
def exprTreeCard : Claim7 := { stood := { row := exprTreeRow, standIns := [], harness := (true, "917f1261023baaed9291ea368e0b87230d63d9b59cdfe5031046586e8ce2c34b"), looks := false }, kinds := [], alts := [], laidByText := true, laidKinds := [.data, .widerDeep, .widerDeep, .pinned], laidTests := true, laidLooks := .later }
def ExprTreeCardSaid : Prop := Claim7.holds Tryz.pinned (.plain (OpenSpec.ofChange exprTreeSpec)) exprTreeCard

/-- THE TIED CARD OF 'invigilatorlaw15.ExprTogether'. -/
def exprTogetherCard : Claim7 := { stood := { row := exprTogetherRow, standIns := [], harness := (true, "917f1261023baaed9291ea368e0b87230d63d9b59cdfe5031046586e8ce2c34b"), looks := false }, kinds := [], alts := [], laidByText := true, laidKinds := [.data, .widerDeep, .widerDeep, .pinned], laidTests := true, laidLooks := .later }
def ExprTogetherCardSaid : Prop := Claim7.holds Tryz.pinned (.plain (OpenSpec.ofChange exprTogetherSpec)) exprTogetherCard

/-- THE TIED CARD OF 'invigilatorlaw15.ExprReplaces'. -/
def exprReplacesCard : Claim7 := { stood := { row := exprReplacesRow, standIns := [], harness := (true, "917f1261023baaed9291ea368e0b87230d63d9b59cdfe5031046586e8ce2c34b"), looks := false }, kinds := [], alts := [], laidByText := true, laidKinds := [.data, .widerDeep, .widerDeep, .pinned], laidTests := true, laidLooks := .later }
def ExprReplacesCardSaid : Prop := Claim7.holds Tryz.pinned (.plain (OpenSpec.ofChange exprReplacesSpec)) exprReplacesCard

/-- THE TIED CARD OF 'invigilatorlaw15.ExprLists'. -/
def exprListsCard : Claim7 := { stood := { row := exprListsRow, standIns := [], harness := (true, "917f1261023baaed9291ea368e0b87230d63d9b59cdfe5031046586e8ce2c34b"), looks := false }, kinds := [], alts := [], laidByText := true, laidKinds := [.data, .widerDeep, .widerDeep, .pinned], laidTests := true, laidLooks := .later }
def ExprListsCardSaid : Prop := Claim7.holds Tryz.pinned (.plain (OpenSpec.ofChange exprListsSpec)) exprListsCard

/-- THE TIED CARD OF 'invigilatorlaw15.ExprKnown'. -/
def exprKnownCard : Claim7 := { stood := { row := exprKnownRow, standIns := [], harness := (true, "917f1261023baaed9291ea368e0b87230d63d9b59cdfe5031046586e8ce2c34b"), looks := false }, kinds := [], alts := [], laidByText := true, laidKinds := [.data, .widerDeep, .widerDeep, .pinned], laidTests := true, laidLooks := .later }
def ExprKnownCardSaid : Prop := Claim7.holds Tryz.pinned (.plain (OpenSpec.ofChange exprKnownSpec)) exprKnownCard

/-- THE TIED CARD OF 'invigilatorlaw15.ExprSwaps'. -/
def exprSwapsCard : Claim7 := { stood := { row := exprSwapsRow, standIns := [], harness := (true, "917f1261023baaed9291ea368e0b87230d63d9b59cdfe5031046586e8ce2c34b"), looks := false }, kinds := [], alts := [], laidByText := true, laidKinds := [.data, .widerDeep, .widerDeep, .pinned], laidTests := true, laidLooks := .later }
def ExprSwapsCardSaid : Prop := Claim7.holds Tryz.pinned (.plain (OpenSpec.ofChange exprSwapsSpec)) exprSwapsCard

/-- THE SECOND FORM's CARD OF 'invigilatorlaw15.ExprChecks'. -/
def exprChecksUptoCard : Claim7 := { stood := { row := exprChecksUptoRow, standIns := [], harness := (true, "917f1261023baaed9291ea368e0b87230d63d9b59cdfe5031046586e8ce2c34b"), looks := false }, kinds := [], alts := [], laidByText := true, laidKinds := [.data, .widerDeep, .widerDeep, .pinned], laidTests := true, laidLooks := .later }
def ExprChecksUptoCardSaid : Prop := Claim7.holds Tryz.pinned (.plain (OpenSpec.upto exprChecksSpec)) exprChecksUptoCard

/-- THE SECOND FORM's CARD OF 'invigilatorlaw15.ExprParts'. -/
def exprPartsUptoCard : Claim7 := { stood := { row := exprPartsUptoRow, standIns := [], harness := (true, "917f1261023baaed9291ea368e0b87230d63d9b59cdfe5031046586e8ce2c34b"), looks := false }, kinds := [], alts := [], laidByText := true, laidKinds := [.data, .widerDeep, .widerDeep, .pinned], laidTests := true, laidLooks := .later }
def ExprPartsUptoCardSaid : Prop := Claim7.holds Tryz.pinned (.plain (OpenSpec.upto exprPartsSpec)) exprPartsUptoCard

/-- THE SECOND FORM's CARD OF 'invigilatorlaw15.ExprTree'. -/
def exprTreeUptoCard : Claim7 := { stood := { row := exprTreeUptoRow, standIns := [], harness := (true, "917f1261023baaed9291ea368e0b87230d63d9b59cdfe5031046586e8ce2c34b"), looks := false }, kinds := [], alts := [], laidByText := true, laidKinds := [.data, .widerDeep, .widerDeep, .pinned], laidTests := true, laidLooks := .later }
def ExprTreeUptoCardSaid : Prop := Claim7.holds Tryz.pinned (.plain (OpenSpec.upto exprTreeSpec)) exprTreeUptoCard

/-- THE SECOND FORM's CARD OF 'invigilatorlaw15.ExprTogether'. -/
def exprTogetherUptoCard : Claim7 := { stood := { row := exprTogetherUptoRow, standIns := [], harness := (true, "917f1261023baaed9291ea368e0b87230d63d9b59cdfe5031046586e8ce2c34b"), looks := false }, kinds := [], alts := [], laidByText := true, laidKinds := [.data, .widerDeep, .widerDeep, .pinned], laidTests := true, laidLooks := .later }
def ExprTogetherUptoCardSaid : Prop := Claim7.holds Tryz.pinned (.plain (OpenSpec.upto exprTogetherSpec)) exprTogetherUptoCard

/-- THE SECOND FORM's CARD OF 'invigilatorlaw15.ExprReplaces'. -/
def exprReplacesUptoCard : Claim7 := { stood := { row := exprReplacesUptoRow, standIns := [], harness := (true, "917f1261023baaed9291ea368e0b87230d63d9b59cdfe5031046586e8ce2c34b"), looks := false }, kinds := [], alts := [], laidByText := true, laidKinds := [.data, .widerDeep, .widerDeep, .pinned], laidTests := true, laidLooks := .later }
def ExprReplacesUptoCardSaid : Prop := Claim7.holds Tryz.pinned (.plain (OpenSpec.upto exprReplacesSpec)) exprReplacesUptoCard

/-- THE SECOND FORM's CARD OF 'invigilatorlaw15.ExprLists'. -/
def exprListsUptoCard : Claim7 := { stood := { row := exprListsUptoRow, standIns := [], harness := (true, "917f1261023baaed9291ea368e0b87230d63d9b59cdfe5031046586e8ce2c34b"), looks := false }, kinds := [], alts := [], laidByText := true, laidKinds := [.data, .widerDeep, .widerDeep, .pinned], laidTests := true, laidLooks := .later }
def ExprListsUptoCardSaid : Prop := Claim7.holds Tryz.pinned (.plain (OpenSpec.upto exprListsSpec)) exprListsUptoCard

/-- THE SECOND FORM's CARD OF 'invigilatorlaw15.ExprKnown'. -/
def exprKnownUptoCard : Claim7 := { stood := { row := exprKnownUptoRow, standIns := [], harness := (true, "917f1261023baaed9291ea368e0b87230d63d9b59cdfe5031046586e8ce2c34b"), looks := false }, kinds := [], alts := [], laidByText := true, laidKinds := [.data, .widerDeep, .widerDeep, .pinned], laidTests := true, laidLooks := .later }
def ExprKnownUptoCardSaid : Prop := Claim7.holds Tryz.pinned (.plain (OpenSpec.upto exprKnownSpec)) exprKnownUptoCard

/-- THE SECOND FORM's CARD OF 'invigilatorlaw15.ExprSwaps'. -/
def exprSwapsUptoCard : Claim7 := { stood := { row := exprSwapsUptoRow, standIns := [], harness := (true, "917f1261023baaed9291ea368e0b87230d63d9b59cdfe5031046586e8ce2c34b"), looks := false }, kinds := [], alts := [], laidByText := true, laidKinds := [.data, .widerDeep, .widerDeep, .pinned], laidTests := true, laidLooks := .later }
def ExprSwapsUptoCardSaid : Prop := Claim7.holds Tryz.pinned (.plain (OpenSpec.upto exprSwapsSpec)) exprSwapsUptoCard
end Rows
end Go.Proofs.YtpkldfkmokeamaaGreatDoor
