/-
  DERIVED. GIVEN WITH THE SEED: THE CARDS: each row of YtnpkmimbnjnicaaGreatDoorRows.lean that lists a variable, with what it lists TIED to the program's text (the seventh form; the later family's looks); each row that meets fmt, with fmt's text TOLD by the authors' own Lean function (tested against real Go, not proved from fmt's source: count such statements apart). THE CARD IS WHAT COUNTS. Prove the row's statement (the work); the ties are given (YtnpkmimbnjnicaaGreatDoorTie.lean); close each card by the builder's one call (the guide's Derived/Test/ToyasCard.lean, 'card_holds'). Laid BY PROGRAM, IN A SANDBOX (cutbox-door.mjs). By AI agents, Wed Nov 11 2026. No macro, syntax, notation, axiom, sorry.
-/
import Derived.Test.YtnpkmimbnjnicaaGreatDoorRows
import GoSem.ClaimSeven
namespace Go.Proofs.YtnpkmimbnjnicaaGreatDoor
namespace Rows

/-- THE TIED CARD OF 'invigilatorlaw21.RulesErrors'. -/
def rulesErrorsCard : Claim7 := { stood := { row := rulesErrorsRow, standIns := [], harness := (true, "e87b20e7afc7697fcfe29c8745d4bf63ca38e6f7f2d634a5edf49dd944208322"), looks := false }, kinds := [], alts := [], laidByText := true, laidKinds := [.data, .widerDeep, .widerDeep, .pinned], laidTests := true, laidLooks := .later }
def RulesErrorsCardSaid : Prop := Claim7.holds Tryz.pinned (.plain (OpenSpec.ofChange rulesErrorsSpec)) rulesErrorsCard

/-- THE TIED CARD OF 'invigilatorlaw21.RulesKnown'. -/
def rulesKnownCard : Claim7 := { stood := { row := rulesKnownRow, standIns := [], harness := (true, "e87b20e7afc7697fcfe29c8745d4bf63ca38e6f7f2d634a5edf49dd944208322"), looks := false }, kinds := [], alts := [], laidByText := true, laidKinds := [.data, .widerDeep, .widerDeep, .pinned], laidTests := true, laidLooks := .later }
def RulesKnownCardSaid : Prop := Claim7.holds Tryz.pinned (.plain (OpenSpec.ofChange rulesKnownSpec)) rulesKnownCard

/-- THE TIED CARD OF 'invigilatorlaw21.RulesBehind'. -/
def rulesBehindCard : Claim7 := { stood := { row := rulesBehindRow, standIns := [], harness := (true, "e87b20e7afc7697fcfe29c8745d4bf63ca38e6f7f2d634a5edf49dd944208322"), looks := false }, kinds := [], alts := [], laidByText := true, laidKinds := [.data, .widerDeep, .widerDeep, .pinned], laidTests := true, laidLooks := .later }
def RulesBehindCardSaid : Prop := Claim7.holds Tryz.pinned (.plain (OpenSpec.ofChange rulesBehindSpec)) rulesBehindCard

/-- THE TIED CARD OF 'invigilatorlaw21.RulesRules'. -/
def rulesRulesCard : Claim7 := { stood := { row := rulesRulesRow, standIns := [], harness := (true, "e87b20e7afc7697fcfe29c8745d4bf63ca38e6f7f2d634a5edf49dd944208322"), looks := false }, kinds := [], alts := [], laidByText := true, laidKinds := [.data, .widerDeep, .widerDeep, .pinned], laidTests := true, laidLooks := .later }
def RulesRulesCardSaid : Prop := Claim7.holds Tryz.pinned (.plain (OpenSpec.ofChange rulesRulesSpec)) rulesRulesCard

/-- THE TIED CARD OF 'invigilatorlaw21.RulesGrow'. -/
def rulesGrowCard : Claim7 := { stood := { row := rulesGrowRow, standIns := [], harness := (true, "e87b20e7afc7697fcfe29c8745d4bf63ca38e6f7f2d634a5edf49dd944208322"), looks := false }, kinds := [], alts := [], laidByText := true, laidKinds := [.data, .widerDeep, .widerDeep, .pinned], laidTests := true, laidLooks := .later }
def RulesGrowCardSaid : Prop := Claim7.holds Tryz.pinned (.plain (OpenSpec.ofChange rulesGrowSpec)) rulesGrowCard

/-- THE SECOND FORM's CARD OF 'invigilatorlaw21.RulesErrors'. -/
def rulesErrorsUptoCard : Claim7 := { stood := { row := rulesErrorsUptoRow, standIns := [], harness := (true, "e87b20e7afc7697fcfe29c8745d4bf63ca38e6f7f2d634a5edf49dd944208322"), looks := false }, kinds := [], alts := [], laidByText := true, laidKinds := [.data, .widerDeep, .widerDeep, .pinned], laidTests := true, laidLooks := .later }
def RulesErrorsUptoCardSaid : Prop := Claim7.holds Tryz.pinned (.plain (OpenSpec.upto rulesErrorsSpec)) rulesErrorsUptoCard

/-- THE SECOND FORM's CARD OF 'invigilatorlaw21.RulesKnown'. -/
def rulesKnownUptoCard : Claim7 := { stood := { row := rulesKnownUptoRow, standIns := [], harness := (true, "e87b20e7afc7697fcfe29c8745d4bf63ca38e6f7f2d634a5edf49dd944208322"), looks := false }, kinds := [], alts := [], laidByText := true, laidKinds := [.data, .widerDeep, .widerDeep, .pinned], laidTests := true, laidLooks := .later }
def RulesKnownUptoCardSaid : Prop := Claim7.holds Tryz.pinned (.plain (OpenSpec.upto rulesKnownSpec)) rulesKnownUptoCard

/-- THE SECOND FORM's CARD OF 'invigilatorlaw21.RulesBehind'. -/
def rulesBehindUptoCard : Claim7 := { stood := { row := rulesBehindUptoRow, standIns := [], harness := (true, "e87b20e7afc7697fcfe29c8745d4bf63ca38e6f7f2d634a5edf49dd944208322"), looks := false }, kinds := [], alts := [], laidByText := true, laidKinds := [.data, .widerDeep, .widerDeep, .pinned], laidTests := true, laidLooks := .later }
def RulesBehindUptoCardSaid : Prop := Claim7.holds Tryz.pinned (.plain (OpenSpec.upto rulesBehindSpec)) rulesBehindUptoCard

/-- THE SECOND FORM's CARD OF 'invigilatorlaw21.RulesRules'. -/
def rulesRulesUptoCard : Claim7 := { stood := { row := rulesRulesUptoRow, standIns := [], harness := (true, "e87b20e7afc7697fcfe29c8745d4bf63ca38e6f7f2d634a5edf49dd944208322"), looks := false }, kinds := [], alts := [], laidByText := true, laidKinds := [.data, .widerDeep, .widerDeep, .pinned], laidTests := true, laidLooks := .later }
def RulesRulesUptoCardSaid : Prop := Claim7.holds Tryz.pinned (.plain (OpenSpec.upto rulesRulesSpec)) rulesRulesUptoCard

/-- THE SECOND FORM's CARD OF 'invigilatorlaw21.RulesGrow'. -/
def rulesGrowUptoCard : Claim7 := { stood := { row := rulesGrowUptoRow, standIns := [], harness := (true, "e87b20e7afc7697fcfe29c8745d4bf63ca38e6f7f2d634a5edf49dd944208322"), looks := false }, kinds := [], alts := [], laidByText := true, laidKinds := [.data, .widerDeep, .widerDeep, .pinned], laidTests := true, laidLooks := .later }
def RulesGrowUptoCardSaid : Prop := Claim7.holds Tryz.pinned (.plain (OpenSpec.upto rulesGrowSpec)) rulesGrowUptoCard
end Rows
end Go.Proofs.YtnpkmimbnjnicaaGreatDoor
