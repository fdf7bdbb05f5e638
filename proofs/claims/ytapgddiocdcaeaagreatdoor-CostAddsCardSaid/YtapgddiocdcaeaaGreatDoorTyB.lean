/-
Types of costs, for the engine (printed by genTy.py; chapter 25).
-/
import Derived.Test.YtapgddiocdcaeaaGreatDoorTyA
set_option linter.unusedSimpArgs false
set_option linter.unusedVariables false
namespace Go.Proofs.YtapgddiocdcaeaaGreatDoor
namespace Pr
open Go Go.RowKit En
def tyDef : TypeId × TI := (53, ⟨true, true, 3, [.v (.string ⟨#[]⟩), .v (.slice none 0 0), .v (.slice none 0 0)], [(0, 1), (1, 1), (2, 1)], 0, 0, 0, 4, 0⟩)
theorem tyDef_ok : TyOk Tryz.prog tyDef.1 tyDef.2 := .mk' (by kernel_rfl) (by kernel_rfl) (by decide) (by decide) (by kernel_rfl) (by kernel_rfl)
def tyDefs : TypeId × TI := (29, ⟨true, false, 1, [.v (.slice none 0 0)], [], 53, 0, 64, 1, 3⟩)
theorem tyDefs_ok : TyOk Tryz.prog tyDefs.1 tyDefs.2 := .mk' (by kernel_rfl) (by kernel_rfl) (by decide) (by decide) (by kernel_rfl) (by kernel_rfl)
def tyBody : TypeId × TI := (111, ⟨true, true, 2, [.v (.int .i64 0), .v (.int .i64 0)], [(0, 1), (1, 1)], 0, 0, 0, 4, 0⟩)
theorem tyBody_ok : TyOk Tryz.prog tyBody.1 tyBody.2 := .mk' (by kernel_rfl) (by kernel_rfl) (by decide) (by decide) (by kernel_rfl) (by kernel_rfl)
def tyCost : TypeId × TI := (92, ⟨true, true, 4, [.v (.int .i64 0), .v (.int .i64 0), .v (.int .i64 0), .v .nilFunc], [(0, 1), (1, 1), (2, 1), (3, 1)], 0, 0, 0, 4, 0⟩)
theorem tyCost_ok : TyOk Tryz.prog tyCost.1 tyCost.2 := .mk' (by kernel_rfl) (by kernel_rfl) (by decide) (by decide) (by kernel_rfl) (by kernel_rfl)
def tyCosts : TypeId × TI := (88, ⟨true, false, 1, [.v (.slice none 0 0)], [], 92, 0, 32, 1, 4⟩)
theorem tyCosts_ok : TyOk Tryz.prog tyCosts.1 tyCosts.2 := .mk' (by kernel_rfl) (by kernel_rfl) (by decide) (by decide) (by kernel_rfl) (by kernel_rfl)
def tyBodies : TypeId × TI := (74, ⟨true, false, 1, [.v (.map none)], [], 111, 9, 0, 9, 0⟩)
theorem tyBodies_ok : TyOk Tryz.prog tyBodies.1 tyBodies.2 := .mk' (by kernel_rfl) (by kernel_rfl) (by decide) (by decide) (by kernel_rfl) (by kernel_rfl)
def tyStep : TypeId × TI := (90, ⟨true, false, 1, [.v .nilFunc], [], 0, 0, 0, 6, 0⟩)
theorem tyStep_ok : TyOk Tryz.prog tyStep.1 tyStep.2 := .mk' (by kernel_rfl) (by kernel_rfl) (by decide) (by decide) (by kernel_rfl) (by kernel_rfl)
end Pr
end Go.Proofs.YtapgddiocdcaeaaGreatDoor
