/-
Types of expressions, for the engine (printed by genTy.py; chapters 15, 16, 25).
-/
import Derived.Test.YtpkldfkmokeamaaGreatDoorPa1
import Derived.Test.YtpkldfkmokeamaaGreatDoorEnM
set_option linter.unusedSimpArgs false
set_option linter.unusedVariables false
namespace Go.Proofs.YtpkldfkmokeamaaGreatDoor
namespace Pr
open Go Go.RowKit En
def tyInt : TypeId × TI := (3, ⟨true, false, 1, [.v (.int .i64 0)], [], 0, 0, 0, 13, 0⟩)
theorem tyInt_ok : TyOk Tryz.prog tyInt.1 tyInt.2 := .mk' (by kernel_rfl) (by kernel_rfl) (by decide) (by decide) (by kernel_rfl) (by kernel_rfl)
def tyI64 : TypeId × TI := (2, ⟨true, false, 1, [.v (.int .i64 0)], [], 0, 0, 0, 13, 0⟩)
theorem tyI64_ok : TyOk Tryz.prog tyI64.1 tyI64.2 := .mk' (by kernel_rfl) (by kernel_rfl) (by decide) (by decide) (by kernel_rfl) (by kernel_rfl)
def tyU8 : TypeId × TI := (5, ⟨true, false, 1, [.v (.int .u8 0)], [], 0, 0, 0, 14, 0⟩)
theorem tyU8_ok : TyOk Tryz.prog tyU8.1 tyU8.2 := .mk' (by kernel_rfl) (by kernel_rfl) (by decide) (by decide) (by kernel_rfl) (by kernel_rfl)
def tyI32 : TypeId × TI := (21, ⟨true, false, 1, [.v (.int .i32 0)], [], 0, 0, 0, 12, 0⟩)
theorem tyI32_ok : TyOk Tryz.prog tyI32.1 tyI32.2 := .mk' (by kernel_rfl) (by kernel_rfl) (by decide) (by decide) (by kernel_rfl) (by kernel_rfl)
def tyBool : TypeId × TI := (4, ⟨true, false, 1, [.v (.bool false)], [], 0, 0, 0, 5, 0⟩)
theorem tyBool_ok : TyOk Tryz.prog tyBool.1 tyBool.2 := .mk' (by kernel_rfl) (by kernel_rfl) (by decide) (by decide) (by kernel_rfl) (by kernel_rfl)
def tyStr : TypeId × TI := (9, ⟨true, false, 1, [.v (.string ⟨#[]⟩)], [], 0, 0, 0, 3, 0⟩)
theorem tyStr_ok : TyOk Tryz.prog tyStr.1 tyStr.2 := .mk' (by kernel_rfl) (by kernel_rfl) (by decide) (by decide) (by kernel_rfl) (by kernel_rfl)
def tyErr : TypeId × TI := (25, ⟨true, false, 1, [.v (.int .i64 0)], [], 0, 0, 0, 13, 0⟩)
theorem tyErr_ok : TyOk Tryz.prog tyErr.1 tyErr.2 := .mk' (by kernel_rfl) (by kernel_rfl) (by decide) (by decide) (by kernel_rfl) (by kernel_rfl)
def tyInts : TypeId × TI := (31, ⟨true, false, 1, [.v (.slice none 0 0)], [], 3, 0, 8, 1, 1⟩)
theorem tyInts_ok : TyOk Tryz.prog tyInts.1 tyInts.2 := .mk' (by kernel_rfl) (by kernel_rfl) (by decide) (by decide) (by kernel_rfl) (by kernel_rfl)
def tyStrs : TypeId × TI := (43, ⟨true, false, 1, [.v (.slice none 0 0)], [], 9, 0, 16, 1, 1⟩)
theorem tyStrs_ok : TyOk Tryz.prog tyStrs.1 tyStrs.2 := .mk' (by kernel_rfl) (by kernel_rfl) (by decide) (by decide) (by kernel_rfl) (by kernel_rfl)
def tyNode : TypeId × TI := (38, ⟨true, true, 7, [.v (.int .i64 0), .v (.int .i64 0), .v (.int .i64 0), .v (.string ⟨#[]⟩), .v (.string ⟨#[]⟩), .v (.int .i64 0), .v (.int .i64 0)], [(0, 1), (1, 1), (2, 1), (3, 1), (4, 1), (5, 1), (6, 1)], 0, 0, 1, 4, 0⟩)
theorem tyNode_ok : TyOk Tryz.prog tyNode.1 tyNode.2 := .mk' (by kernel_rfl) (by kernel_rfl) (by decide) (by decide) (by kernel_rfl) (by kernel_rfl)
def tyNodes : TypeId × TI := (22, ⟨true, false, 1, [.v (.slice none 0 0)], [], 38, 0, 72, 1, 7⟩)
theorem tyNodes_ok : TyOk Tryz.prog tyNodes.1 tyNodes.2 := .mk' (by kernel_rfl) (by kernel_rfl) (by decide) (by decide) (by kernel_rfl) (by kernel_rfl)
def tyTok : TypeId × TI := (63, ⟨true, true, 5, [.v (.int .i64 0), .v (.int .i64 0), .v (.int .i64 0), .v (.int .i64 0), .v (.string ⟨#[]⟩)], [(0, 1), (1, 1), (2, 1), (3, 1), (4, 1)], 0, 0, 1, 4, 0⟩)
theorem tyTok_ok : TyOk Tryz.prog tyTok.1 tyTok.2 := .mk' (by kernel_rfl) (by kernel_rfl) (by decide) (by decide) (by kernel_rfl) (by kernel_rfl)
def tyRdr : TypeId × TI := (95, ⟨true, true, 2, [.v (.string ⟨#[]⟩), .v (.int .i64 0)], [(0, 1), (1, 1)], 0, 0, 0, 4, 0⟩)
theorem tyRdr_ok : TyOk Tryz.prog tyRdr.1 tyRdr.2 := .mk' (by kernel_rfl) (by kernel_rfl) (by decide) (by decide) (by kernel_rfl) (by kernel_rfl)
def tyCls : TypeId × TI := (165, ⟨true, true, 10, [.v (.string ⟨#[]⟩), .v (.string ⟨#[]⟩), .v (.string ⟨#[]⟩), .v (.string ⟨#[]⟩), .v (.string ⟨#[]⟩), .v (.string ⟨#[]⟩), .v (.string ⟨#[]⟩), .v (.string ⟨#[]⟩), .v (.string ⟨#[]⟩), .v (.string ⟨#[]⟩)], [], 9, 10, 16, 2, 1⟩)
theorem tyCls_ok : TyOk Tryz.prog tyCls.1 tyCls.2 := .mk' (by kernel_rfl) (by kernel_rfl) (by decide) (by decide) (by kernel_rfl) (by kernel_rfl)
def tyTree : TypeId × TI := (55, ⟨true, true, 4, [.v (.slice none 0 0), .v (.slice none 0 0), .v (.slice none 0 0), .v (.slice none 0 0)], [(0, 1), (1, 1), (2, 1), (3, 1)], 0, 0, 0, 4, 0⟩)
theorem tyTree_ok : TyOk Tryz.prog tyTree.1 tyTree.2 := .mk' (by kernel_rfl) (by kernel_rfl) (by decide) (by decide) (by kernel_rfl) (by kernel_rfl)
def tyRows : TypeId × TI := (52, ⟨true, false, 1, [.v (.slice none 0 0)], [], 31, 0, 24, 1, 1⟩)
theorem tyRows_ok : TyOk Tryz.prog tyRows.1 tyRows.2 := .mk' (by kernel_rfl) (by kernel_rfl) (by decide) (by decide) (by kernel_rfl) (by kernel_rfl)
def tyBools : TypeId × TI := (53, ⟨true, false, 1, [.v (.slice none 0 0)], [], 4, 0, 1, 1, 1⟩)
theorem tyBools_ok : TyOk Tryz.prog tyBools.1 tyBools.2 := .mk' (by kernel_rfl) (by kernel_rfl) (by decide) (by decide) (by kernel_rfl) (by kernel_rfl)
end Pr
end Go.Proofs.YtpkldfkmokeamaaGreatDoor
