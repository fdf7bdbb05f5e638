/-
Fits does not mind the order of operands of a primitive of two numbers (chapter 12).
-/
import Derived.Test.YtaelfhjdmljblaaGreatDoorPa8
import Derived.Test.YtaelfhjdmljblaaGreatDoorPrU4
set_option linter.unusedSimpArgs false
set_option linter.unusedVariables false
namespace Go.Proofs.YtaelfhjdmljblaaGreatDoor
namespace Pr
open Go Go.RowKit En
theorem known_in {p : Int} (h1 : 1 ≤ p) (h2 : p ≤ 40) : known40 p = true := by unfold known40; simp; omega
theorem arity2 {p : Int} (h1 : 15 ≤ p) (h2 : p ≤ 40) : arityOf p = 2 := by
  have hk := known_in (p := p) (by omega) h2
  have := arE_val hk
  rw [show arE p = arityOf p from if_pos hk, if_neg (by omega)] at this
  exact this
theorem fitsV2 {p : Int} (h1 : 15 ≤ p) (h2 : p ≤ 40) (k l r s : Int) : fitsV p [k, l] [r, s] = rFitsF p [k, l] [r, s] :=
  (fits_val (known_in (by omega) h2) (by rw [arity2 h1 h2]; rfl) (by rw [arity2 h1 h2]; rfl)).2.2
def tiSw : List (TypeId × TI) := (45, ⟨true, true, 4, [.v (.int .u8 0), .v (.int .u8 0), .v (.int .u8 0), .v (.int .u8 0)], [], 5, 4, 1, 2, 1⟩) :: (5, ⟨true, false, 1, [.v (.int .u8 0)], [], 0, 0, 0, 14, 0⟩) :: tiAw
theorem tiSw_ok : TyAll Tryz.prog (lookT tiSw) :=
  tyAll_cons (.mk' (by kernel_rfl) (by kernel_rfl) (by decide) (by decide) (by kernel_rfl) (by kernel_rfl)) <|
  tyAll_cons (.mk' (by kernel_rfl) (by kernel_rfl) (by decide) (by decide) (by kernel_rfl) (by kernel_rfl)) tiAw_ok
end Pr
end Go.Proofs.YtaelfhjdmljblaaGreatDoor
