/-
The plain law of FoldsRows (chapter 11).
-/
import Derived.Test.YtfpnafeildigaaaFoV
set_option linter.unusedSimpArgs false
set_option linter.unusedVariables false
namespace Go.Proofs.Ytfpnafeildigaaa
namespace Ar
open Go.RowKit Sc
theorem fold_vec {ints : Bool} {f : List Int → Int × Int} {row : List Int} (h : chk (vec' 1 row) = 0) : extFold ints f (vec' 1 row) = if (f row).2 ≠ 0 then ((f row).2, .zero) else (0, ⟨1, 0, 0, 0, [(f row).1]⟩) := by
  have h0 : chkF ints (vec' 1 row) = 0 := chkF_yes h (by rintro ⟨_, e⟩; exact e rfl) (by show (1 : Int) ≠ 0; decide)
  have hr : rowsL (vec' 1 row) = [row] := rows_vec rfl
  by_cases e : (f row).2 ≠ 0
  · have hm : mapG f (rowsL (vec' 1 row)) = ((f row).2, []) := by rw [hr, mapG_cons, if_pos e]
    rw [if_pos e, extFold_err h0 (by rw [hm]; exact e), hm]
  · have hm : mapG f (rowsL (vec' 1 row)) = (0, [(f row).1]) := by rw [hr, mapG_cons, if_neg e]; simp [mapG]
    rw [if_neg e, extFold_ok h0 hm]; rfl
end Ar
end Go.Proofs.Ytfpnafeildigaaa
