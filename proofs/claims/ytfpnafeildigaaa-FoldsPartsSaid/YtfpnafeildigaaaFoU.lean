/-
The plain law and the walk of FoldsChains (chapter 11).
-/
import Derived.Test.YtfpnafeildigaaaFoT
set_option linter.unusedSimpArgs false
set_option linter.unusedVariables false
namespace Go.Proofs.Ytfpnafeildigaaa
namespace Ar
open Go.RowKit Sc
theorem rows_vec {v : Arr} (h : v.r = 1) : rowsL v = [v.xs] := if_pos h
/-- two good vectors, put together -/
theorem cat_good {a b Q : Arr} (ga : goodB a = true) (gb : goodB b = true) (ra : a.r = 1) (rb : b.r = 1) (h : extCat a b = (0, Q)) : Q = vec' 1 (a.xs ++ b.xs) ∧ chk Q = 0 ∧ a.xs.length + b.xs.length ≤ 400 := by
  obtain ⟨_, a1, a2, _⟩ := goodB_yes ga
  obtain ⟨_, b1, b2, _⟩ := goodB_yes gb
  unfold extCat at h
  rw [if_neg (by simpa using a1), if_neg (by simpa using b1), if_neg (by omega), if_neg (by omega), if_neg (by omega)] at h
  by_cases e : 400 < (a.xs.length : Int) + b.xs.length ∨ 400 < a.l1 + b.l1
  · rw [if_pos e] at h; cases h
  · rw [if_neg e, if_pos ra] at h
    have hq : Q = vec' 1 (a.xs ++ b.xs) := by rw [← a2]; exact (congrArg Prod.snd h).symm
    refine ⟨hq, ?_, by omega⟩
    rw [hq]
    exact chk_res (r := 1) (l0 := (a.xs ++ b.xs).length) (l1 := 0) (sh_1t (by omega) (by rw [List.length_append]; omega) rfl) (by rw [prod_1])
end Ar
end Go.Proofs.Ytfpnafeildigaaa
