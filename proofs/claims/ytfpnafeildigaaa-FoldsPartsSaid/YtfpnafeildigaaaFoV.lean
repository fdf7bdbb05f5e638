/-
The walk of FoldsChains (chapter 11).
-/
import Derived.Test.YtfpnafeildigaaaFoU
import Derived.Test.YtfpnafeildigaaaArL11
set_option linter.unusedSimpArgs false
set_option linter.unusedVariables false
namespace Go.Proofs.Ytfpnafeildigaaa
namespace Ar
open Go.RowKit Sc
theorem fine_cat {a b Q : Arr} (ha : Fine a) (hb : Fine b) (hq : Q = vec' 1 (a.xs ++ b.xs)) (hl : a.xs.length + b.xs.length ≤ 400) : Fine Q := by
  subst hq
  refine ⟨by show (a.xs ++ b.xs).length ≤ _; rw [List.length_append]; omega, ?_, (by show Fits 0; decide), fun x hx => ?_⟩
  · show -9223372036854775808 ≤ ((a.xs ++ b.xs).length : Int) ∧ ((a.xs ++ b.xs).length : Int) ≤ 9223372036854775807
    rw [List.length_append]; omega
  · rcases List.mem_append.1 hx with h | h
    · exact ha.2.2.2 x h
    · exact hb.2.2.2 x h
end Ar
end Go.Proofs.Ytfpnafeildigaaa
