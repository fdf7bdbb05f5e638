/-
Contracts of extend.check, Lens, spread and of what they call (chapter 10).
-/
import Derived.Test.YtfpnafeildigaaaBa5
import Derived.BigRegion
set_option linter.unusedSimpArgs false
set_option linter.unusedVariables false
namespace Go.Proofs.Ytfpnafeildigaaa
namespace Ar
open Go.RowKit Sc
theorem chk2_ok {a b : Arr} (h : chk a = 0) : chk2 a b = chk b := if_neg (by simpa using h)
end Ar
end Go.Proofs.Ytfpnafeildigaaa
/-
Contracts of extend.Lens, of the program and of the reference (chapter 10).
-/
set_option linter.unusedSimpArgs false
set_option linter.unusedVariables false
namespace Go.Proofs.Ytfpnafeildigaaa
namespace Ar
open Go.RowKit Sc
end Ar
end Go.Proofs.Ytfpnafeildigaaa
/-
Contract of invigilatorref10.Lens, and both Lens whole (chapter 10).
-/
set_option linter.unusedSimpArgs false
set_option linter.unusedVariables false
namespace Go.Proofs.Ytfpnafeildigaaa
namespace Ar
open Go.RowKit Sc
theorem chk_sh {a : Arr} (h : chk a = 0) : shCheck a.r a.l0 a.l1 = 0 ∧ (a.xs.length : Int) = prod a.r a.l0 a.l1 := by
  unfold chk at h
  by_cases h1 : a.k ≠ 1 ∧ a.k ≠ 2
  · rw [if_pos h1] at h; cases h
  rw [if_neg h1] at h
  by_cases h2 : shCheck a.r a.l0 a.l1 = 0
  · rw [if_neg (by simpa using h2)] at h
    refine ⟨h2, ?_⟩
    by_cases h3 : (a.xs.length : Int) = prod a.r a.l0 a.l1
    · exact h3
    · rw [if_pos h3] at h; cases h
  · rw [if_pos h2] at h; exact absurd h h2
end Ar
end Go.Proofs.Ytfpnafeildigaaa
