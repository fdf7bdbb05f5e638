/-
invigilatorref10.Two: its contract (chapter 10).
-/
import Derived.Test.YtfpnafeildigaaaBb1
import Derived.Deep.RegionHeld3
set_option linter.unusedSimpArgs false
set_option linter.unusedVariables false
namespace Go.Proofs.Ytfpnafeildigaaa
namespace Ar
open Go.RowKit Sc
theorem same_of {a w : World} (h : Below a.heap.size a w) : Below a.heap.size a w ∧ ∀ b o, b < a.heap.size → w.cell? ⟨b, o, none⟩ = a.cell? ⟨b, o, none⟩ := ⟨h, fun b o hl => h.cell (p := ⟨b, o, none⟩) hl⟩
end Ar
end Go.Proofs.Ytfpnafeildigaaa
