/-
The plain law and the walk of FoldsChains (chapter 11).
-/
import Derived.Test.YtfpnafeildigaaaFoT
set_option linter.unusedSimpArgs false
set_option linter.unusedVariables false
namespace Go.Proofs.Ytfpnafeildigaaa
namespace Ar
open Go.RowKit Sc
theorem rows_vec {v : Arr} (h : v.r = 1) : rowsL v = [v.xs] := if_pos h
end Ar
end Go.Proofs.Ytfpnafeildigaaa
