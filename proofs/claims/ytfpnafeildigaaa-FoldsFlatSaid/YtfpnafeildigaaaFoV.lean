/-
The walk of FoldsChains (chapter 11).
-/
import Derived.Test.YtfpnafeildigaaaFoU
import Derived.Test.YtfpnafeildigaaaArL11
set_option linter.unusedSimpArgs false
set_option linter.unusedVariables false
namespace Go.Proofs.Ytfpnafeildigaaa
namespace Ar
open Go.RowKit Sc
end Ar
end Go.Proofs.Ytfpnafeildigaaa
