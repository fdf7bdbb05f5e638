/-
The walks of FoldsSums and FoldsEnds (chapter 11).
-/
import Derived.Test.YtfpnafeildigaaaFoQ
import Derived.Deep.DeepCutAuto
set_option linter.unusedSimpArgs false
set_option linter.unusedVariables false
namespace Go.Proofs.Ytfpnafeildigaaa
namespace Ar
open Go.RowKit Sc
end Ar
end Go.Proofs.Ytfpnafeildigaaa
