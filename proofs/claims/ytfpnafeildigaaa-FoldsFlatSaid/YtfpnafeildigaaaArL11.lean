/-
The walk of ExtendParts (chapter 10).
-/
import Derived.Test.YtfpnafeildigaaaArL10
import Derived.Test.YtfpnafeildigaaaBb5
import Derived.Test.YtfpnafeildigaaaArLx
set_option linter.unusedSimpArgs false
set_option linter.unusedVariables false
namespace Go.Proofs.Ytfpnafeildigaaa
namespace Ar
open Go.RowKit Sc
end Ar
end Go.Proofs.Ytfpnafeildigaaa
