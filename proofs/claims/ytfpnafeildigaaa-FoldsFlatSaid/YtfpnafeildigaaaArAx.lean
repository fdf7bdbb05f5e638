/-
awake of chapter 10: it answers true.
-/
import Derived.Test.YtfpnafeildigaaaBa7
import Derived.Test.YtfpnafeildigaaaBa9
import Derived.Test.YtfpnafeildigaaaArRw
import Derived.Test.YtfpnafeildigaaaBb1
import Derived.Deep.DeepCutAuto
set_option linter.unusedSimpArgs false
set_option linter.unusedVariables false
namespace Go.Proofs.Ytfpnafeildigaaa
namespace Ar
open Go.RowKit Sc
abbrev vec (k : Int) (xs : List Int) : Arr := ⟨k, 1, xs.length, 0, xs⟩
abbrev sca (k : Int) (x : Int) : Arr := ⟨k, 0, 0, 0, [x]⟩
end Ar
end Go.Proofs.Ytfpnafeildigaaa
