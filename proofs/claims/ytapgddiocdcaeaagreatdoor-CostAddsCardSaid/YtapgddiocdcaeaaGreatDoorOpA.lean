/-
Arguments, opened: an array of two ints; what a number's kind says of it (chapter 25).
-/
import Derived.Test.YtapgddiocdcaeaaGreatDoorLwA
set_option linter.unusedSimpArgs false
set_option linter.unusedVariables false
namespace Go.Proofs.YtapgddiocdcaeaaGreatDoor
namespace Pr
open Go Go.RowKit En
open Go.ChangeShapes Go.WideShapes Go.ChangeAt Lw
end Pr
end Go.Proofs.YtapgddiocdcaeaaGreatDoor
