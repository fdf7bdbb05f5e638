/-
Arguments, opened: an array of two ints; what a number's kind says of it (chapter 25).
-/
import Derived.Test.YtpkldfkmokeamaaGreatDoorLwA
import Derived.Test.YtpkldfkmokeamaaGreatDoorNb1
import Derived.SizedLaws
set_option linter.unusedSimpArgs false
set_option linter.unusedVariables false
namespace Go.Proofs.YtpkldfkmokeamaaGreatDoor
namespace Pr
open Go Go.RowKit En
open Go.ChangeShapes Go.WideShapes Go.ChangeAt Lw
end Pr
end Go.Proofs.YtpkldfkmokeamaaGreatDoor
/-
Arguments, opened: lists of structs; lists of nodes (chapters 15, 16, 25).
-/
set_option linter.unusedSimpArgs false
set_option linter.unusedVariables false
namespace Go.Proofs.YtpkldfkmokeamaaGreatDoor
namespace Pr
open Go Go.RowKit En
open Go.ChangeShapes Go.WideShapes Go.ChangeAt Lw
section
variable {H : Type} {enc : TypeId × Value → H} {P : Program} {w : World} {base : Nat} {sp : Nat → Bool} {held : Bool}
end
end Pr
end Go.Proofs.YtpkldfkmokeamaaGreatDoor
/-
Lists of nodes as arguments, with what the reach of a machine says of their strings.
-/
set_option linter.unusedSimpArgs false
set_option linter.unusedVariables false
namespace Go.Proofs.YtpkldfkmokeamaaGreatDoor
namespace Pr
open Go Go.RowKit En
open Go.ChangeShapes Go.WideShapes Go.ChangeAt Lw
end Pr
end Go.Proofs.YtpkldfkmokeamaaGreatDoor
