/-
Letters of a text (chapters 2 and 15), plainly: the reference's decoding by its definition and the library's; how many letters a text has.
-/
import Derived.Test.YtpkldfkmokeamaaGreatDoorBa1
import Derived.Lib.DecodeN
import Derived.Lib.ValidU
import Derived.Lib.RuneCount
import Derived.Test.YtpkldfkmokeamaaGreatDoorTyA
import Derived.Test.YtpkldfkmokeamaaGreatDoorPa1
set_option linter.unusedSimpArgs false
set_option linter.unusedVariables false
namespace Go.Proofs.YtpkldfkmokeamaaGreatDoor
namespace Ut
def is16 (r : Nat) : Prop := r ≤ 1114111 ∧ (r < 55296 ∨ 57343 < r)
instance (r : Nat) : Decidable (is16 r) := inferInstanceAs (Decidable (_ ∧ _))
end Ut
end Go.Proofs.YtpkldfkmokeamaaGreatDoor
/-
The reference's letters: what bytes are one, how they are written (chapter 2).
-/
set_option linter.unusedSimpArgs false
set_option linter.unusedVariables false
namespace Go.Proofs.YtpkldfkmokeamaaGreatDoor
namespace Pr
open Go Go.RowKit En
end Pr
end Go.Proofs.YtpkldfkmokeamaaGreatDoor
/-
How many letters a text has: the reference's count (chapter 15), and that it is the library's.
-/
set_option linter.unusedSimpArgs false
set_option linter.unusedVariables false
namespace Go.Proofs.YtpkldfkmokeamaaGreatDoor
namespace Pr
open Go Go.RowKit En
open Ut
end Pr
end Go.Proofs.YtpkldfkmokeamaaGreatDoor
/-
The reference's count of letters, walked (chapter 15).
-/
set_option linter.unusedSimpArgs false
set_option linter.unusedVariables false
namespace Go.Proofs.YtpkldfkmokeamaaGreatDoor
namespace Pr
open Go Go.RowKit En
open Ut
end Pr
end Go.Proofs.YtpkldfkmokeamaaGreatDoor
