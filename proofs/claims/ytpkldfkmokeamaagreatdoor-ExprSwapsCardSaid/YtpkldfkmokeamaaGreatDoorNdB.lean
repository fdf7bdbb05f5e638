/-
A node's error, the reference's (chapter 15).
-/
import Derived.Test.YtpkldfkmokeamaaGreatDoorNb1
set_option linter.unusedSimpArgs false
set_option linter.unusedVariables false
namespace Go.Proofs.YtpkldfkmokeamaaGreatDoor
namespace Pr
open Go Go.RowKit En
end Pr
end Go.Proofs.YtpkldfkmokeamaaGreatDoor
