/-
Chapter 15: Same of two expressions; Replace, plainly.
-/
import Derived.Test.YtpkldfkmokeamaaGreatDoorAx1
import Derived.Test.YtpkldfkmokeamaaGreatDoorCh1
import Derived.Test.YtpkldfkmokeamaaGreatDoorRe2
import Derived.Test.YtpkldfkmokeamaaGreatDoorRf1
set_option linter.unusedSimpArgs false
set_option linter.unusedVariables false
namespace Go.Proofs.YtpkldfkmokeamaaGreatDoor
namespace Pr
open Go Go.RowKit En
open Ex Rf
end Pr
end Go.Proofs.YtpkldfkmokeamaaGreatDoor
/-
Chapter 15, plainly: a name replaced by an expression gives an expression.
-/
set_option linter.unusedSimpArgs false
set_option linter.unusedVariables false
namespace Go.Proofs.YtpkldfkmokeamaaGreatDoor
namespace Pr
open Go Go.RowKit En
open Ex
end Pr
end Go.Proofs.YtpkldfkmokeamaaGreatDoor
/-
Chapter 15: Replace, the program's and the reference's.
-/
set_option linter.unusedSimpArgs false
set_option linter.unusedVariables false
namespace Go.Proofs.YtpkldfkmokeamaaGreatDoor
namespace Pr
open Go Go.RowKit En
open Ex Rf
section
variable (l : List Nd) (A : Option Addr) (c : Nat) (wi : List Nd) (B : Option Addr) (d : Nat) (nm : ByteArray)
end
theorem rp0_s {k : Nat} : (den (SV.v (Value.slice none 0 0)) = den (SV.g k none 0 0)) = True := eq_true rfl
theorem rpgg {k k' n c : Nat} {A : Option Addr} : (den (SV.g k A n c) = den (SV.g k' A n c)) = True := eq_true rfl
end Pr
end Go.Proofs.YtpkldfkmokeamaaGreatDoor
/-
Chapter 15: the program's Replace.
-/
set_option linter.unusedSimpArgs false
set_option linter.unusedVariables false
namespace Go.Proofs.YtpkldfkmokeamaaGreatDoor
namespace Pr
open Go Go.RowKit En
open Ex Rf
section
variable (l : List Nd) (A : Option Addr) (c : Nat) (wi : List Nd) (B : Option Addr) (d : Nat) (nm : ByteArray) (bn on cn ba oa ca : Nat)
end
end Pr
end Go.Proofs.YtpkldfkmokeamaaGreatDoor
/-
Chapter 15: the walk of ExprReplaces.
-/
set_option linter.unusedSimpArgs false
set_option linter.unusedVariables false
namespace Go.Proofs.YtpkldfkmokeamaaGreatDoor
namespace Pr
open Go Go.RowKit En
open Ex Rf
end Pr
end Go.Proofs.YtpkldfkmokeamaaGreatDoor
