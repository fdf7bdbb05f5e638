/-
A closed fact on the program: it may be entered.
-/
import Derived.Test.YtfpnafeildigaaaRows
import Derived.WalkKit
import Derived.ProofKit
namespace Go.Proofs.Ytfpnafeildigaaa
namespace Ar
theorem me : Try.prog.mayEnter = true := by kernel_rfl
end Ar
end Go.Proofs.Ytfpnafeildigaaa
/-
A closed fact on the program: what it lifts.
-/
namespace Go.Proofs.Ytfpnafeildigaaa
namespace Ar
theorem lf : Try.prog.liftsFinal = Rows.extendOnesRow.lifted := by kernel_rfl
end Ar
end Go.Proofs.Ytfpnafeildigaaa
/-
A closed fact on the program: how it was made.
-/
namespace Go.Proofs.Ytfpnafeildigaaa
namespace Ar
theorem mk : Try.prog.make = some Rows.extendOnesRow.make := by kernel_rfl
end Ar
end Go.Proofs.Ytfpnafeildigaaa
