/-
A closed fact on the program: what it lifts.
-/
import Derived.Test.YtfpnafeildigaaaRows
import Derived.WalkKit
import Derived.ProofKit
namespace Go.Proofs.Ytfpnafeildigaaa
namespace Ar
theorem lf : Try.prog.liftsFinal = Rows.extendOnesRow.lifted := by kernel_rfl
end Ar
end Go.Proofs.Ytfpnafeildigaaa
