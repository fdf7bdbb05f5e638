/-
A closed fact on the program: it may be entered.
-/
import Derived.Test.YtfpnafeildigaaaRows
import Derived.WalkKit
import Derived.ProofKit
namespace Go.Proofs.Ytfpnafeildigaaa
namespace Ar
theorem me : Try.prog.mayEnter = true := by kernel_rfl
end Ar
end Go.Proofs.Ytfpnafeildigaaa
