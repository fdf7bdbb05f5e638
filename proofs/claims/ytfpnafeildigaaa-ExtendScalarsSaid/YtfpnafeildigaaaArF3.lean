/-
A closed fact on the program: how it was made.
-/
import Derived.Test.YtfpnafeildigaaaRows
import Derived.WalkKit
import Derived.ProofKit
namespace Go.Proofs.Ytfpnafeildigaaa
namespace Ar
theorem mk : Try.prog.make = some Rows.extendOnesRow.make := by kernel_rfl
end Ar
end Go.Proofs.Ytfpnafeildigaaa
