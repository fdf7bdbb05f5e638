/-
The walk of ExtendScalars (chapter 10).
-/
import Derived.Test.YtfpnafeildigaaaBb3
set_option linter.unusedSimpArgs false
set_option linter.unusedVariables false
namespace Go.Proofs.Ytfpnafeildigaaa
namespace Ar
open Go.RowKit Sc
/-- what a walk asks of an array -/
def Fine (a : Arr) : Prop := a.xs.length ≤ 100000 ∧ Fits a.l0 ∧ Fits a.l1 ∧ ∀ x ∈ a.xs, Fits x
theorem acc_blank (w : World) (n : Nat) (hn : n ≤ 100000) (t : TypeId) (h : t = 2) : Acc (w.alloc (.cells (blank n) t)) w.heap.size (.slice (some ⟨w.heap.size, 0, none⟩) n n) (List.replicate n 0) := by
  subst h
  have := World.ownsRow_lit (base := w.heap.size) (e := 2) (size := 1) w (blank n) n (Nat.le_refl _) (by unfold maxLen; omega) (by unfold blank; rw [size_madeCells]; simp)
  unfold Acc
  rw [List.length_replicate, List.map_replicate]
  rw [show (blank n).toList = List.replicate n (.int .i64 0) from toList_madeCells_one _ _] at this
  exact this
end Ar
end Go.Proofs.Ytfpnafeildigaaa
