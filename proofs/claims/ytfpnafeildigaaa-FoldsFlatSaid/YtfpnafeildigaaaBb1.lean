/-
invigilatorref10.One: its contract (chapter 10).
-/
import Derived.Test.YtfpnafeildigaaaBa5
import Derived.Test.YtfpnafeildigaaaBa7
import Derived.OwnWalk
import Derived.Deep.DeepCutAuto
import Derived.Test.YtfpnafeildigaaaBa8
set_option linter.unusedSimpArgs false
set_option linter.unusedVariables false
namespace Go.Proofs.Ytfpnafeildigaaa
namespace Ar
open Go.RowKit Sc
end Ar
end Go.Proofs.Ytfpnafeildigaaa
/-
invigilatorref10.kinds and cell: their contracts (chapter 10).
-/
set_option linter.unusedSimpArgs false
set_option linter.unusedVariables false
namespace Go.Proofs.Ytfpnafeildigaaa
namespace Ar
open Go.RowKit Sc
end Ar
end Go.Proofs.Ytfpnafeildigaaa
/-
invigilatorref10.Two where its operands do not fit (chapter 10).
-/
set_option linter.unusedSimpArgs false
set_option linter.unusedVariables false
namespace Go.Proofs.Ytfpnafeildigaaa
namespace Ar
open Go.RowKit Sc
/-- the boxes of the reference's Two -/
def RSt (w wx : World) (a b : Arr) (A B : Option Addr) (c d : Nat) : Prop :=
  Arr5 wx w.heap.size (.int .i64 a.k) (.int .i64 a.r) (.int .i64 a.l0) (.int .i64 a.l1) (.slice A a.xs.length c) ∧
  Arr5 wx (w.heap.size + 1) (.int .i64 b.k) (.int .i64 b.r) (.int .i64 b.l0) (.int .i64 b.l1) (.slice B b.xs.length d) ∧
  Arr5 wx (w.heap.size + 1 + 1) (.int .i64 0) (.int .i64 0) (.int .i64 0) (.int .i64 0) (.slice none 0 0) ∧
  (∀ i, wx.frozen? ⟨w.heap.size + 1 + 1, i, none⟩ = false) ∧ w.heap.size + 1 + 1 < wx.heap.size ∧ Below w.heap.size w wx
theorem RSt.below {w wx wy : World} {a b : Arr} {A B : Option Addr} {c d : Nat} (h : RSt w wx a b A B c d) (hb : Below wx.heap.size wx wy) : RSt w wy a b A B c d := by
  obtain ⟨h2, h3, h4, h6, h8, h9⟩ := h
  exact ⟨h2.below hb, h3.below hb, h4.below hb, fun i => (hb.frozen (p := ⟨_, i, none⟩) h8).trans (h6 i), Nat.lt_of_lt_of_le h8 hb.size, bl_then h9 hb⟩
end Ar
end Go.Proofs.Ytfpnafeildigaaa
