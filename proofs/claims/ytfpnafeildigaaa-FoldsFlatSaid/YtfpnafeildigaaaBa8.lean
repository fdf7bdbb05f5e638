/-
What extend.Two's contract needs beside its walk (chapter 10).
-/
import Derived.Test.YtfpnafeildigaaaBa7
import Derived.Deep.DeepCutAuto
set_option linter.unusedSimpArgs false
set_option linter.unusedVariables false
namespace Go.Proofs.Ytfpnafeildigaaa
namespace Ar
open Go.RowKit Sc
/-- what the closure of Two needs of the world: its number, the two functions, and what these captured -/
def TwoAt (w : World) (p : Int) (fx fy : Nat) (P X Y QX QY : Nat) (a b : Arr) (A B : Option Addr) (c d : Nat) : Prop :=
  w.cell? ⟨P, 0, none⟩ = some (.int .i64 p) ∧ w.cell? ⟨X, 0, none⟩ = some (.func (.func fx) #[] #[.pointer (some ⟨QX, 0, none⟩)]) ∧ w.cell? ⟨Y, 0, none⟩ = some (.func (.func fy) #[] #[.pointer (some ⟨QY, 0, none⟩)]) ∧
    w.cell? ⟨QX, 4, none⟩ = some (.slice A a.xs.length c) ∧ w.cell? ⟨QY, 4, none⟩ = some (.slice B b.xs.length d) ∧ Sl w A a.xs ∧ Sl w B b.xs
theorem TwoAt.below {w w' : World} {p : Int} {fx fy P X Y QX QY : Nat} {a b : Arr} {A B : Option Addr} {c d : Nat} (h : TwoAt w p fx fy P X Y QX QY a b A B c d) (hb : Below w.heap.size w w') : TwoAt w' p fx fy P X Y QX QY a b A B c d := by
  obtain ⟨h1, h2, h3, h4, h5, h6, h7⟩ := h
  exact ⟨(hb.cell (p := ⟨P, 0, none⟩) (block_lt_of_cell h1)).trans h1, (hb.cell (p := ⟨X, 0, none⟩) (block_lt_of_cell h2)).trans h2, (hb.cell (p := ⟨Y, 0, none⟩) (block_lt_of_cell h3)).trans h3,
    (hb.cell (p := ⟨QX, 4, none⟩) (block_lt_of_cell h4)).trans h4, (hb.cell (p := ⟨QY, 4, none⟩) (block_lt_of_cell h5)).trans h5, h6.below hb, h7.below hb⟩
/-- the function that spread returns -/
def spr (r : Int) : Nat := if r = 0 then 102 else 103
end Ar
end Go.Proofs.Ytfpnafeildigaaa
/-
The boxes of extend.Two (chapter 10).
-/
set_option linter.unusedSimpArgs false
set_option linter.unusedVariables false
namespace Go.Proofs.Ytfpnafeildigaaa
namespace Ar
open Go.RowKit Sc
/-- the boxes of Two: its number, its operands, its results -/
def TwoSt (w wx : World) (p : Int) (a b : Arr) (A B : Option Addr) (c d : Nat) : Prop :=
  wx.cell? ⟨w.heap.size, 0, none⟩ = some (.int .i64 p) ∧
  Arr5 wx (w.heap.size + 1) (.int .i64 a.k) (.int .i64 a.r) (.int .i64 a.l0) (.int .i64 a.l1) (.slice A a.xs.length c) ∧
  Arr5 wx (w.heap.size + 1 + 1) (.int .i64 b.k) (.int .i64 b.r) (.int .i64 b.l0) (.int .i64 b.l1) (.slice B b.xs.length d) ∧
  Arr5 wx (w.heap.size + 1 + 1 + 1) (.int .i64 0) (.int .i64 0) (.int .i64 0) (.int .i64 0) (.slice none 0 0) ∧
  wx.cell? ⟨w.heap.size + 1 + 1 + 1 + 1, 0, none⟩ = some (.int .i64 0) ∧
  (∀ i, wx.frozen? ⟨w.heap.size + 1 + 1 + 1, i, none⟩ = false) ∧ wx.frozen? ⟨w.heap.size + 1 + 1 + 1 + 1, 0, none⟩ = false ∧
  w.heap.size + 1 + 1 + 1 + 1 < wx.heap.size ∧ Below w.heap.size w wx
theorem TwoSt.below {w wx wy : World} {p : Int} {a b : Arr} {A B : Option Addr} {c d : Nat} (h : TwoSt w wx p a b A B c d) (hb : Below wx.heap.size wx wy) : TwoSt w wy p a b A B c d := by
  obtain ⟨h1, h2, h3, h4, h5, h6, h7, h8, h9⟩ := h
  exact ⟨(hb.cell (p := ⟨w.heap.size, 0, none⟩) (block_lt_of_cell h1)).trans h1, h2.below hb, h3.below hb, h4.below hb, (hb.cell (p := ⟨_, 0, none⟩) (block_lt_of_cell h5)).trans h5,
    fun i => (hb.frozen (p := ⟨_, i, none⟩) (Nat.lt_of_succ_lt h8)).trans (h6 i), (hb.frozen (p := ⟨_, 0, none⟩) h8).trans h7, Nat.lt_of_lt_of_le h8 hb.size, bl_then h9 hb⟩
/-- what the statement 'x, y := spread(a), spread(b)' leaves -/
def Spreads (w6 : World) (a b : Arr) (A B : Option Addr) (c d : Nat) (s15 s16 : Value) (wx : World) : Prop :=
  ∃ X Y QX QY : Nat, s15 = .pointer (some ⟨X, 0, none⟩) ∧ s16 = .pointer (some ⟨Y, 0, none⟩) ∧ wx.cell? ⟨X, 0, none⟩ = some (.func (.func (spr a.r)) #[] #[.pointer (some ⟨QX, 0, none⟩)]) ∧ wx.cell? ⟨Y, 0, none⟩ = some (.func (.func (spr b.r)) #[] #[.pointer (some ⟨QY, 0, none⟩)]) ∧
    wx.cell? ⟨QX, 4, none⟩ = some (.slice A a.xs.length c) ∧ wx.cell? ⟨QY, 4, none⟩ = some (.slice B b.xs.length d) ∧ Below w6.heap.size w6 wx
theorem Spreads.mk {w6 : World} {a b : Arr} {A B : Option Addr} {c d : Nat} {wx : World} {X Y : Nat} (QX QY : Nat)
    (h1 : wx.cell? ⟨X, 0, none⟩ = some (.func (.func (spr a.r)) #[] #[.pointer (some ⟨QX, 0, none⟩)])) (h2 : wx.cell? ⟨Y, 0, none⟩ = some (.func (.func (spr b.r)) #[] #[.pointer (some ⟨QY, 0, none⟩)]))
    (h3 : wx.cell? ⟨QX, 4, none⟩ = some (.slice A a.xs.length c)) (h4 : wx.cell? ⟨QY, 4, none⟩ = some (.slice B b.xs.length d)) (h5 : Below w6.heap.size w6 wx) :
    Spreads w6 a b A B c d (.pointer (some ⟨X, 0, none⟩)) (.pointer (some ⟨Y, 0, none⟩)) wx := ⟨X, Y, QX, QY, rfl, rfl, h1, h2, h3, h4, h5⟩
end Ar
end Go.Proofs.Ytfpnafeildigaaa
/-
extend.Two where its operands do not fit (chapter 10).
-/
set_option linter.unusedSimpArgs false
set_option linter.unusedVariables false
namespace Go.Proofs.Ytfpnafeildigaaa
namespace Ar
open Go.RowKit Sc
end Ar
end Go.Proofs.Ytfpnafeildigaaa
