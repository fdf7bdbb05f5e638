/-
The boxes of extend.Two (chapter 10).
-/
import Derived.Test.YtfpnafeildigaaaArTw
set_option linter.unusedSimpArgs false
set_option linter.unusedVariables false
namespace Go.Proofs.Ytfpnafeildigaaa
namespace Ar
open Go.RowKit Sc

/-- the boxes of Two: its number, its operands, its results -/
def TwoSt (w wx : World) (p : Int) (a b : Arr) (A B : Option Addr) (c d : Nat) : Prop :=
  wx.cell? ⟨w.heap.size, 0, none⟩ = some (.int .i64 p) ∧
  Arr5 wx (w.heap.size + 1) (.int .i64 a.k) (.int .i64 a.r) (.int .i64 a.l0) (.int .i64 a.l1) (.slice A a.xs.length c) ∧
  Arr5 wx (w.heap.size + 1 + 1) (.int .i64 b.k) (.int .i64 b.r) (.int .i64 b.l0) (.int .i64 b.l1) (.slice B b.xs.length d) ∧
  Arr5 wx (w.heap.size + 1 + 1 + 1) (.int .i64 0) (.int .i64 0) (.int .i64 0) (.int .i64 0) (.slice none 0 0) ∧
  wx.cell? ⟨w.heap.size + 1 + 1 + 1 + 1, 0, none⟩ = some (.int .i64 0) ∧
  (∀ i, wx.frozen? ⟨w.heap.size + 1 + 1 + 1, i, none⟩ = false) ∧ wx.frozen? ⟨w.heap.size + 1 + 1 + 1 + 1, 0, none⟩ = false ∧
  w.heap.size + 1 + 1 + 1 + 1 < wx.heap.size ∧ Below w.heap.size w wx
theorem TwoSt.below {w wx wy : World} {p : Int} {a b : Arr} {A B : Option Addr} {c d : Nat} (h : TwoSt w wx p a b A B c d) (hb : Below wx.heap.size wx wy) : TwoSt w wy p a b A B c d := by
  obtain ⟨h1, h2, h3, h4, h5, h6, h7, h8, h9⟩ := h
  exact ⟨(hb.cell (p := ⟨w.heap.size, 0, none⟩) (block_lt_of_cell h1)).trans h1, h2.below hb, h3.below hb, h4.below hb, (hb.cell (p := ⟨_, 0, none⟩) (block_lt_of_cell h5)).trans h5,
    fun i => (hb.frozen (p := ⟨_, i, none⟩) (Nat.lt_of_succ_lt h8)).trans (h6 i), (hb.frozen (p := ⟨_, 0, none⟩) h8).trans h7, Nat.lt_of_lt_of_le h8 hb.size, bl_then h9 hb⟩
/-- what the statement 'x, y := spread(a), spread(b)' leaves -/
def Spreads (w6 : World) (a b : Arr) (A B : Option Addr) (c d : Nat) (s15 s16 : Value) (wx : World) : Prop :=
  ∃ X Y QX QY : Nat, s15 = .pointer (some ⟨X, 0, none⟩) ∧ s16 = .pointer (some ⟨Y, 0, none⟩) ∧ wx.cell? ⟨X, 0, none⟩ = some (.func (.func (spr a.r)) #[] #[.pointer (some ⟨QX, 0, none⟩)]) ∧ wx.cell? ⟨Y, 0, none⟩ = some (.func (.func (spr b.r)) #[] #[.pointer (some ⟨QY, 0, none⟩)]) ∧
    wx.cell? ⟨QX, 4, none⟩ = some (.slice A a.xs.length c) ∧ wx.cell? ⟨QY, 4, none⟩ = some (.slice B b.xs.length d) ∧ Below w6.heap.size w6 wx
theorem Spreads.mk {w6 : World} {a b : Arr} {A B : Option Addr} {c d : Nat} {wx : World} {X Y : Nat} (QX QY : Nat)
    (h1 : wx.cell? ⟨X, 0, none⟩ = some (.func (.func (spr a.r)) #[] #[.pointer (some ⟨QX, 0, none⟩)])) (h2 : wx.cell? ⟨Y, 0, none⟩ = some (.func (.func (spr b.r)) #[] #[.pointer (some ⟨QY, 0, none⟩)]))
    (h3 : wx.cell? ⟨QX, 4, none⟩ = some (.slice A a.xs.length c)) (h4 : wx.cell? ⟨QY, 4, none⟩ = some (.slice B b.xs.length d)) (h5 : Below w6.heap.size w6 wx) :
    Spreads w6 a b A B c d (.pointer (some ⟨X, 0, none⟩)) (.pointer (some ⟨Y, 0, none⟩)) wx := ⟨X, Y, QX, QY, rfl, rfl, h1, h2, h3, h4, h5⟩
/-- the object that does something with the cells of two operands -/
abbrev twoObj (n P X Y : Nat) : Obj := .cells #[.int .i64 n, .func (.func 68) #[] #[.pointer (some ⟨P, 0, none⟩), .pointer (some ⟨X, 0, none⟩), .pointer (some ⟨Y, 0, none⟩)]] 68
theorem all_two_ok (f : Int × Int → Int × Int) (xs : List (Int × Int)) (n : Nat) (hn : xs.length = n) (P X Y : Nat) (w : World) (hl : n ≤ 100000)
    (hcl : ∀ (k : Nat) (W : World), k < xs.length → Below w.heap.size w W → Calls Try.prog 68 #[.int .i64 k, .pointer (some ⟨P, 0, none⟩), .pointer (some ⟨X, 0, none⟩), .pointer (some ⟨Y, 0, none⟩)] W fun e w' => e = ret2 (f (xs.getD k (0, 0))) ∧ Below W.heap.size W w') (ys : List Int) (hm : mapP f xs = (0, ys)) :
    Calls Try.prog 63 #[.agg #[.int .i64 n, .func (.func 68) #[] #[.pointer (some ⟨P, 0, none⟩), .pointer (some ⟨X, 0, none⟩), .pointer (some ⟨Y, 0, none⟩)]]] w fun e w' => Below w.heap.size w w' ∧ ∃ g, e = .returned (.slice (some ⟨g, 0, none⟩) n n) ∧ w.heap.size ≤ g ∧ Out w' g n ys := by
  refine (all_two_n f xs n hn P X Y w hl hcl).mono ?_
  rw [hm]
  rintro e w' ⟨hb, ⟨_, g, h1, h2, h3⟩ | ⟨h0, _⟩⟩
  · exact ⟨hb, g, h1, h2, h3⟩
  · exact absurd rfl h0
theorem all_two_err (f : Int × Int → Int × Int) (xs : List (Int × Int)) (n : Nat) (hn : xs.length = n) (P X Y : Nat) (w : World) (hl : n ≤ 100000)
    (hcl : ∀ (k : Nat) (W : World), k < xs.length → Below w.heap.size w W → Calls Try.prog 68 #[.int .i64 k, .pointer (some ⟨P, 0, none⟩), .pointer (some ⟨X, 0, none⟩), .pointer (some ⟨Y, 0, none⟩)] W fun e w' => e = ret2 (f (xs.getD k (0, 0))) ∧ Below W.heap.size W w') (er : Int) (hm : (mapP f xs).1 = er) (h0 : er ≠ 0) :
    Calls Try.prog 63 #[.agg #[.int .i64 n, .func (.func 68) #[] #[.pointer (some ⟨P, 0, none⟩), .pointer (some ⟨X, 0, none⟩), .pointer (some ⟨Y, 0, none⟩)]]] w fun e w' => Below w.heap.size w w' ∧ e = .panicked [{ v := wrongV er, recovered := false }] := by
  refine (all_two_n f xs n hn P X Y w hl hcl).mono ?_
  rintro e w' ⟨hb, ⟨h1, _⟩ | ⟨_, h1⟩⟩
  · exact absurd (hm.symm.trans h1) h0
  · rw [hm] at h1; exact ⟨hb, h1⟩
def kb (p : Int) (a b : Arr) : Bool := a.k == b.k && isEq p
def kz (p : Int) (a b : Arr) : Bool := !kb p a b && (a.k != 1 || b.k != 1)
theorem kz_eq (p : Int) (a b : Arr) : kz p a b = !kindsOk p a b := by
  unfold kz kb isEq kindsOk
  by_cases h1 : a.k = 1 <;> by_cases h2 : b.k = 1 <;> by_cases h3 : a.k = b.k <;> by_cases h4 : p = 23 <;> by_cases h5 : p = 24 <;> simp_all
end Ar
end Go.Proofs.Ytfpnafeildigaaa
