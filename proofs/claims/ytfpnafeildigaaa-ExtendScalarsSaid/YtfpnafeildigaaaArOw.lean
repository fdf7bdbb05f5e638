/-
Rows of one's own that are written into; a world that changed between two blocks alone (for every seat).
-/
import Derived.Test.YtfpnafeildigaaaArL1
import Derived.Laws.OwnMore
set_option linter.unusedSimpArgs false
set_option linter.unusedVariables false
namespace Go.Proofs.Ytfpnafeildigaaa
namespace Ar
open Go.RowKit Sc

/-- w is a but for the blocks from lo to hi, and what is new -/
def Off (lo hi : Nat) (a w : World) : Prop :=
  w.os = a.os ∧ w.tape = a.tape ∧ w.output = a.output ∧ a.heap.size ≤ w.heap.size ∧ ∀ k, k < a.heap.size → k < lo ∨ hi ≤ k → w.heap[k]? = a.heap[k]?
theorem Off.refl (lo hi : Nat) (a : World) : Off lo hi a a := ⟨rfl, rfl, rfl, Nat.le_refl _, fun _ _ _ => rfl⟩
theorem Off.then {lo hi : Nat} {a w w' : World} (h : Off lo hi a w) (hb : Below w.heap.size w w') : Off lo hi a w' :=
  ⟨hb.os.trans h.1, hb.tape.trans h.2.1, hb.output.trans h.2.2.1, Nat.le_trans h.2.2.2.1 hb.size, fun k hk hr => (hb.block k (Nat.lt_of_lt_of_le hk h.2.2.2.1)).trans (h.2.2.2.2 k hk hr)⟩
theorem Off.set {lo hi : Nat} {a w : World} (h : Off lo hi a w) {q : Addr} (h1 : lo ≤ q.block) (h2 : q.block < hi) (u : Value) : Off lo hi a (w.setCell q u) :=
  ⟨h.1, h.2.1, h.2.2.1, by simpa [World.setCell] using h.2.2.2.1, fun k hk hr => (Below.heap_setCell w q u k (by rintro rfl; omega)).trans (h.2.2.2.2 k hk hr)⟩
theorem Off.cell {lo hi : Nat} {a w : World} (h : Off lo hi a w) {b : Nat} (o : Nat) (hb : b < a.heap.size) (hr : b < lo ∨ hi ≤ b) : w.cell? ⟨b, o, none⟩ = a.cell? ⟨b, o, none⟩ := World.cell?_of_block (h.2.2.2.2 b hb hr)
theorem Off.fro {lo hi : Nat} {a w : World} (h : Off lo hi a w) {b : Nat} (o : Nat) (hb : b < a.heap.size) (hr : b < lo ∨ hi ≤ b) : w.frozen? ⟨b, o, none⟩ = a.frozen? ⟨b, o, none⟩ := World.frozen?_of_block (h.2.2.2.2 b hb hr)
theorem Off.base {lo hi : Nat} {a w x : World} {B : Nat} (h : Off lo hi a w) (hx : Below B x a) (hB : B ≤ lo) (hl : B ≤ a.heap.size) : Below B x w :=
  ⟨h.1.trans hx.os, h.2.1.trans hx.tape, h.2.2.1.trans hx.output, Nat.le_trans hx.size h.2.2.2.1, fun k hk => (h.2.2.2.2 k (by omega) (.inl (by omega))).trans (hx.block k hk)⟩
theorem Off.arr {lo hi : Nat} {a w : World} (h : Off lo hi a w) {g : Nat} {x0 x1 x2 x3 x4 : Value} (h5 : Arr5 a g x0 x1 x2 x3 x4) (hr : g < lo ∨ hi ≤ g) : Arr5 w g x0 x1 x2 x3 x4 := by
  obtain ⟨h1, h2, h3, h4, h5⟩ := h5
  have hl := block_lt_of_cell h1
  exact ⟨(h.cell 0 hl hr).trans h1, (h.cell 1 hl hr).trans h2, (h.cell 2 hl hr).trans h3, (h.cell 3 hl hr).trans h4, (h.cell 4 hl hr).trans h5⟩
theorem Off.sl {lo hi : Nat} {a w : World} (h : Off lo hi a w) {A : Option Addr} {xs : List Int} (hs : Sl a A xs) (hr : ∀ g o, A = some ⟨g, o, none⟩ → g < lo ∨ hi ≤ g) : Sl w A xs := fun hn => by
  obtain ⟨b, o, e, hl, hc⟩ := hs hn
  exact ⟨b, o, e, Nat.lt_of_lt_of_le hl h.2.2.2.1, fun j hj => (h.cell (o + j) hl (hr b o e)).trans (hc j hj)⟩
theorem Off.drew {lo hi : Nat} {a w : World} (h : Off lo hi a w) : Off lo hi a w.drew := ⟨h.1, h.2.1, h.2.2.1, h.2.2.2.1, h.2.2.2.2⟩
/-- the number at a place of a row of one's own, and what a store there leaves -/
theorem Acc.place {w : World} {base n k : Nat} {V : Option Addr} {c : Nat} {ys : List Int} (h : Acc w base (.slice V n c) ys) (hn : ys.length = n) (hk : k < n) :
    ∃ (g : Nat) (y : Int), V = some ⟨g, 0, none⟩ ∧ base ≤ g ∧ g < w.heap.size ∧ w.cell? ⟨g, k, none⟩ = some (.int .i64 y) ∧ Hid (ys.getD k 0 = y) ∧ w.frozen? ⟨g, k, none⟩ = false ∧
      ∀ z : Int, Acc (w.setCell ⟨g, k, none⟩ (.int .i64 z)) base (.slice V n c) (ys.set k z) := by
  subst hn
  obtain ⟨g, cap, e, hb, hlt⟩ := World.ownsRow.form h (by omega)
  injection e with e1 e2 e3
  subst e1 e3
  refine ⟨g, ys.getD k 0, rfl, hb, hlt, ?_, rfl, World.ownsRow.frozenAt h k, fun z => ?_⟩
  · rw [World.ownsRow.cellAt h k (by omega)]
    simp [List.getD_eq_getElem?_getD, List.getElem?_eq_getElem hk]
  · have := (World.ownsRow.stored h k (.int .i64 z)).1
    unfold Acc
    rw [List.length_set, List.map_set]
    exact this
/-- what a store into a row of one's own of numbers leaves, if the number isn't looked at -/
theorem acc_lt {w : World} {base : Nat} {V : Option Addr} {n c : Nat} {ys : List Int} (h : Acc w base (.slice V n c) ys) : ∀ g o, V = some ⟨g, o, none⟩ → base ≤ g ∧ g < w.heap.size := fun g o e => by
  subst e; exact World.ownsRow.lt h g rfl
end Ar
end Go.Proofs.Ytfpnafeildigaaa
