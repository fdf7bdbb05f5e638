/-
The walks of ExtendOnes and ExtendTwos (chapter 10).
-/
import Derived.Test.YtfpnafeildigaaaArAx
import Derived.Test.YtfpnafeildigaaaBa6
import Derived.Laws.OwnMore
set_option linter.unusedSimpArgs false
set_option linter.unusedVariables false
namespace Go.Proofs.Ytfpnafeildigaaa
namespace Ar
open Go.RowKit Sc
theorem same_refl (a : Arr) : same a a = true := by unfold same like; simp
end Ar
end Go.Proofs.Ytfpnafeildigaaa
/-
Rows of one's own that are written into; a world that changed between two blocks alone (for every seat).
-/
set_option linter.unusedSimpArgs false
set_option linter.unusedVariables false
namespace Go.Proofs.Ytfpnafeildigaaa
namespace Ar
open Go.RowKit Sc
/-- w is a but for the blocks from lo to hi, and what is new -/
def Off (lo hi : Nat) (a w : World) : Prop :=
  w.os = a.os ∧ w.tape = a.tape ∧ w.output = a.output ∧ a.heap.size ≤ w.heap.size ∧ ∀ k, k < a.heap.size → k < lo ∨ hi ≤ k → w.heap[k]? = a.heap[k]?
theorem Off.refl (lo hi : Nat) (a : World) : Off lo hi a a := ⟨rfl, rfl, rfl, Nat.le_refl _, fun _ _ _ => rfl⟩
theorem Off.then {lo hi : Nat} {a w w' : World} (h : Off lo hi a w) (hb : Below w.heap.size w w') : Off lo hi a w' :=
  ⟨hb.os.trans h.1, hb.tape.trans h.2.1, hb.output.trans h.2.2.1, Nat.le_trans h.2.2.2.1 hb.size, fun k hk hr => (hb.block k (Nat.lt_of_lt_of_le hk h.2.2.2.1)).trans (h.2.2.2.2 k hk hr)⟩
theorem Off.set {lo hi : Nat} {a w : World} (h : Off lo hi a w) {q : Addr} (h1 : lo ≤ q.block) (h2 : q.block < hi) (u : Value) : Off lo hi a (w.setCell q u) :=
  ⟨h.1, h.2.1, h.2.2.1, by simpa [World.setCell] using h.2.2.2.1, fun k hk hr => (Below.heap_setCell w q u k (by rintro rfl; omega)).trans (h.2.2.2.2 k hk hr)⟩
theorem Off.cell {lo hi : Nat} {a w : World} (h : Off lo hi a w) {b : Nat} (o : Nat) (hb : b < a.heap.size) (hr : b < lo ∨ hi ≤ b) : w.cell? ⟨b, o, none⟩ = a.cell? ⟨b, o, none⟩ := World.cell?_of_block (h.2.2.2.2 b hb hr)
theorem Off.fro {lo hi : Nat} {a w : World} (h : Off lo hi a w) {b : Nat} (o : Nat) (hb : b < a.heap.size) (hr : b < lo ∨ hi ≤ b) : w.frozen? ⟨b, o, none⟩ = a.frozen? ⟨b, o, none⟩ := World.frozen?_of_block (h.2.2.2.2 b hb hr)
theorem Off.base {lo hi : Nat} {a w x : World} {B : Nat} (h : Off lo hi a w) (hx : Below B x a) (hB : B ≤ lo) (hl : B ≤ a.heap.size) : Below B x w :=
  ⟨h.1.trans hx.os, h.2.1.trans hx.tape, h.2.2.1.trans hx.output, Nat.le_trans hx.size h.2.2.2.1, fun k hk => (h.2.2.2.2 k (by omega) (.inl (by omega))).trans (hx.block k hk)⟩
theorem Off.arr {lo hi : Nat} {a w : World} (h : Off lo hi a w) {g : Nat} {x0 x1 x2 x3 x4 : Value} (h5 : Arr5 a g x0 x1 x2 x3 x4) (hr : g < lo ∨ hi ≤ g) : Arr5 w g x0 x1 x2 x3 x4 := by
  obtain ⟨h1, h2, h3, h4, h5⟩ := h5
  have hl := block_lt_of_cell h1
  exact ⟨(h.cell 0 hl hr).trans h1, (h.cell 1 hl hr).trans h2, (h.cell 2 hl hr).trans h3, (h.cell 3 hl hr).trans h4, (h.cell 4 hl hr).trans h5⟩
theorem Off.sl {lo hi : Nat} {a w : World} (h : Off lo hi a w) {A : Option Addr} {xs : List Int} (hs : Sl a A xs) (hr : ∀ g o, A = some ⟨g, o, none⟩ → g < lo ∨ hi ≤ g) : Sl w A xs := fun hn => by
  obtain ⟨b, o, e, hl, hc⟩ := hs hn
  exact ⟨b, o, e, Nat.lt_of_lt_of_le hl h.2.2.2.1, fun j hj => (h.cell (o + j) hl (hr b o e)).trans (hc j hj)⟩
theorem Off.drew {lo hi : Nat} {a w : World} (h : Off lo hi a w) : Off lo hi a w.drew := ⟨h.1, h.2.1, h.2.2.1, h.2.2.2.1, h.2.2.2.2⟩
/-- the number at a place of a row of one's own, and what a store there leaves -/
theorem Acc.place {w : World} {base n k : Nat} {V : Option Addr} {c : Nat} {ys : List Int} (h : Acc w base (.slice V n c) ys) (hn : ys.length = n) (hk : k < n) :
    ∃ (g : Nat) (y : Int), V = some ⟨g, 0, none⟩ ∧ base ≤ g ∧ g < w.heap.size ∧ w.cell? ⟨g, k, none⟩ = some (.int .i64 y) ∧ Hid (ys.getD k 0 = y) ∧ w.frozen? ⟨g, k, none⟩ = false ∧
      ∀ z : Int, Acc (w.setCell ⟨g, k, none⟩ (.int .i64 z)) base (.slice V n c) (ys.set k z) := by
  subst hn
  obtain ⟨g, cap, e, hb, hlt⟩ := World.ownsRow.form h (by omega)
  injection e with e1 e2 e3
  subst e1 e3
  refine ⟨g, ys.getD k 0, rfl, hb, hlt, ?_, rfl, World.ownsRow.frozenAt h k, fun z => ?_⟩
  · rw [World.ownsRow.cellAt h k (by omega)]
    simp [List.getD_eq_getElem?_getD, List.getElem?_eq_getElem hk]
  · have := (World.ownsRow.stored h k (.int .i64 z)).1
    unfold Acc
    rw [List.length_set, List.map_set]
    exact this
/-- what a store into a row of one's own of numbers leaves, if the number isn't looked at -/
theorem acc_lt {w : World} {base : Nat} {V : Option Addr} {n c : Nat} {ys : List Int} (h : Acc w base (.slice V n c) ys) : ∀ g o, V = some ⟨g, o, none⟩ → base ≤ g ∧ g < w.heap.size := fun g o e => by
  subst e; exact World.ownsRow.lt h g rfl
end Ar
end Go.Proofs.Ytfpnafeildigaaa
/-
The walk of ExtendTwos (chapter 10).
-/
set_option linter.unusedSimpArgs false
set_option linter.unusedVariables false
namespace Go.Proofs.Ytfpnafeildigaaa
namespace Ar
open Go.RowKit Sc
end Ar
end Go.Proofs.Ytfpnafeildigaaa
/-
Words for a walk that holds many arrays in boxes (for every seat).
-/
set_option linter.unusedSimpArgs false
set_option linter.unusedVariables false
namespace Go.Proofs.Ytfpnafeildigaaa
namespace Ar
open Go.RowKit Sc
/-- an array in block g -/
def BoxAt (w : World) (g : Nat) (a : Arr) (A : Option Addr) (c : Nat) : Prop :=
  Arr5 w g (.int .i64 a.k) (.int .i64 a.r) (.int .i64 a.l0) (.int .i64 a.l1) (.slice A a.xs.length c) ∧ Sl w A a.xs ∧ g < w.heap.size
theorem BoxAt.below {w w' : World} {g : Nat} {a : Arr} {A : Option Addr} {c : Nat} (h : BoxAt w g a A c) (hb : Below w.heap.size w w') : BoxAt w' g a A c :=
  ⟨h.1.below hb, h.2.1.below hb, Nat.lt_of_lt_of_le h.2.2 hb.size⟩
theorem arr5_new (w : World) (k r l0 l1 : Int) (A : Option Addr) (n c : Nat) (t : TypeId) : Arr5 (w.alloc (.cells #[.int .i64 k, .int .i64 r, .int .i64 l0, .int .i64 l1, .slice A n c] t)) w.heap.size (.int .i64 k) (.int .i64 r) (.int .i64 l0) (.int .i64 l1) (.slice A n c) :=
  ⟨by simp [go_sem], by simp [go_sem], by simp [go_sem], by simp [go_sem], by simp [go_sem]⟩
theorem bl_new (w : World) (o : Obj) : Below w.heap.size w (w.alloc o) := (Below.refl _ _).alloc (Nat.le_refl _) o
theorem BoxAt.new {w : World} {a : Arr} {A : Option Addr} {c : Nat} (hs : Sl w A a.xs) (t : TypeId) : BoxAt (w.alloc (.cells #[.int .i64 a.k, .int .i64 a.r, .int .i64 a.l0, .int .i64 a.l1, .slice A a.xs.length c] t)) w.heap.size a A c :=
  ⟨arr5_new _ _ _ _ _ _ _ _ _, hs.below (bl_new _ _), by simp⟩
def Boxes (w : World) : List (Nat × Arr × Option Addr × Nat) → Prop
  | [] => True
  | (g, a, A, c) :: l => BoxAt w g a A c ∧ Boxes w l
theorem Boxes.below {w w' : World} : ∀ {l : List (Nat × Arr × Option Addr × Nat)}, Boxes w l → Below w.heap.size w w' → Boxes w' l
  | [], _, _ => trivial
  | (_, _, _, _) :: _, h, hb => ⟨h.1.below hb, Boxes.below h.2 hb⟩
/-- what a walk holds: the world it began with is kept, and arrays lie in blocks -/
def St (w wx : World) (l : List (Nat × Arr × Option Addr × Nat)) : Prop := Below w.heap.size w wx ∧ Boxes wx l
theorem St.init (w : World) : St w w [] := ⟨Below.refl _ _, trivial⟩
theorem St.below {w wx wy : World} {l : List (Nat × Arr × Option Addr × Nat)} (h : St w wx l) (hb : Below wx.heap.size wx wy) : St w wy l := ⟨bl_then h.1 hb, h.2.below hb⟩
theorem St.alloc {w wx : World} {l : List (Nat × Arr × Option Addr × Nat)} (h : St w wx l) (o : Obj) : St w (wx.alloc o) l := h.below (bl_new _ _)
theorem St.box {w wx : World} {l : List (Nat × Arr × Option Addr × Nat)} (h : St w wx l) {a : Arr} {A : Option Addr} (c : Nat) (hs : Sl wx A a.xs) (t : TypeId := 25) :
    St w (wx.alloc (.cells #[.int .i64 a.k, .int .i64 a.r, .int .i64 a.l0, .int .i64 a.l1, .slice A a.xs.length c] t)) ((wx.heap.size, a, A, c) :: l) :=
  ⟨bl_then h.1 (bl_new _ _), BoxAt.new hs t, h.2.below (bl_new _ _)⟩
/-- a call has answered with an array, which was put into a block; then another call has been made -/
theorem St.push {w wx wy : World} {l : List (Nat × Arr × Option Addr × Nat)} (h : St w wx l) {a : Arr} {A : Option Addr} {c : Nat} (hs : Sl wx A a.xs) {t : TypeId}
    (hb : Below (wx.alloc (.cells #[.int .i64 a.k, .int .i64 a.r, .int .i64 a.l0, .int .i64 a.l1, .slice A a.xs.length c] t)).heap.size (wx.alloc (.cells #[.int .i64 a.k, .int .i64 a.r, .int .i64 a.l0, .int .i64 a.l1, .slice A a.xs.length c] t)) wy) :
    St w wy ((wx.heap.size, a, A, c) :: l) := (h.box c hs t).below hb
theorem St.off {w wx wy : World} {l : List (Nat × Arr × Option Addr × Nat)} {lo hi : Nat} (h : St w wx l) (ho : Off lo hi wx wy) (hlo : w.heap.size ≤ lo)
    (hl : ∀ e ∈ l, (e.1 < lo ∨ hi ≤ e.1) ∧ ∀ g o, e.2.2.1 = some ⟨g, o, none⟩ → g < lo ∨ hi ≤ g) : St w wy l := by
  refine ⟨ho.base h.1 hlo h.1.size, ?_⟩
  obtain ⟨_, h⟩ := h
  induction l with
  | nil => trivial
  | cons e l ih =>
    obtain ⟨⟨h1, h2, h3⟩, h4⟩ := h
    exact ⟨⟨ho.arr h1 (hl e (by simp)).1, ho.sl h2 (hl e (by simp)).2, Nat.lt_of_lt_of_le h3 ho.2.2.2.1⟩, ih (fun e' he => hl e' (by simp [he])) h4⟩
theorem acc_sl {w : World} {base n c : Nat} {V : Option Addr} {ys : List Int} (h : Acc w base (.slice V n c) ys) : Sl w V ys := by
  obtain ⟨A, c', e, hs, _⟩ := h.sl
  injection e with e1 e2 e3
  subst e1
  exact hs
end Ar
end Go.Proofs.Ytfpnafeildigaaa
/-
The plain law of ExtendScalars (chapter 10): a scalar is as the array of its copies.
-/
set_option linter.unusedSimpArgs false
set_option linter.unusedVariables false
namespace Go.Proofs.Ytfpnafeildigaaa
namespace Ar
open Go.RowKit Sc
theorem lens_if {a b : Arr} (ca : chk a = 0) (cb : chk b = 0) : extLens a b = if a.r = 0 then (0, b.r, b.l0, b.l1) else if b.r = 0 then (0, a.r, a.l0, a.l1)
    else if a.r ≠ b.r then (22, 0, 0, 0) else if a.l0 ≠ b.l0 ∨ a.l1 ≠ b.l1 then (11, 0, 0, 0) else (0, a.r, a.l0, a.l1) := if_neg (by rw [chk2_ok ca, cb]; simp)
end Ar
end Go.Proofs.Ytfpnafeildigaaa
