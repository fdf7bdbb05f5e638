/-
Words for a walk that holds many arrays in boxes (for every seat).
-/
import Derived.Test.YtfpnafeildigaaaArOw
import Derived.Test.YtfpnafeildigaaaArL2
set_option linter.unusedSimpArgs false
set_option linter.unusedVariables false
namespace Go.Proofs.Ytfpnafeildigaaa
namespace Ar
open Go.RowKit Sc

/-- an array in block g -/
def BoxAt (w : World) (g : Nat) (a : Arr) (A : Option Addr) (c : Nat) : Prop :=
  Arr5 w g (.int .i64 a.k) (.int .i64 a.r) (.int .i64 a.l0) (.int .i64 a.l1) (.slice A a.xs.length c) ∧ Sl w A a.xs ∧ g < w.heap.size
theorem BoxAt.below {w w' : World} {g : Nat} {a : Arr} {A : Option Addr} {c : Nat} (h : BoxAt w g a A c) (hb : Below w.heap.size w w') : BoxAt w' g a A c :=
  ⟨h.1.below hb, h.2.1.below hb, Nat.lt_of_lt_of_le h.2.2 hb.size⟩
theorem arr5_new (w : World) (k r l0 l1 : Int) (A : Option Addr) (n c : Nat) (t : TypeId) : Arr5 (w.alloc (.cells #[.int .i64 k, .int .i64 r, .int .i64 l0, .int .i64 l1, .slice A n c] t)) w.heap.size (.int .i64 k) (.int .i64 r) (.int .i64 l0) (.int .i64 l1) (.slice A n c) :=
  ⟨by simp [go_sem], by simp [go_sem], by simp [go_sem], by simp [go_sem], by simp [go_sem]⟩
theorem bl_new (w : World) (o : Obj) : Below w.heap.size w (w.alloc o) := (Below.refl _ _).alloc (Nat.le_refl _) o
theorem BoxAt.new {w : World} {a : Arr} {A : Option Addr} {c : Nat} (hs : Sl w A a.xs) (t : TypeId) : BoxAt (w.alloc (.cells #[.int .i64 a.k, .int .i64 a.r, .int .i64 a.l0, .int .i64 a.l1, .slice A a.xs.length c] t)) w.heap.size a A c :=
  ⟨arr5_new _ _ _ _ _ _ _ _ _, hs.below (bl_new _ _), by simp⟩
def Boxes (w : World) : List (Nat × Arr × Option Addr × Nat) → Prop
  | [] => True
  | (g, a, A, c) :: l => BoxAt w g a A c ∧ Boxes w l
theorem Boxes.below {w w' : World} : ∀ {l : List (Nat × Arr × Option Addr × Nat)}, Boxes w l → Below w.heap.size w w' → Boxes w' l
  | [], _, _ => trivial
  | (_, _, _, _) :: _, h, hb => ⟨h.1.below hb, Boxes.below h.2 hb⟩
/-- what a walk holds: the world it began with is kept, and arrays lie in blocks -/
def St (w wx : World) (l : List (Nat × Arr × Option Addr × Nat)) : Prop := Below w.heap.size w wx ∧ Boxes wx l
theorem St.init (w : World) : St w w [] := ⟨Below.refl _ _, trivial⟩
theorem St.below {w wx wy : World} {l : List (Nat × Arr × Option Addr × Nat)} (h : St w wx l) (hb : Below wx.heap.size wx wy) : St w wy l := ⟨bl_then h.1 hb, h.2.below hb⟩
theorem St.alloc {w wx : World} {l : List (Nat × Arr × Option Addr × Nat)} (h : St w wx l) (o : Obj) : St w (wx.alloc o) l := h.below (bl_new _ _)
theorem St.box {w wx : World} {l : List (Nat × Arr × Option Addr × Nat)} (h : St w wx l) {a : Arr} {A : Option Addr} (c : Nat) (hs : Sl wx A a.xs) (t : TypeId := 25) :
    St w (wx.alloc (.cells #[.int .i64 a.k, .int .i64 a.r, .int .i64 a.l0, .int .i64 a.l1, .slice A a.xs.length c] t)) ((wx.heap.size, a, A, c) :: l) :=
  ⟨bl_then h.1 (bl_new _ _), BoxAt.new hs t, h.2.below (bl_new _ _)⟩
/-- a call has answered with an array, which was put into a block; then another call has been made -/
theorem St.push {w wx wy : World} {l : List (Nat × Arr × Option Addr × Nat)} (h : St w wx l) {a : Arr} {A : Option Addr} {c : Nat} (hs : Sl wx A a.xs) {t : TypeId}
    (hb : Below (wx.alloc (.cells #[.int .i64 a.k, .int .i64 a.r, .int .i64 a.l0, .int .i64 a.l1, .slice A a.xs.length c] t)).heap.size (wx.alloc (.cells #[.int .i64 a.k, .int .i64 a.r, .int .i64 a.l0, .int .i64 a.l1, .slice A a.xs.length c] t)) wy) :
    St w wy ((wx.heap.size, a, A, c) :: l) := (h.box c hs t).below hb
theorem St.off {w wx wy : World} {l : List (Nat × Arr × Option Addr × Nat)} {lo hi : Nat} (h : St w wx l) (ho : Off lo hi wx wy) (hlo : w.heap.size ≤ lo)
    (hl : ∀ e ∈ l, (e.1 < lo ∨ hi ≤ e.1) ∧ ∀ g o, e.2.2.1 = some ⟨g, o, none⟩ → g < lo ∨ hi ≤ g) : St w wy l := by
  refine ⟨ho.base h.1 hlo h.1.size, ?_⟩
  obtain ⟨_, h⟩ := h
  induction l with
  | nil => trivial
  | cons e l ih =>
    obtain ⟨⟨h1, h2, h3⟩, h4⟩ := h
    exact ⟨⟨ho.arr h1 (hl e (by simp)).1, ho.sl h2 (hl e (by simp)).2, Nat.lt_of_lt_of_le h3 ho.2.2.2.1⟩, ih (fun e' he => hl e' (by simp [he])) h4⟩
theorem acc_sl {w : World} {base n c : Nat} {V : Option Addr} {ys : List Int} (h : Acc w base (.slice V n c) ys) : Sl w V ys := by
  obtain ⟨A, c', e, hs, _⟩ := h.sl
  injection e with e1 e2 e3
  subst e1
  exact hs
end Ar
end Go.Proofs.Ytfpnafeildigaaa
