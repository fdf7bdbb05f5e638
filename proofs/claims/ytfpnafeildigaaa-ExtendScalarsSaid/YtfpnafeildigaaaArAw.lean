/-
What the laws of chapters 10 and 11 share: vectors and scalars of numbers, 'is'; words for a local array (chapter 10).
-/
import Derived.Test.YtfpnafeildigaaaArAp
import Derived.Test.YtfpnafeildigaaaArE
set_option linter.unusedSimpArgs false
set_option linter.unusedVariables false
namespace Go.Proofs.Ytfpnafeildigaaa
namespace Ar
open Go.RowKit Sc

theorem Sl.len0 {w : World} {A : Option Addr} {xs : List Int} (h : xs.length = 0) : Sl w A xs := by
  rw [List.eq_nil_of_length_eq_zero h]; exact Sl.nil _ _
theorem sl_new (w : World) (t : TypeId) (cs : Array Value) (xs : List Int) (h : cs.toList = xs.map (Value.int .i64)) : Sl (w.alloc (.cells cs t)) (some ⟨w.heap.size, 0, none⟩) xs := fun _ =>
  ⟨_, 0, rfl, by simp, fun j hj => by
    rw [Nat.zero_add, cel_new _ _ _ _ _ rfl, ← Array.getElem?_toList, h]
    simp [List.getD_eq_getElem?_getD, List.getElem?_eq_getElem hj]⟩
/-- an array in block g -/
def ArrAt (w : World) (g : Nat) (r : Arr) : Prop :=
  ∃ (A : Option Addr) (c : Nat), Arr5 w g (.int .i64 r.k) (.int .i64 r.r) (.int .i64 r.l0) (.int .i64 r.l1) (.slice A r.xs.length c) ∧ Sl w A r.xs
theorem ArrAt.below {w w' : World} {g : Nat} {r : Arr} (h : ArrAt w g r) (hb : Below w.heap.size w w') : ArrAt w' g r := by
  obtain ⟨A, c, h1, h2⟩ := h; exact ⟨A, c, h1.below hb, h2.below hb⟩
theorem ArrAt.lt {w : World} {g : Nat} {r : Arr} (h : ArrAt w g r) : g < w.heap.size := by
  obtain ⟨A, c, h1, h2⟩ := h; exact block_lt_of_cell h1.1
theorem ArrAt.new {w w0 : World} {r : Arr} {A : Option Addr} {c : Nat} (hs : Sl w A r.xs) (t : TypeId) : ArrAt (w.alloc (.cells #[.int .i64 r.k, .int .i64 r.r, .int .i64 r.l0, .int .i64 r.l1, .slice A r.xs.length c] t)) w.heap.size r :=
  ⟨A, c, ⟨by simp [go_sem], by simp [go_sem], by simp [go_sem], by simp [go_sem], by simp [go_sem]⟩, hs.below ((Below.refl _ _).alloc (Nat.le_refl _) _)⟩
/-- what the variables of 'a, e := f(..)' hold -/
def VarAt (w0 : World) (r : Int × Arr) (sa se : Value) (w : World) : Prop :=
  ∃ g, sa = .pointer (some ⟨g, 0, none⟩) ∧ se = .int .i64 r.1 ∧ ArrAt w g r.2 ∧ Below w0.heap.size w0 w
theorem VarAt.of_new {w0 w : World} {er : Int} {r : Arr} {A : Option Addr} {c : Nat} {t : TypeId} (hs : Sl w A r.xs) (hb : Below w0.heap.size w0 w) :
    VarAt w0 (er, r) (.pointer (some ⟨w.heap.size, 0, none⟩)) (.int .i64 er) (w.alloc (.cells #[.int .i64 r.k, .int .i64 r.r, .int .i64 r.l0, .int .i64 r.l1, .slice A r.xs.length c] t)) :=
  ⟨_, rfl, rfl, ArrAt.new (w0 := w0) hs t, hb.alloc hb.size _⟩
theorem Arr5.put {w : World} {g : Nat} {u0 u1 u2 u3 u4 : Value} (h : Arr5 w g u0 u1 u2 u3 u4) (a0 a1 a2 a3 a4 : Value) :
    Arr5 (((((w.setCell ⟨g, 0, none⟩ a0).setCell ⟨g, 1, none⟩ a1).setCell ⟨g, 2, none⟩ a2).setCell ⟨g, 3, none⟩ a3).setCell ⟨g, 4, none⟩ a4) g a0 a1 a2 a3 a4 := by
  obtain ⟨h0, h1, h2, h3, h4⟩ := h
  refine ⟨?_, ?_, ?_, ?_, ?_⟩
  · rw [cel_off _ _ _ _ _ _ (by decide), cel_off _ _ _ _ _ _ (by decide), cel_off _ _ _ _ _ _ (by decide), cel_off _ _ _ _ _ _ (by decide)]; exact World.cell?_setCell_same _ _ _ h0
  · rw [cel_off _ _ _ _ _ _ (by decide), cel_off _ _ _ _ _ _ (by decide), cel_off _ _ _ _ _ _ (by decide)]; exact World.cell?_setCell_same _ _ _ ((cel_off _ _ _ _ _ _ (by decide)).trans h1)
  · rw [cel_off _ _ _ _ _ _ (by decide), cel_off _ _ _ _ _ _ (by decide)]; exact World.cell?_setCell_same _ _ _ ((cel_off _ _ _ _ _ _ (by decide)).trans ((cel_off _ _ _ _ _ _ (by decide)).trans h2))
  · rw [cel_off _ _ _ _ _ _ (by decide)]; exact World.cell?_setCell_same _ _ _ ((cel_off _ _ _ _ _ _ (by decide)).trans ((cel_off _ _ _ _ _ _ (by decide)).trans ((cel_off _ _ _ _ _ _ (by decide)).trans h3)))
  · exact World.cell?_setCell_same _ _ _ ((cel_off _ _ _ _ _ _ (by decide)).trans ((cel_off _ _ _ _ _ _ (by decide)).trans ((cel_off _ _ _ _ _ _ (by decide)).trans ((cel_off _ _ _ _ _ _ (by decide)).trans h4))))
theorem arr5_of {w : World} {g : Nat} {k r l0 l1 s : Value} (h0 : w.cell? ⟨g, 0, none⟩ = some k) (h1 : w.cell? ⟨g, 1, none⟩ = some r) (h2 : w.cell? ⟨g, 2, none⟩ = some l0) (h3 : w.cell? ⟨g, 3, none⟩ = some l1) (h4 : w.cell? ⟨g, 4, none⟩ = some s) : Arr5 w g k r l0 l1 s := ⟨h0, h1, h2, h3, h4⟩
theorem VarAt.of_put {w0 w : World} {er : Int} {r : Arr} {g : Nat} {A : Option Addr} {c : Nat} {u0 u1 u2 u3 u4 : Value} (h5 : Arr5 w g u0 u1 u2 u3 u4) (hs : Sl w A r.xs) (hA : ∀ b o, A = some ⟨b, o, none⟩ → g + 1 ≤ b) (hg : w0.heap.size ≤ g) (hb : Below w0.heap.size w0 w) :
    VarAt w0 (er, r) (.pointer (some ⟨g, 0, none⟩)) (.int .i64 er) (((((w.setCell ⟨g, 0, none⟩ (.int .i64 r.k)).setCell ⟨g, 1, none⟩ (.int .i64 r.r)).setCell ⟨g, 2, none⟩ (.int .i64 r.l0)).setCell ⟨g, 3, none⟩ (.int .i64 r.l1)).setCell ⟨g, 4, none⟩ (.slice A r.xs.length c)) :=
  ⟨g, rfl, rfl, ⟨A, c, h5.put _ _ _ _ _, (((((hs.set hA (by simp) _).set hA (by simp) _).set hA (by simp) _).set hA (by simp) _).set hA (by simp) _)⟩,
    ((((hb.setCell hg _).setCell hg _).setCell hg _).setCell hg _).setCell hg _⟩
theorem sl_2 {w : World} {X : Nat} {x y : Int} (h0 : w.cell? ⟨X, 0, none⟩ = some (.int .i64 x)) (h1 : w.cell? ⟨X, 1, none⟩ = some (.int .i64 y)) : Sl w (some ⟨X, 0, none⟩) [x, y] := fun _ =>
  ⟨X, 0, rfl, block_lt_of_cell h0, fun j hj => by
    rw [Nat.zero_add]
    match j, hj with
    | 0, _ => exact h0
    | 1, _ => exact h1⟩
theorem sl_3 {w : World} {X : Nat} {x y z : Int} (h0 : w.cell? ⟨X, 0, none⟩ = some (.int .i64 x)) (h1 : w.cell? ⟨X, 1, none⟩ = some (.int .i64 y)) (h2 : w.cell? ⟨X, 2, none⟩ = some (.int .i64 z)) : Sl w (some ⟨X, 0, none⟩) [x, y, z] := fun _ =>
  ⟨X, 0, rfl, block_lt_of_cell h0, fun j hj => by
    rw [Nat.zero_add]
    match j, hj with
    | 0, _ => exact h0
    | 1, _ => exact h1
    | 2, _ => exact h2⟩
theorem ints_any (A : Option Addr) (c : Nat) (xs : List Int) (n : Nat) (hn : n = xs.length) (hl : n ≤ 100000) (w : World) (hs : Sl w A xs) : Calls Try.prog 56 #[.slice A n c] w (ArrOne w ⟨1, 1, xs.length, 0, xs⟩) := by
  subst hn
  go_enter Try.func56, Try.ntmps56
  go_wp2_with (go_at_call 36; refine (vector_any 1 A c xs hl _ (hs.below (by (repeat (first | with_reducible exact Below.refl _ _ | with_reducible assumption | (with_reducible refine bl_set ?_ (by simp; try omega) _) | (with_reducible refine bl_alloc ?_ _) | (with_reducible refine bl_dn ?_ _) | (with_reducible refine bl_drew ?_) | (with_reducible refine bl_then ?_ (by with_reducible assumption))))))).mono ?_; rintro e w1 ⟨hg, V, cv, rfl, hsl, hge⟩; obtain ⟨hc, hf, hz⟩ := bcell hg; (have hsl := hide hsl); (have zw : w.heap.size < w1.heap.size := by have := hg.size; simp at this; omega))
  refine bodyPost_ret (v := .agg #[.int .i64 1, .int .i64 1, .int .i64 xs.length, .int .i64 0, .slice V xs.length cv]) (by simp [results, Try.results56, go_sem, hc]) rfl ⟨by (repeat (first | with_reducible exact Below.refl _ _ | with_reducible assumption | (with_reducible refine bl_set ?_ (by simp; try omega) _) | (with_reducible refine bl_alloc ?_ _) | (with_reducible refine bl_dn ?_ _) | (with_reducible refine bl_drew ?_) | (with_reducible refine bl_then ?_ (by with_reducible assumption)))), V, cv, rfl, ?_, fun g o e => by have := hge g o e; simp at this; omega⟩
  repeat (refine Sl.set ?_ hge (by simp) _)
  exact hsl.out
theorem int_any (x : Int) (w : World) : Calls Try.prog 57 #[.int .i64 x] w (ArrOne w ⟨1, 0, 0, 0, [x]⟩) := by
  go_enter Try.func57, Try.ntmps57
  go_wp2_with (go_at_call 32; refine (scalar_any 1 x _).mono ?_; rintro e w1 ⟨hg, V, cv, rfl, hsl, hge⟩; obtain ⟨hc, hf, hz⟩ := bcell hg; (have hsl := hide hsl); (have zw : w.heap.size < w1.heap.size := by have := hg.size; simp at this; omega))
  refine bodyPost_ret (v := .agg #[.int .i64 1, .int .i64 0, .int .i64 0, .int .i64 0, .slice V 1 cv]) (by simp [results, Try.results57, go_sem, hc]) rfl ⟨by (repeat (first | with_reducible exact Below.refl _ _ | with_reducible assumption | (with_reducible refine bl_set ?_ (by simp; try omega) _) | (with_reducible refine bl_alloc ?_ _) | (with_reducible refine bl_dn ?_ _) | (with_reducible refine bl_drew ?_) | (with_reducible refine bl_then ?_ (by with_reducible assumption)))), V, cv, rfl, ?_, fun g o e => by have := hge g o e; simp at this; omega⟩
  repeat (refine Sl.set ?_ hge (by simp) _)
  exact hsl.out
theorem is10_any (a b : Arr) (A B : Option Addr) (c d : Nat) (e : Int) (hla : a.xs.length ≤ 9223372036854775807) (hlb : b.xs.length ≤ 9223372036854775807) (w : World) (ha : Sl w A a.xs) (hb : Sl w B b.xs) :
    Calls Try.prog 38 #[.agg #[.int .i64 a.k, .int .i64 a.r, .int .i64 a.l0, .int .i64 a.l1, .slice A a.xs.length c], .int .i64 e, .agg #[.int .i64 b.k, .int .i64 b.r, .int .i64 b.l0, .int .i64 b.l1, .slice B b.xs.length d]] w fun e' w' => e' = .returned (.bool (e == 0 && same a b)) ∧ Below w.heap.size w w' := by
  by_cases h : e = 0
  · have n1 : (e == 0) = true := by simpa using h
    clear h
    go_enter Try.func38, Try.ntmps38
    go_wp2_with (go_at_call 35; refine (same_any a b A B c d hla hlb _ (ha.below (by (repeat (first | with_reducible exact Below.refl _ _ | with_reducible assumption | (with_reducible refine bl_set ?_ (by simp; try omega) _) | (with_reducible refine bl_alloc ?_ _) | (with_reducible refine bl_dn ?_ _) | (with_reducible refine bl_drew ?_) | (with_reducible refine bl_then ?_ (by with_reducible assumption)))))) (hb.below (by (repeat (first | with_reducible exact Below.refl _ _ | with_reducible assumption | (with_reducible refine bl_set ?_ (by simp; try omega) _) | (with_reducible refine bl_alloc ?_ _) | (with_reducible refine bl_dn ?_ _) | (with_reducible refine bl_drew ?_) | (with_reducible refine bl_then ?_ (by with_reducible assumption))))))).mono ?_; rintro e w' ⟨rfl, hg⟩)
    go_ret
    exact ⟨by rw [n1]; rfl, by (repeat (first | with_reducible exact Below.refl _ _ | with_reducible assumption | (with_reducible refine bl_set ?_ (by simp; try omega) _) | (with_reducible refine bl_alloc ?_ _) | (with_reducible refine bl_dn ?_ _) | (with_reducible refine bl_drew ?_) | (with_reducible refine bl_then ?_ (by with_reducible assumption))))⟩
  · have n1 : (e == 0) = false := by simpa using h
    clear h
    go_enter Try.func38, Try.ntmps38
    go_wp2
    go_ret
    exact ⟨by rw [n1]; rfl, by (repeat (first | with_reducible exact Below.refl _ _ | with_reducible assumption | (with_reducible refine bl_set ?_ (by simp; try omega) _) | (with_reducible refine bl_alloc ?_ _) | (with_reducible refine bl_dn ?_ _) | (with_reducible refine bl_drew ?_) | (with_reducible refine bl_then ?_ (by with_reducible assumption))))⟩
theorem is10_yes (a b : Arr) (A B : Option Addr) (c d : Nat) (hs : same a b = true) (hla : a.xs.length ≤ 9223372036854775807) (hlb : b.xs.length ≤ 9223372036854775807) (w : World) (ha : Sl w A a.xs) (hb : Sl w B b.xs) :
    Calls Try.prog 38 #[.agg #[.int .i64 a.k, .int .i64 a.r, .int .i64 a.l0, .int .i64 a.l1, .slice A a.xs.length c], .int .i64 0, .agg #[.int .i64 b.k, .int .i64 b.r, .int .i64 b.l0, .int .i64 b.l1, .slice B b.xs.length d]] w fun e' w' => e' = .returned (.bool true) ∧ Below w.heap.size w w' :=
  (is10_any a b A B c d 0 hla hlb w ha hb).mono fun _ _ ⟨h, hg⟩ => ⟨by rw [h, hs]; rfl, hg⟩
end Ar
end Go.Proofs.Ytfpnafeildigaaa
