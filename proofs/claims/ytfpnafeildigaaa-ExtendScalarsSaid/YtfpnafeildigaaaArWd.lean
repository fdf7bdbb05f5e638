/-
Words for cells: what a cell holds behind draws, new blocks and stores (for every seat).
-/
import Derived.Test.YtfpnafeildigaaaArZ
set_option linter.unusedSimpArgs false
set_option linter.unusedVariables false
namespace Go.Proofs.Ytfpnafeildigaaa
namespace Ar
open Go.RowKit Sc
theorem cel_alloc (w : World) (b o : Nat) (x : Obj) (h : b < w.heap.size) : (w.alloc x).cell? ⟨b, o, none⟩ = w.cell? ⟨b, o, none⟩ := World.cell?_alloc_lt w x ⟨b, o, none⟩ h
theorem cel_set (w : World) (b o b' o' : Nat) (v : Value) (h : b' ≠ b) : (w.setCell ⟨b', o', none⟩ v).cell? ⟨b, o, none⟩ = w.cell? ⟨b, o, none⟩ :=
  World.cell?_setCell_other w _ _ v (fun e => h (congrArg Addr.block e))
theorem cel_off (w : World) (b o b' o' : Nat) (v : Value) (h : o' ≠ o) : (w.setCell ⟨b', o', none⟩ v).cell? ⟨b, o, none⟩ = w.cell? ⟨b, o, none⟩ :=
  World.cell?_setCell_other w _ _ v (fun e => h (congrArg Addr.off e))
theorem cel_drew (w : World) (p : Addr) : w.drew.cell? p = w.cell? p := rfl
theorem cel_drewN (w : World) (n : Nat) (p : Addr) : (w.drewN n).cell? p = w.cell? p := rfl
theorem cel_new (w : World) (b o : Nat) (cs : Array Value) (t : TypeId) (h : b = w.heap.size) : (w.alloc (.cells cs t)).cell? ⟨b, o, none⟩ = cs[o]? := by
  subst h; rw [World.cell?_alloc_at (hn := rfl)]
theorem fro_alloc (w : World) (b o : Nat) (x : Obj) (h : b < w.heap.size) : (w.alloc x).frozen? ⟨b, o, none⟩ = w.frozen? ⟨b, o, none⟩ := ((Below.refl w.heap.size w).alloc (Nat.le_refl _) x).frozen (p := ⟨b, o, none⟩) h
theorem fro_set (w : World) (p q : Addr) (v : Value) : (w.setCell p v).frozen? q = w.frozen? q := World.frozen?_setCell _ _ _ _
theorem fro_drew (w : World) (p : Addr) : w.drew.frozen? p = w.frozen? p := rfl
def Arr5 (w : World) (g : Nat) (k r l0 l1 s : Value) : Prop :=
  w.cell? ⟨g, 0, none⟩ = some k ∧ w.cell? ⟨g, 1, none⟩ = some r ∧ w.cell? ⟨g, 2, none⟩ = some l0 ∧ w.cell? ⟨g, 3, none⟩ = some l1 ∧ w.cell? ⟨g, 4, none⟩ = some s
theorem Arr5.below {w w' : World} {g : Nat} {k r l0 l1 s : Value} (h : Arr5 w g k r l0 l1 s) (hb : Below w.heap.size w w') : Arr5 w' g k r l0 l1 s := by
  obtain ⟨h1, h2, h3, h4, h5⟩ := h
  have hl := block_lt_of_cell h1
  exact ⟨(hb.cell (p := ⟨g, 0, none⟩) hl).trans h1, (hb.cell (p := ⟨g, 1, none⟩) hl).trans h2, (hb.cell (p := ⟨g, 2, none⟩) hl).trans h3, (hb.cell (p := ⟨g, 3, none⟩) hl).trans h4, (hb.cell (p := ⟨g, 4, none⟩) hl).trans h5⟩
theorem getD_in {α : Type} {xs : List α} {k : Nat} (d : α) (h : k < xs.length) : xs.getD k d ∈ xs := by
  rw [List.getD_eq_getElem?_getD, List.getElem?_eq_getElem h]; exact List.getElem_mem h
end Ar
end Go.Proofs.Ytfpnafeildigaaa
