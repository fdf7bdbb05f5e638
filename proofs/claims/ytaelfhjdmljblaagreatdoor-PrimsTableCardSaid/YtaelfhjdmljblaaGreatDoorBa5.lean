/-
The cells of a result of One: the closure, and the loop that fills a new block with what it returns, or raises the first error (chapter 10).
-/
import Derived.Test.YtaelfhjdmljblaaGreatDoorBa4
import Derived.Deep.RegionHeld3
import Derived.WalkLawsBesides
set_option linter.unusedSimpArgs false
set_option linter.unusedVariables false
namespace Go.Proofs.YtaelfhjdmljblaaGreatDoor
namespace Ar
open Go.RowKit Sc
theorem run_make_rowN {P : Program} (t e : TypeId) (i : TypeInfo) (z : Value) (ht : P.underlying t = some (.slice e)) (hi : P.info? e = some i) (hz : i.zero = some z)
    (kl kc : IntKind) (n c : Nat) (hnc : n ≤ c) (hbytes : i.bytes * c ≤ 281474976710656) (h63 : c ≤ 9223372036854775807) (w : World) :
    (Instr.makeSlice t (.int kl (n : Int)) (.int kc (c : Int))).run P w = .ok (.slice (some ⟨w.heap.size, 0, none⟩) n c) (w.alloc (.cells (madeCells z.cells (c * i.size)) e)) := by
  have hb : (i.bytes : Int) * (c : Int) ≤ 281474976710656 := by
    have h : ((i.bytes * c : Nat) : Int) ≤ 281474976710656 := by omega
    rwa [Int.natCast_mul] at h
  have hr := run_make (P := P) w t e i z ht hi hz kl kc n c (by omega) (by omega) hb (by omega)
  simp only [Int.toNat_natCast] at hr
  exact hr
theorem info_i64 : (Tryz.prog.info? 2).map (fun i => (i.zero, i.size, i.bytes)) = some (some (.int .i64 0), 1, 8) := by kernel_rfl
/-- a new block of n cells -/
def blank (n : Nat) : Array Value := madeCells #[.int .i64 0] n
theorem make_i64 (n : Nat) (hn : n ≤ 100000) (w : World) :
    (Instr.makeSlice 31 (.int .i64 (n : Int)) (.int .i64 (n : Int))).run Tryz.prog w = .ok (.slice (some ⟨w.heap.size, 0, none⟩) n n) (w.alloc (.cells (blank n) 2)) := by
  obtain ⟨i0, hi, hz0, hz1, hz2⟩ := info_parts info_i64
  have := run_make_rowN (P := Tryz.prog) _ _ i0 _ Tryz.underlying31 hi hz0 .i64 .i64 n n (Nat.le_refl _) (by rw [hz2]; omega) (by omega) w
  rw [hz1, Nat.mul_one] at this
  exact this
theorem Out.new (w : World) (n : Nat) (t : TypeId) : Out (w.alloc (.cells (blank n) t)) w.heap.size n [] :=
  ⟨by simp, fun j hj => ⟨(blank n)[j]'(by rw [blank, size_madeCells]; exact hj), by
    rw [World.cell?_alloc_at (hn := rfl)]; exact Array.getElem?_eq_getElem _⟩, fun j hj => by simp at hj, fun j => by rw [World.frozen?_alloc_at (hn := rfl)]⟩
/-- what the loop that fills the cells answers -/
def AllPost (w : World) (n : Nat) (m : Int × List Int) (e : Ending) (w' : World) : Prop :=
  Below w.heap.size w w' ∧ ((m.1 = 0 ∧ ∃ g, e = .returned (.slice (some ⟨g, 0, none⟩) n n) ∧ w.heap.size ≤ g ∧ Out w' g n m.2) ∨ (m.1 ≠ 0 ∧ e = .panicked [{ v := wrongV m.1, recovered := false }]))
end Ar
end Go.Proofs.YtaelfhjdmljblaaGreatDoor
/-
The loop that fills a new block with what a closure returns, or raises the first error (chapter 10).
-/
set_option linter.unusedSimpArgs false
set_option linter.unusedVariables false
namespace Go.Proofs.YtaelfhjdmljblaaGreatDoor
namespace Ar
open Go.RowKit Sc
end Ar
end Go.Proofs.YtaelfhjdmljblaaGreatDoor
/-
extend.One: its contract (chapter 10).
-/
set_option linter.unusedSimpArgs false
set_option linter.unusedVariables false
namespace Go.Proofs.YtaelfhjdmljblaaGreatDoor
namespace Ar
open Go.RowKit Sc
/-- what a function hands back that answers an array and an error: the array's cells lie in a new block -/
def ArrRet (w : World) (r : Int × Arr) (e : Ending) (w' : World) : Prop :=
  Below w.heap.size w w' ∧ ∃ (A : Option Addr) (c : Nat), e = .returned (.tuple #[.agg #[.int .i64 r.2.k, .int .i64 r.2.r, .int .i64 r.2.l0, .int .i64 r.2.l1, .slice A r.2.xs.length c], .int .i64 r.1]) ∧ Sl w' A r.2.xs ∧ (∀ g o, A = some ⟨g, o, none⟩ → w.heap.size ≤ g) ∧ r.2.xs.length ≤ c
theorem bl_set {a b : World} (h : Below a.heap.size a b) {q : Addr} (hq : a.heap.size ≤ q.block) (u : Value) : Below a.heap.size a (b.setCell q u) := h.setCell hq u
theorem Out.far {w : World} {g n : Nat} {ys : List Int} (h : Out w g n ys) {q : Addr} (hq : q.block ≠ g) (u : Value) : Out (w.setCell q u) g n ys :=
  ⟨by simpa [World.setCell] using h.1, fun j hj => (h.2.1 j hj).imp fun v hv => (World.cell?_setCell_other _ _ _ _ (fun e => hq (congrArg Addr.block e))).trans hv,
    fun j hj => (World.cell?_setCell_other _ _ _ _ (fun e => hq (congrArg Addr.block e))).trans (h.2.2.1 j hj), fun j => (World.frozen?_setCell _ _ _ _).trans (h.2.2.2 j)⟩
theorem arr_zero {w w' : World} (er : Int) (hb : Below w.heap.size w w') :
    ArrRet w (er, .zero) (.returned (.tuple #[.agg #[.int .i64 0, .int .i64 0, .int .i64 0, .int .i64 0, .slice none 0 0], .int .i64 er])) w' :=
  ⟨hb, none, 0, rfl, Sl.nil _ _, (fun _ _ h => by cases h), Nat.le_refl _⟩
end Ar
end Go.Proofs.YtaelfhjdmljblaaGreatDoor
/-
extend.One where a cell has an error: its contract (chapter 10).
-/
set_option linter.unusedSimpArgs false
set_option linter.unusedVariables false
namespace Go.Proofs.YtaelfhjdmljblaaGreatDoor
namespace Ar
open Go.RowKit Sc
/-- what is known where a region ends in a panic: the deferred calls, and two slots -/
def PanicPost (D : List Deferred) (x y : Nat) (p q : Value) (er : Int) (W : World) : Exit → Act → World → Prop
  | .panic c, a, w => c = [{ v := wrongV er, recovered := false }] ∧ a.defers = D ∧ a.tmps.getD x undef = p ∧ a.tmps.getD y undef = q ∧ Below W.heap.size W w
  | _, _, _ => False
theorem put_getD {T : Array Value} {d x : Nat} (v : Value) (h : d ≠ x) : (T.setIfInBounds d v).getD x undef = T.getD x undef := by
  simp [Array.getD_eq_getD_getElem?, Array.getElem?_setIfInBounds, h]
theorem PanicPost.put {D : List Deferred} {x y : Nat} {p q : Value} {er : Int} {W : World} {c : List PanicEntry} {a : Act} {d : Nat} {v : Value} {w : World} (hx : d ≠ x) (hy : d ≠ y)
    (h : PanicPost D x y p q er W (.panic c) (a.put (some d) v) w) : PanicPost D x y p q er W (.panic c) a w := by
  obtain ⟨h1, h2, h3, h4, h5⟩ := h
  exact ⟨h1, h2, (put_getD v hx).symm.trans h3, (put_getD v hy).symm.trans h4, h5⟩
end Ar
end Go.Proofs.YtaelfhjdmljblaaGreatDoor
