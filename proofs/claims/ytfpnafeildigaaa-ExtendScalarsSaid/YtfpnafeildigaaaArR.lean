/-
The deferred function that catches the error of a cell: its two contracts; words for a block that is filled cell by cell (chapter 10).
-/
import Derived.Test.YtfpnafeildigaaaArE
import Derived.Recover
import Derived.Defers
import Derived.RegionTactic
import Derived.BigRegion
set_option linter.unusedSimpArgs false
set_option linter.unusedVariables false
namespace Go.Proofs.Ytfpnafeildigaaa
namespace Ar
open Go.RowKit Sc

theorem caught_idle (p q : Value) (w : World) :
    CallsD Try.prog 60 #[p, q] .returning w fun e u' w' => e = .returned (.tuple #[]) ∧ u' = .returning ∧ w = w' := by
  refine callsD_of_wpS Try.func60 rfl fun c₀ cs hu => ?_
  simp only [Try.ntmps60, List.size_toArray, List.length_cons, List.length_nil, Nat.reduceAdd, Nat.reduceSub, Array.replicate_succ, Array.replicate_zero, List.push_toArray, List.append_toArray, List.nil_append, List.cons_append]
  apply wpS_seq
  apply wpS_region
  simp [wpOpsS, go_sem, recoverD, hu, Exit.thenS]
  refine wpS_of_wp ?_
  have he : ∀ w : World, (binOp .eql 20 .nilIface .nilIface).run Try.prog w = .ok (.bool true) w := fun w => by kernel_rfl
  go_wp2
  cases c₀
  simp_all [bodyPostS, results, Try.results60]
/-- the error of a cell, as it is raised -/
abbrev wrongV (e : Int) : Value := .iface 103 (.agg #[.int .i64 e])
/-- the world behind a caught error: no array, and the error -/
def caughtW (w : World) (A E : Nat) (e : Int) : World :=
  (((((((w.setCell ⟨A, 0, none⟩ (.int .i64 0)).setCell ⟨A, 1, none⟩ (.int .i64 0)).setCell ⟨A, 2, none⟩ (.int .i64 0)).setCell ⟨A, 3, none⟩ (.int .i64 0)).setCell ⟨A, 4, none⟩ (.slice none 0 0)).setCell
    ⟨E, 0, none⟩ (.int .i64 e)).alloc (.cells #[.int .i64 e] 103)).drew
set_option maxRecDepth 100000 in
theorem caught_panicking (A E : Nat) (e : Int) (k r l0 l1 : Value) (s : Value) (z : Value) (older : List PanicEntry) (w : World) (hAE : A ≠ E) (hA : A < w.heap.size) (hE : E < w.heap.size)
    (a0 : w.cell? ⟨A, 0, none⟩ = some k) (a1 : w.cell? ⟨A, 1, none⟩ = some r) (a2 : w.cell? ⟨A, 2, none⟩ = some l0) (a3 : w.cell? ⟨A, 3, none⟩ = some l1) (a4 : w.cell? ⟨A, 4, none⟩ = some s)
    (e0 : w.cell? ⟨E, 0, none⟩ = some z) (fa : ∀ i, w.frozen? ⟨A, i, none⟩ = false) (fe : w.frozen? ⟨E, 0, none⟩ = false) :
    CallsD Try.prog 60 #[.pointer (some ⟨A, 0, none⟩), .pointer (some ⟨E, 0, none⟩)] (.panicking ({ v := wrongV e, recovered := false } :: older)) w fun e' u' w' =>
      e' = .returned (.tuple #[]) ∧ u' = .panicking ({ v := wrongV e, recovered := true } :: older) ∧ w' = caughtW w A E e := by
  refine callsD_of_wpS Try.func60 rfl fun c₀ cs hu => ?_
  simp only [Try.ntmps60, List.size_toArray, List.length_cons, List.length_nil, Nat.reduceAdd, Nat.reduceSub, Array.replicate_succ, Array.replicate_zero, List.push_toArray, List.append_toArray, List.nil_append, List.cons_append]
  apply wpS_seq
  apply wpS_region
  simp [wpOpsS, go_sem, recoverD, hu, Exit.thenS]
  refine wpS_of_wp ?_
  have hta : ∀ w : World, (Instr.typeAssert (.iface 103 (.agg #[.int .i64 e])) 20 103 true).run Try.prog w = .ok (.tuple #[.agg #[.int .i64 e], .bool true]) w := fun w => by kernel_rfl
  go_wp2
  go_region
  all_goals go_wp2
  all_goals simp [bodyPostS, results, Try.results60, caughtW]

/-- block g holds n cells, the first of them the numbers ys -/
def Out (w : World) (g n : Nat) (ys : List Int) : Prop :=
  g < w.heap.size ∧ (∀ j, j < n → ∃ v, w.cell? ⟨g, j, none⟩ = some v) ∧ (∀ j, j < ys.length → w.cell? ⟨g, j, none⟩ = some (.int .i64 (ys.getD j 0))) ∧ ∀ j, w.frozen? ⟨g, j, none⟩ = false
theorem Out.below {w w' : World} {g n : Nat} {ys : List Int} (h : Out w g n ys) (hb : Below w.heap.size w w') : Out w' g n ys :=
  ⟨Nat.lt_of_lt_of_le h.1 hb.size, fun j hj => (h.2.1 j hj).imp fun v hv => (hb.cell (p := ⟨g, j, none⟩) h.1).trans hv,
    fun j hj => (hb.cell (p := ⟨g, j, none⟩) h.1).trans (h.2.2.1 j hj), fun j => (hb.frozen (p := ⟨g, j, none⟩) h.1).trans (h.2.2.2 j)⟩
theorem Out.set {w : World} {g n : Nat} {ys : List Int} (h : Out w g n ys) (hn : ys.length < n) (x : Int) : Out (w.setCell ⟨g, ys.length, none⟩ (.int .i64 x)) g n (ys ++ [x]) := by
  obtain ⟨v, hv⟩ := h.2.1 _ hn
  refine ⟨by simpa [World.setCell] using h.1, fun j hj => ?_, fun j hj => ?_, fun j => (World.frozen?_setCell _ _ _ _).trans (h.2.2.2 j)⟩
  · by_cases e : j = ys.length
    · subst e; exact ⟨_, World.cell?_setCell_same _ _ _ hv⟩
    · exact (h.2.1 j hj).imp fun u hu => (World.cell?_setCell_other _ _ _ _ (fun q => e (by injection q with _ q _; exact q.symm))).trans hu
  · by_cases e : j = ys.length
    · subst e; rw [World.cell?_setCell_same _ _ _ hv]; simp
    · have hj' : j < ys.length := by simp at hj; omega
      rw [World.cell?_setCell_other _ _ _ _ (fun q => e (by injection q with _ q _; exact q.symm)), h.2.2.1 j hj']
      simp [List.getD_eq_getElem?_getD, List.getElem?_append_left hj']
theorem Out.sl {w : World} {g : Nat} {ys : List Int} (h : Out w g ys.length ys) : Sl w (some ⟨g, 0, none⟩) ys := fun _ =>
  ⟨g, 0, rfl, h.1, fun j hj => by rw [Nat.zero_add]; exact h.2.2.1 j hj⟩
end Ar
end Go.Proofs.Ytfpnafeildigaaa
