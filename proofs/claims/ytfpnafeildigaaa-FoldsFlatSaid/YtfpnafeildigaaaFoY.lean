/-
The plain law of FoldsBounds (chapter 11).
-/
import Derived.Test.YtfpnafeildigaaaFoW
import Derived.Test.YtfpnafeildigaaaBb4
set_option linter.unusedSimpArgs false
set_option linter.unusedVariables false
namespace Go.Proofs.Ytfpnafeildigaaa
namespace Ar
open Go.RowKit Sc
theorem fold31 : ∀ (xs : List Int) (x : Int), (xs.foldl (fun n y => (two 31 n y).1) x = x ∨ xs.foldl (fun n y => (two 31 n y).1) x ∈ xs) ∧ xs.foldl (fun n y => (two 31 n y).1) x ≤ x ∧ ∀ y ∈ xs, xs.foldl (fun n y => (two 31 n y).1) x ≤ y
  | [], x => ⟨Or.inl rfl, Int.le_refl _, fun y h => by cases h⟩
  | z :: xs, x => by
    obtain ⟨h1, h2, h3⟩ := fold31 xs (min x z)
    rw [List.foldl_cons, show (two 31 x z).1 = min x z from rfl]
    generalize xs.foldl (fun n y => (two 31 n y).1) (min x z) = v at *
    refine ⟨?_, by omega, fun y hy => ?_⟩
    · rcases h1 with h1 | h1
      · by_cases q : x ≤ z
        · left; omega
        · right; rw [show v = z by omega]; exact List.mem_cons_self
      · right; exact List.mem_cons_of_mem _ h1
    · rcases List.mem_cons.1 hy with h | h
      · omega
      · exact h3 y h
theorem fold32 : ∀ (xs : List Int) (x : Int), (xs.foldl (fun n y => (two 32 n y).1) x = x ∨ xs.foldl (fun n y => (two 32 n y).1) x ∈ xs) ∧ x ≤ xs.foldl (fun n y => (two 32 n y).1) x ∧ ∀ y ∈ xs, y ≤ xs.foldl (fun n y => (two 32 n y).1) x
  | [], x => ⟨Or.inl rfl, Int.le_refl _, fun y h => by cases h⟩
  | z :: xs, x => by
    obtain ⟨h1, h2, h3⟩ := fold32 xs (max x z)
    rw [List.foldl_cons, show (two 32 x z).1 = max x z from rfl]
    generalize xs.foldl (fun n y => (two 32 n y).1) (max x z) = v at *
    refine ⟨?_, by omega, fun y hy => ?_⟩
    · rcases h1 with h1 | h1
      · by_cases q : z ≤ x
        · left; omega
        · right; rw [show v = z by omega]; exact List.mem_cons_self
      · right; exact List.mem_cons_of_mem _ h1
    · rcases List.mem_cons.1 hy with h | h
      · omega
      · exact h3 y h
theorem end31 {row : List Int} (h : row ≠ []) : (endRow 31 row).2 = 0 ∧ (endRow 31 row).1 ∈ row ∧ ∀ y ∈ row, (endRow 31 row).1 ≤ y := by
  cases row with
  | nil => exact absurd rfl h
  | cons x xs =>
    obtain ⟨h1, h2, h3⟩ := fold31 xs x
    refine ⟨rfl, ?_, fun y hy => ?_⟩
    · show xs.foldl _ x ∈ _
      rcases h1 with h1 | h1
      · rw [h1]; exact List.mem_cons_self
      · exact List.mem_cons_of_mem _ h1
    · show xs.foldl _ x ≤ _
      rcases List.mem_cons.1 hy with e | e
      · rw [e]; exact h2
      · exact h3 y e
theorem end32 {row : List Int} (h : row ≠ []) : (endRow 32 row).2 = 0 ∧ (endRow 32 row).1 ∈ row ∧ ∀ y ∈ row, y ≤ (endRow 32 row).1 := by
  cases row with
  | nil => exact absurd rfl h
  | cons x xs =>
    obtain ⟨h1, h2, h3⟩ := fold32 xs x
    refine ⟨rfl, ?_, fun y hy => ?_⟩
    · show xs.foldl _ x ∈ _
      rcases h1 with h1 | h1
      · rw [h1]; exact List.mem_cons_self
      · exact List.mem_cons_of_mem _ h1
    · show _ ≤ xs.foldl _ x
      rcases List.mem_cons.1 hy with e | e
      · rw [e]; exact h2
      · exact h3 y e
theorem end31_eq {row : List Int} {v : Int} (h1 : v ∈ row) (h2 : ∀ y ∈ row, v ≤ y) : endRow 31 row = (v, 0) := by
  obtain ⟨e1, e2, e3⟩ := end31 (row := row) (by rintro rfl; cases h1)
  exact Prod.ext (by have := e3 v h1; have := h2 _ e2; show (endRow 31 row).1 = v; omega) e1
theorem end32_eq {row : List Int} {v : Int} (h1 : v ∈ row) (h2 : ∀ y ∈ row, y ≤ v) : endRow 32 row = (v, 0) := by
  obtain ⟨e1, e2, e3⟩ := end32 (row := row) (by rintro rfl; cases h1)
  exact Prod.ext (by have := e3 v h1; have := h2 _ e2; show (endRow 32 row).1 = v; omega) e1
theorem mem_part {xs : List Int} {q n : Nat} (h : q + n ≤ xs.length) (y : Int) : y ∈ (xs.drop q).take n ↔ ∃ k, k < n ∧ xs.getD (q + k) 0 = y := by
  rw [List.mem_iff_getElem]
  constructor
  · rintro ⟨k, hk, e⟩
    rw [part_len h] at hk
    refine ⟨k, hk, ?_⟩
    rw [← e, List.getElem_take, List.getElem_drop, List.getD_eq_getElem?_getD, List.getElem?_eq_getElem (by omega)]; rfl
  · rintro ⟨k, hk, e⟩
    refine ⟨k, by rw [part_len h]; exact hk, ?_⟩
    rw [← e, List.getElem_take, List.getElem_drop, List.getD_eq_getElem?_getD, List.getElem?_eq_getElem (by omega)]; rfl
end Ar
end Go.Proofs.Ytfpnafeildigaaa
