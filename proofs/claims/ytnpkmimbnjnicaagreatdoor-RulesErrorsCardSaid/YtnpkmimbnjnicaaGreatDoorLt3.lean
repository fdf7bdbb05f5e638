/-
The reference of chapter 3: Below, ordered, downs, nearest, Check, asked, Leq.
-/
import Derived.Test.YtnpkmimbnjnicaaGreatDoorLt2
set_option linter.unusedSimpArgs false
set_option linter.unusedVariables false
namespace Go.Proofs.YtnpkmimbnjnicaaGreatDoor
namespace Pr
open Go Go.RowKit En
open Lt
def allFtL (Q : Nat → Prop) : Hp → Prop
  | [] => True
  | (_, c) :: l => (∀ b, foot c b → Q b) ∧ allFtL Q l
theorem foot_lookL {Q : Nat → Prop} {l : Hp} (h : allFtL Q l) {k b : Nat} (hf : foot (lookH l k) b) : Q b := by
  induction l with
  | nil => exact hf.elim
  | cons x l ih =>
    obtain ⟨i, c⟩ := x
    simp only [lookH] at hf
    cases e : i == k
    · rw [e] at hf; exact ih h.2 hf
    · rw [e] at hf; exact h.1 b hf
def byR (A : Option Addr) (n c : Nat) : Ch → Prop
  | .ints A' c' .u8 us => A = A' ∧ n = us.length ∧ c = c' ∧ Bytes us
  | _ => False
theorem byR_q {A A' : Option Addr} {n c c' : Nat} {us : List Int} : byR A n c (.ints A' c' .u8 us) = (A = A' ∧ n = us.length ∧ c = c' ∧ Bytes us) := (rfl)
theorem byR_of {A : Option Addr} {n c : Nat} {x : Ch} (h : byR A n c x) : x = .ints A c .u8 (latU x) ∧ n = (latU x).length ∧ Bytes (latU x) := by
  unfold byR at h
  split at h
  · obtain ⟨rfl, rfl, rfl, h⟩ := h; exact ⟨rfl, rfl, h⟩
  · exact h.elim
end Pr
end Go.Proofs.YtnpkmimbnjnicaaGreatDoor
/-
The reference of chapter 3: ordered, Check, asked, Leq.
-/
set_option linter.unusedSimpArgs false
set_option linter.unusedVariables false
namespace Go.Proofs.YtnpkmimbnjnicaaGreatDoor
namespace Pr
open Go Go.RowKit En
open Lt
end Pr
end Go.Proofs.YtnpkmimbnjnicaaGreatDoor
