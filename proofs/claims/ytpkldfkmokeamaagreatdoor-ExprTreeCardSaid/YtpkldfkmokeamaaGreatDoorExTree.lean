/-
What ExprTree and ExprTogether say of the order of evaluation, plainly.
-/
import Derived.Test.YtpkldfkmokeamaaGreatDoorXa1
set_option linter.unusedSimpArgs false
set_option linter.unusedVariables false
namespace Go.Proofs.YtpkldfkmokeamaaGreatDoor
namespace Ex
/-- the places with a property, from the last to the first -/
def down (n : Nat) (f : Nat → Bool) : List Nat := ((List.range n).filter f).reverse
theorem down_mem {n p : Nat} {f : Nat → Bool} : p ∈ down n f ↔ p < n ∧ f p = true := by simp [down]
theorem down_pair (n : Nat) (f : Nat → Bool) : (down n f).Pairwise (fun a b => b < a) := by
  rw [down, List.pairwise_reverse]
  exact List.pairwise_lt_range.filter _
theorem down_lt {n : Nat} {f : Nat → Bool} {a b : Nat} {p q : Nat} (ha : (down n f)[a]? = some p) (hb : (down n f)[b]? = some q) (h : a < b) : q < p := by
  obtain ⟨ka, rfl⟩ := List.getElem?_eq_some_iff.1 ha
  obtain ⟨kb, rfl⟩ := List.getElem?_eq_some_iff.1 hb
  exact List.pairwise_iff_getElem.1 (down_pair n f) a b ka kb h
theorem down_le {n : Nat} {f : Nat → Bool} {a b : Nat} {p q : Nat} (ha : (down n f)[a]? = some p) (hb : (down n f)[b]? = some q) (h : p < q) : b < a := by
  rcases Nat.lt_trichotomy a b with h1 | h1 | h1
  · have := down_lt ha hb h1; omega
  · subst h1; rw [ha] at hb; cases hb; omega
  · exact h1
theorem down_inj {n : Nat} {f : Nat → Bool} {a b : Nat} {p : Nat} (ha : (down n f)[a]? = some p) (hb : (down n f)[b]? = some p) : a = b := by
  rcases Nat.lt_trichotomy a b with h1 | h1 | h1
  · have := down_lt ha hb h1; omega
  · exact h1
  · have := down_lt hb ha h1; omega
end Ex
end Go.Proofs.YtpkldfkmokeamaaGreatDoor
