/-
What ExprTree and ExprTogether say of the order of evaluation, plainly.
-/
import Derived.Test.YtpkldfkmokeamaaGreatDoorXa1
set_option linter.unusedSimpArgs false
set_option linter.unusedVariables false
namespace Go.Proofs.YtpkldfkmokeamaaGreatDoor
namespace Ex
/-- the places with a property, from the last to the first -/
def down (n : Nat) (f : Nat → Bool) : List Nat := ((List.range n).filter f).reverse
theorem down_mem {n p : Nat} {f : Nat → Bool} : p ∈ down n f ↔ p < n ∧ f p = true := by simp [down]
theorem down_pair (n : Nat) (f : Nat → Bool) : (down n f).Pairwise (fun a b => b < a) := by
  rw [down, List.pairwise_reverse]
  exact List.pairwise_lt_range.filter _
theorem down_lt {n : Nat} {f : Nat → Bool} {a b : Nat} {p q : Nat} (ha : (down n f)[a]? = some p) (hb : (down n f)[b]? = some q) (h : a < b) : q < p := by
  obtain ⟨ka, rfl⟩ := List.getElem?_eq_some_iff.1 ha
  obtain ⟨kb, rfl⟩ := List.getElem?_eq_some_iff.1 hb
  exact List.pairwise_iff_getElem.1 (down_pair n f) a b ka kb h
theorem down_le {n : Nat} {f : Nat → Bool} {a b : Nat} {p q : Nat} (ha : (down n f)[a]? = some p) (hb : (down n f)[b]? = some q) (h : p < q) : b < a := by
  rcases Nat.lt_trichotomy a b with h1 | h1 | h1
  · have := down_lt ha hb h1; omega
  · subst h1; rw [ha] at hb; cases hb; omega
  · exact h1
theorem down_inj {n : Nat} {f : Nat → Bool} {a b : Nat} {p : Nat} (ha : (down n f)[a]? = some p) (hb : (down n f)[b]? = some p) : a = b := by
  rcases Nat.lt_trichotomy a b with h1 | h1 | h1
  · have := down_lt ha hb h1; omega
  · exact h1
  · have := down_lt hb ha h1; omega
theorem range_split {n : Nat} (f : Nat → Bool) {a e : Nat} (h1 : a ≤ e) (h2 : e ≤ n) :
    down n f = ((List.range' e (n - e)).filter f).reverse ++ (((List.range' a (e - a)).filter f).reverse ++ (down a f)) := by
  rw [down, down, ← List.reverse_append, ← List.reverse_append, ← List.filter_append, ← List.filter_append]
  congr 2
  rw [List.range_eq_range', List.range_eq_range']
  have e1 : List.range' 0 n = List.range' 0 a ++ (List.range' a (e - a) ++ List.range' e (n - e)) := by
    have h3 : List.range' a (e - a) ++ List.range' e (n - e) = List.range' a (n - a) := by
      have := @List.range'_append_1 a (e - a) (n - e)
      rw [show a + (e - a) = e by omega] at this
      rw [this]; congr 1; omega
    rw [h3]
    have := @List.range'_append_1 0 a (n - a)
    rw [Nat.zero_add] at this
    rw [this]; congr 1; omega
  rw [e1, List.append_assoc]
/-- the round of ExprTogether: how many, the first, the last -/
def tog (lo hi : Nat) : List Nat → Nat → Nat × Nat × Int → Nat × Nat × Int
  | [], _, s => s
  | p :: l, i, (m, f, la) => tog lo hi l (i + 1) (if lo ≤ p ∧ p < hi then (m + 1, (if i < f then i else f), (i : Int)) else (m, f, la))
theorem tog_out {lo hi : Nat} : ∀ (l : List Nat) (i : Nat) (s : Nat × Nat × Int), (∀ p ∈ l, ¬ (lo ≤ p ∧ p < hi)) → tog lo hi l i s = s
  | [], _, _, _ => rfl
  | p :: l, i, (m, f, la), h => by
    rw [tog, if_neg (h p (List.mem_cons_self ..)), tog_out l _ _ fun q hq => h q (List.mem_cons_of_mem _ hq)]
theorem tog_append {lo hi : Nat} : ∀ (l r : List Nat) (i : Nat) (s : Nat × Nat × Int), tog lo hi (l ++ r) i s = tog lo hi r (i + l.length) (tog lo hi l i s)
  | [], r, i, s => rfl
  | p :: l, r, i, (m, f, la) => by
    rw [List.cons_append, tog, tog, tog_append l r, List.length_cons]
    congr 1; omega
theorem tog_in {lo hi : Nat} : ∀ (l : List Nat) (i m f : Nat) (la : Int), (∀ p ∈ l, lo ≤ p ∧ p < hi) → f ≤ i → l ≠ [] → tog lo hi l i (m, f, la) = (m + l.length, f, (i + l.length : Int) - 1)
  | [], _, _, _, _, _, _, h => absurd rfl h
  | [p], i, m, f, la, h, hf, _ => by
    rw [tog, if_pos (h p (List.mem_cons_self ..)), if_neg (by omega), tog]
    simp
  | p :: q :: l, i, m, f, la, h, hf, _ => by
    rw [tog, if_pos (h p (List.mem_cons_self ..)), if_neg (by omega), tog_in (q :: l) (i + 1) (m + 1) f _ (fun r hr => h r (List.mem_cons_of_mem _ hr)) (by omega) (by simp)]
    simp only [List.length_cons, Prod.mk.injEq, true_and]
    constructor <;> omega
theorem tog_all {lo hi : Nat} : ∀ (l : List Nat) (i m f : Nat) (la : Int), (∀ p ∈ l, lo ≤ p ∧ p < hi) → i < f → l ≠ [] → tog lo hi l i (m, f, la) = (m + l.length, i, (i + l.length : Int) - 1)
  | [], _, _, _, _, _, _, h => absurd rfl h
  | [p], i, m, f, la, h, hf, _ => by
    rw [tog, if_pos (h p (List.mem_cons_self ..)), if_pos hf, tog]
    simp
  | p :: q :: l, i, m, f, la, h, hf, _ => by
    rw [tog, if_pos (h p (List.mem_cons_self ..)), if_pos hf, tog_in (q :: l) (i + 1) (m + 1) i _ (fun r hr => h r (List.mem_cons_of_mem _ hr)) (by omega) (by simp)]
    simp only [List.length_cons, Prod.mk.injEq, true_and]
    constructor <;> omega
/-- the nodes of a subtree stand together, its own node as the last -/
theorem together {n : Nat} {f : Nat → Bool} {a e : Nat} (h1 : a < e) (h2 : e ≤ n) (ha : f a = true) :
    ∃ m fi la : Nat, tog a e (down n f) 0 (0, (down n f).length, -1) = (m, fi, (la : Int)) ∧ (down n f)[la]? = some a ∧ (la : Int) - fi + 1 = m := by
  rw [range_split f (Nat.le_of_lt h1) h2]
  generalize hA : ((List.range' e (n - e)).filter f).reverse = A
  generalize hC : down a f = C
  have eB : ((List.range' a (e - a)).filter f).reverse = ((List.range' (a + 1) (e - a - 1)).filter f).reverse ++ [a] := by
    rw [show e - a = (e - a - 1) + 1 by omega, List.range'_succ, List.filter_cons, ha, if_pos rfl, List.reverse_cons]
    rfl
  rw [eB]
  generalize hD : ((List.range' (a + 1) (e - a - 1)).filter f).reverse = D
  have mA : ∀ p ∈ A, ¬ (a ≤ p ∧ p < e) := by
    intro p hp
    rw [← hA, List.mem_reverse, List.mem_filter, List.mem_range'_1] at hp
    omega
  have mC : ∀ p ∈ C, ¬ (a ≤ p ∧ p < e) := by
    intro p hp
    rw [← hC, down_mem] at hp
    omega
  have mB : ∀ p ∈ D ++ [a], a ≤ p ∧ p < e := by
    intro p hp
    rcases List.mem_append.1 hp with hp | hp
    · rw [← hD, List.mem_reverse, List.mem_filter, List.mem_range'_1] at hp
      omega
    · rw [List.mem_singleton] at hp; omega
  refine ⟨D.length + 1, A.length, A.length + D.length, ?_, ?_, by omega⟩
  · rw [tog_append, tog_append, tog_out A _ _ mA, tog_all (D ++ [a]) _ _ _ _ mB (by simp; omega) (by simp), tog_out C _ _ mC]
    simp only [List.length_append, List.length_singleton, Prod.mk.injEq]
    refine ⟨by omega, by omega, by omega⟩
  · rw [List.getElem?_append_right (by omega), Nat.add_sub_cancel_left, List.append_assoc, List.getElem?_append_right (Nat.le_refl _), Nat.sub_self]
    rfl
end Ex
end Go.Proofs.YtpkldfkmokeamaaGreatDoor
