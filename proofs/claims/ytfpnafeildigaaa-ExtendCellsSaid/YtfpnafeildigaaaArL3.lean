/-
The walk of ExtendCells (chapter 10): what is decided first.
-/
import Derived.Test.YtfpnafeildigaaaArL2
set_option linter.unusedSimpArgs false
set_option linter.unusedVariables false
namespace Go.Proofs.Ytfpnafeildigaaa
namespace Ar
open Go.RowKit Sc
/-- is there nothing to be said of these operands? -/
def idle (p : Int) (a b : Arr) : Bool :=
  decide (405 < (a.xs.length : Int)) || (decide (405 < (b.xs.length : Int)) || ((arity p).2 != 0 || ((arity p).1 != 2 || (chk a != 0 || (chk b != 0 || (a.k != 1 || b.k != 1))))))
theorem idle_no {p : Int} {a b : Arr} (h : idle p a b = false) : a.xs.length ≤ 405 ∧ b.xs.length ≤ 405 ∧ arity p = (2, 0) ∧ chk a = 0 ∧ chk b = 0 ∧ a.k = 1 ∧ b.k = 1 := by
  unfold idle at h
  simp only [Bool.or_eq_false_iff, decide_eq_false_iff_not, bne_eq_false_iff_eq] at h
  obtain ⟨h1, h2, h3, h4, h5, h6, h7, h8⟩ := h
  exact ⟨by omega, by omega, Prod.ext h4 h3, h5, h6, h7, h8⟩
/-- how many cells a result has, as the law says it -/
def manyL (a b : Arr) : Nat := if b.r = 0 then a.xs.length else if a.r = 0 then b.xs.length else max a.xs.length b.xs.length
theorem manyL_eq {a b : Arr} (h : (extLens a b).1 = 0) : manyL a b = many a b := by
  obtain ⟨c1, c2⟩ := ext_chk h
  unfold manyL many
  by_cases hb : b.r = 0
  · rw [if_pos hb]
    by_cases ha : a.r = 0
    · rw [if_pos ha]; have := chk_zero c1 ha; have := chk_zero c2 hb; omega
    · rw [if_neg ha]
  · rw [if_neg hb]
    by_cases ha : a.r = 0
    · rw [if_pos ha, if_pos ha]
    · rw [if_neg ha, if_neg ha]; have := (ext_len h ha hb).2.2; omega
theorem ext_err {a b : Arr} (ca : chk a = 0) (cb : chk b = 0) (h : (extLens a b).1 ≠ 0) : (extLens a b).1 = 22 ∨ (extLens a b).1 = 11 := by
  unfold extLens at h ⊢
  rw [if_neg (by rw [chk2_ok ca, cb]; simp)] at h ⊢
  by_cases ha : a.r = 0
  · rw [if_pos ha] at h; exact absurd rfl h
  rw [if_neg ha] at h ⊢
  by_cases hb : b.r = 0
  · rw [if_pos hb] at h; exact absurd rfl h
  rw [if_neg hb] at h ⊢
  by_cases hr : a.r ≠ b.r
  · rw [if_pos hr]; exact .inl rfl
  rw [if_neg hr] at h ⊢
  by_cases hl : a.l0 ≠ b.l0 ∨ a.l1 ≠ b.l1
  · rw [if_pos hl]; exact .inr rfl
  · rw [if_neg hl] at h; exact absurd rfl h
theorem ext_shape {a b : Arr} {r l0 l1 : Int} (h : extLens a b = (0, r, l0, l1)) : shCheck r l0 l1 = 0 ∧ (many a b : Int) = prod r l0 l1 := by
  have h0 : (extLens a b).1 = 0 := by rw [h]
  obtain ⟨c1, c2⟩ := ext_chk h0
  obtain ⟨s1, n1⟩ := chk_sh c1
  obtain ⟨s2, n2⟩ := chk_sh c2
  unfold many
  unfold extLens at h
  rw [if_neg (by rw [chk2_ok c1, c2]; simp)] at h
  by_cases ha : a.r = 0
  · rw [if_pos ha] at h ⊢
    simp only [Prod.mk.injEq, true_and] at h
    obtain ⟨rfl, rfl, rfl⟩ := h
    exact ⟨s2, n2⟩
  · rw [if_neg ha] at h ⊢
    by_cases hb : b.r = 0
    · rw [if_pos hb] at h
      simp only [Prod.mk.injEq, true_and] at h
      obtain ⟨rfl, rfl, rfl⟩ := h
      exact ⟨s1, n1⟩
    · rw [if_neg hb] at h
      by_cases hr : a.r ≠ b.r
      · rw [if_pos hr] at h; cases h
      rw [if_neg hr] at h
      by_cases hl : a.l0 ≠ b.l0 ∨ a.l1 ≠ b.l1
      · rw [if_pos hl] at h; cases h
      · rw [if_neg hl] at h
        simp only [Prod.mk.injEq, true_and] at h
        obtain ⟨rfl, rfl, rfl⟩ := h
        exact ⟨s1, n1⟩
theorem chk_res {r l0 l1 : Int} {ys : List Int} (h : shCheck r l0 l1 = 0) (hn : (ys.length : Int) = prod r l0 l1) : chk ⟨1, r, l0, l1, ys⟩ = 0 := by
  unfold chk
  rw [if_neg (by simp), if_neg (by simpa using h), if_neg (by simpa using hn), if_neg (by simp)]
end Ar
end Go.Proofs.Ytfpnafeildigaaa
