/-
Contracts of the methods div and mod of scalars.number (chapter 9), and of the comparisons.
-/
import Derived.Test.YtfpnafeildigaaaScA
set_option linter.unusedSimpArgs false
set_option linter.unusedVariables false
namespace Go.Proofs.Ytfpnafeildigaaa
namespace Sc
open Go.RowKit Go.Lib

theorem div_zero (x : Int) (w : World) : Calls Try.prog 121 #[.int .i64 x, .int .i64 0] w fun e w' => e = ret2 (0, 13) ∧ w = w' := by
  go_enter Try.func121, Try.ntmps121
  go_wp2
  go_ret2
  exact ⟨rfl, rfl⟩
theorem div_minus (x : Int) (hx : Fits x) (w : World) : Calls Try.prog 121 #[.int .i64 x, .int .i64 (-1)] w fun e w' => e = ret2 (chk (-x)) ∧ w = w' := by
  go_enter Try.func121, Try.ntmps121
  go_wp2_with (go_at_call 115; refine (neg_any x hx _).mono ?_; rintro e w' ⟨rfl, rfl⟩)
  go_ret2
  exact ⟨rfl, rfl⟩
theorem div_else (x y : Int) (hx : Fits x) (hy : Fits y) (h0 : y ≠ 0) (h1 : y ≠ -1) (w : World) : Calls Try.prog 121 #[.int .i64 x, .int .i64 y] w fun e w' => e = ret2 (x.fdiv y, 0) ∧ w = w' := by
  have c0 : (y == 0) = false := by simpa using h0
  have c1 : (y == -1) = false := by simpa using h1
  have HT : Hid (TM x y (x.tdiv y) (x.tmod y)) := tm_of h0
  have HF := hide (tm_fits hx h0 h1 HT.out)
  have hq : IntKind.i64.wrap (x.tdiv y) = x.tdiv y := IntWalk.i64_in _ (by rcases HF.out with h | h <;> exact h.1)
  have hm : wrap64 (x.tdiv y * y) = x.tdiv y * y := IntWalk.wrap64_in _ (tm_mul hx hy HT.out)
  by_cases e : x.tdiv y * y = x
  · have H := hide (div_same (x := x) h0 (Or.inl e))
    unfold Fits at hx hy
    go_enter Try.func121, Try.ntmps121
    go_wp2
    go_ret2
    exact ⟨ret2_eq H.out, rfl⟩
  · by_cases a : x < 0 <;> by_cases b : y < 0
    · have H := hide (div_same (x := x) h0 (Or.inr (Or.inl ⟨a, b⟩)))
      unfold Fits at hx hy
      go_enter Try.func121, Try.ntmps121
      go_wp2
      go_ret2
      exact ⟨ret2_eq H.out, rfl⟩
    · have H := hide (div_down hx h0 h1 e (Or.inl ⟨a, by omega⟩))
      unfold Fits at hx hy
      go_enter Try.func121, Try.ntmps121
      go_wp2
      go_ret2
      exact ⟨ret2_eq H.out, rfl⟩
    · have H := hide (div_down hx h0 h1 e (Or.inr ⟨by omega, b⟩))
      unfold Fits at hx hy
      go_enter Try.func121, Try.ntmps121
      go_wp2
      go_ret2
      exact ⟨ret2_eq H.out, rfl⟩
    · have H := hide (div_same (x := x) h0 (Or.inr (Or.inr ⟨by omega, by omega⟩)))
      unfold Fits at hx hy
      go_enter Try.func121, Try.ntmps121
      go_wp2
      go_ret2
      exact ⟨ret2_eq H.out, rfl⟩
theorem mod_zero (x : Int) (w : World) : Calls Try.prog 122 #[.int .i64 x, .int .i64 0] w fun e w' => e = ret2 (0, 13) ∧ w = w' := by
  go_enter Try.func122, Try.ntmps122
  go_wp2
  go_ret2
  exact ⟨rfl, rfl⟩
theorem mod_minus (x : Int) (w : World) : Calls Try.prog 122 #[.int .i64 x, .int .i64 (-1)] w fun e w' => e = ret2 (0, 0) ∧ w = w' := by
  go_enter Try.func122, Try.ntmps122
  go_wp2
  go_ret2
  exact ⟨rfl, rfl⟩
theorem mod_else (x y : Int) (hx : Fits x) (hy : Fits y) (h0 : y ≠ 0) (h1 : y ≠ -1) (w : World) : Calls Try.prog 122 #[.int .i64 x, .int .i64 y] w fun e w' => e = ret2 (x.fmod y, 0) ∧ w = w' := by
  have c0 : (y == 0) = false := by simpa using h0
  have c1 : (y == -1) = false := by simpa using h1
  have HR : Hid (Fits (x.tmod y)) := tmod_fits hy h0
  have HX := xor_neg (x.tmod y) y HR.out hy
  have hr : IntKind.i64.wrap (x.tmod y) = x.tmod y := IntWalk.i64_in _ HR.out
  have HS : Hid (x.tmod y < 0 → Fits (x.tmod y)) := fun _ => HR.out
  by_cases a : x.tmod y = 0
  · have c2 : (x.tmod y == 0) = true := by simpa using a
    have c3 : (x.tmod y != 0) = false := by simpa using a
    have A : Hid (x.tmod y = 0) := a
    clear a HX
    unfold Fits at hx hy
    go_enter Try.func122, Try.ntmps122
    go_wp2
    go_ret2
    exact ⟨ret2_eq (mod_same h0 (Or.inl A.out)), rfl⟩
  · have c2 : (x.tmod y == 0) = false := by simpa using a
    have c3 : (x.tmod y != 0) = true := by simpa using a
    by_cases b : (x.tmod y < 0 ∧ 0 ≤ y) ∨ (0 ≤ x.tmod y ∧ y < 0)
    · have hn : bits .xor .i64 (x.tmod y) y < 0 := HX.2 b
      have B : Hid ((x.tmod y < 0 ∧ 0 ≤ y) ∨ (0 ≤ x.tmod y ∧ y < 0)) := b
      have H2 : Hid (x.fmod y = x.tmod y + y) := congrArg Prod.fst (mod_down h0 a b)
      have hs : wrap64 (x.tmod y + y) = x.tmod y + y := IntWalk.wrap64_in _ (by have := fmod_fits (x := x) hy h0; rw [H2.out] at this; exact this)
      clear HX b
      unfold Fits at hx hy
      go_enter Try.func122, Try.ntmps122
      go_wp2
      go_ret2
      exact ⟨ret2_eq (by rw [H2.out, hs]), rfl⟩
    · have hn : 0 ≤ bits .xor .i64 (x.tmod y) y := by
        by_cases hc : bits .xor .i64 (x.tmod y) y < 0
        · exact absurd (HX.1 hc) b
        · omega
      have B : Hid (¬ ((x.tmod y < 0 ∧ 0 ≤ y) ∨ (0 ≤ x.tmod y ∧ y < 0))) := b
      clear HX b
      unfold Fits at hx hy
      go_enter Try.func122, Try.ntmps122
      go_wp2
      go_ret2
      exact ⟨ret2_eq (mod_same h0 (by have := B.out; omega)), rfl⟩
theorem div_all (x y : Int) (hx : Fits x) (hy : Fits y) (w : World) : Calls Try.prog 121 #[.int .i64 x, .int .i64 y] w fun e w' => e = ret2 (two 18 x y) ∧ w = w' := by
  by_cases h0 : y = 0
  · subst h0; exact div_zero x w
  · have e : two 18 x y = chk (x.fdiv y) := by unfold two; simp [h0]
    rw [e]
    by_cases h1 : y = -1
    · subst h1; rw [fdiv_minus]; exact div_minus x hx w
    · rw [chk_in (fdiv_fits hx h0 h1)]; exact div_else x y hx hy h0 h1 w
theorem mod_all (x y : Int) (hx : Fits x) (hy : Fits y) (w : World) : Calls Try.prog 122 #[.int .i64 x, .int .i64 y] w fun e w' => e = ret2 (two 19 x y) ∧ w = w' := by
  by_cases h0 : y = 0
  · subst h0; exact mod_zero x w
  · have e : two 19 x y = (x.fmod y, 0) := by unfold two; simp [h0]
    rw [e]
    by_cases h1 : y = -1
    · subst h1; rw [fmod_minus]; exact mod_minus x w
    · exact mod_else x y hx hy h0 h1 w
theorem eq_any (x y : Int) (hx : Fits x) (hy : Fits y) (w : World) : Calls Try.prog 126 #[.int .i64 x, .int .i64 y] w fun e w' => e = ret2 (tr (x == y), 0) ∧ w = w' := by
  go_enter Try.func126, Try.ntmps126
  go_wp2_with (go_at_call 140; refine (truth_any _ _).mono ?_; rintro e w' ⟨rfl, rfl⟩)
  go_ret2
  exact ⟨rfl, rfl⟩
theorem ne_any (x y : Int) (hx : Fits x) (hy : Fits y) (w : World) : Calls Try.prog 127 #[.int .i64 x, .int .i64 y] w fun e w' => e = ret2 (tr (x != y), 0) ∧ w = w' := by
  go_enter Try.func127, Try.ntmps127
  go_wp2_with (go_at_call 140; refine (truth_any _ _).mono ?_; rintro e w' ⟨rfl, rfl⟩)
  go_ret2
  exact ⟨rfl, rfl⟩
theorem lt_any (x y : Int) (hx : Fits x) (hy : Fits y) (w : World) : Calls Try.prog 128 #[.int .i64 x, .int .i64 y] w fun e w' => e = ret2 (tr (decide (x < y)), 0) ∧ w = w' := by
  go_enter Try.func128, Try.ntmps128
  go_wp2_with (go_at_call 140; refine (truth_any _ _).mono ?_; rintro e w' ⟨rfl, rfl⟩)
  go_ret2
  exact ⟨rfl, rfl⟩
theorem le_any (x y : Int) (hx : Fits x) (hy : Fits y) (w : World) : Calls Try.prog 129 #[.int .i64 x, .int .i64 y] w fun e w' => e = ret2 (tr (decide (x ≤ y)), 0) ∧ w = w' := by
  go_enter Try.func129, Try.ntmps129
  go_wp2_with (go_at_call 140; refine (truth_any _ _).mono ?_; rintro e w' ⟨rfl, rfl⟩)
  go_ret2
  exact ⟨rfl, rfl⟩
theorem gt_any (x y : Int) (hx : Fits x) (hy : Fits y) (w : World) : Calls Try.prog 130 #[.int .i64 x, .int .i64 y] w fun e w' => e = ret2 (tr (decide (y < x)), 0) ∧ w = w' := by
  go_enter Try.func130, Try.ntmps130
  go_wp2_with (go_at_call 140; refine (truth_any _ _).mono ?_; rintro e w' ⟨rfl, rfl⟩)
  go_ret2
  exact ⟨rfl, rfl⟩
theorem ge_any (x y : Int) (hx : Fits x) (hy : Fits y) (w : World) : Calls Try.prog 131 #[.int .i64 x, .int .i64 y] w fun e w' => e = ret2 (tr (decide (y ≤ x)), 0) ∧ w = w' := by
  go_enter Try.func131, Try.ntmps131
  go_wp2_with (go_at_call 140; refine (truth_any _ _).mono ?_; rintro e w' ⟨rfl, rfl⟩)
  go_ret2
  exact ⟨rfl, rfl⟩
theorem and_any (x y : Int) (hx : Fits x) (hy : Fits y) (w : World) : Calls Try.prog 132 #[.int .i64 x, .int .i64 y] w fun e w' => e = ret2 (tr (x != 0 && y != 0), 0) ∧ w = w' := by
  go_enter Try.func132, Try.ntmps132
  go_wp2_with (go_at_call 140; refine (truth_any _ _).mono ?_; rintro e w' ⟨rfl, rfl⟩)
  all_goals
    go_ret2
    exact ⟨ret2_eq (by simp [*]), rfl⟩
theorem or_any (x y : Int) (hx : Fits x) (hy : Fits y) (w : World) : Calls Try.prog 133 #[.int .i64 x, .int .i64 y] w fun e w' => e = ret2 (tr (x != 0 || y != 0), 0) ∧ w = w' := by
  go_enter Try.func133, Try.ntmps133
  go_wp2_with (go_at_call 140; refine (truth_any _ _).mono ?_; rintro e w' ⟨rfl, rfl⟩)
  go_ret2
  exact ⟨ret2_eq (by rw [or_test hx hy]), rfl⟩
theorem min_any (x y : Int) (w : World) : Calls Try.prog 134 #[.int .i64 x, .int .i64 y] w fun e w' => e = ret2 (min x y, 0) ∧ w = w' := by
  go_enter Try.func134, Try.ntmps134
  go_wp2
  all_goals
    go_ret2
    exact ⟨ret2_eq (by congr 1; omega), rfl⟩
theorem max_any (x y : Int) (w : World) : Calls Try.prog 135 #[.int .i64 x, .int .i64 y] w fun e w' => e = ret2 (max x y, 0) ∧ w = w' := by
  go_enter Try.func135, Try.ntmps135
  go_wp2
  all_goals
    go_ret2
    exact ⟨ret2_eq (by congr 1; omega), rfl⟩
theorem not_any (x : Int) (w : World) : Calls Try.prog 117 #[.int .i64 x] w fun e w' => e = ret2 (tr (x == 0), 0) ∧ w = w' := by
  go_enter Try.func117, Try.ntmps117
  go_wp2_with (go_at_call 140; refine (truth_any _ _).mono ?_; rintro e w' ⟨rfl, rfl⟩)
  go_ret2
  exact ⟨rfl, rfl⟩
#print axioms div_else
end Sc
end Go.Proofs.Ytfpnafeildigaaa
