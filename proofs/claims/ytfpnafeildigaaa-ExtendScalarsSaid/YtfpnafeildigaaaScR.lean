/-
Contracts of the reference of chapter 9, and of Arity and Overflows.
-/
import Derived.Test.YtfpnafeildigaaaScB
import Derived.Deep.QuietTactic
import Derived.BigQuiet
set_option linter.unusedSimpArgs false
set_option linter.unusedVariables false
namespace Go.Proofs.Ytfpnafeildigaaa
namespace Sc
open Go.RowKit Go.Lib
namespace Ref

theorem gr_drewN (w : World) (n : Nat) : Gr w (w.drewN n) := ⟨rfl, rfl, rfl, Nat.le_refl _, fun _ _ => rfl⟩
abbrev retIB (z : Int) (b : Bool) : Ending := .returned (.tuple #[.int .i64 z, .bool b])
theorem retIB_eq {z z' : Int} {b b' : Bool} (h : z = z') (k : b = b') : Ending.returned (.tuple #[.int .i64 z, .bool b]) = retIB z' b' := by rw [h, k]
theorem ret_int {a b : Int} (h : a = b) : Ending.returned (.int .i64 a) = .returned (.int .i64 b) := by rw [h]
theorem truth_any (b : Bool) (w : World) : Calls Try.prog 100 #[.bool b] w fun e w' => e = .returned (.int .i64 (tr b)) ∧ w = w' := by
  cases b <;> (go_enter Try.func100, Try.ntmps100; go_wp2; go_ret; exact ⟨rfl, rfl⟩)
theorem sum_in (x y : Int) (hx : Fits x) (hy : Fits y) (h : Fits (x + y)) (w : World) : Calls Try.prog 108 #[.int .i64 x, .int .i64 y] w fun e w' => e = retIB (x + y) true ∧ Gr w w' := by
  unfold Fits at hx hy h
  by_cases a : 0 < y <;> by_cases b : y < 0
  · omega
  all_goals
    go_enter Try.func108, Try.ntmps108
    go_wp2
    go_ret2
    exact ⟨rfl, Gr.refl _⟩
theorem sum_out (x y : Int) (hx : Fits x) (hy : Fits y) (h : ¬ Fits (x + y)) (w : World) : Calls Try.prog 108 #[.int .i64 x, .int .i64 y] w fun e w' => e = retIB 0 false ∧ Gr w w' := by
  unfold Fits at hx hy h
  have h' : x + y < -9223372036854775808 ∨ 9223372036854775807 < x + y := by omega
  clear h
  by_cases a : 0 < y <;> by_cases b : y < 0
  · omega
  · have c : 9223372036854775807 - y < x := by omega
    clear h'
    go_enter Try.func108, Try.ntmps108
    go_wp2
    go_ret2
    exact ⟨rfl, Gr.refl _⟩
  · have c : x < -9223372036854775808 - y := by omega
    clear h'
    go_enter Try.func108, Try.ntmps108
    go_wp2
    go_ret2
    exact ⟨rfl, Gr.refl _⟩
  · omega
theorem product_in (x y : Int) (hx : Fits x) (hy : Fits y) (h : Fits (x * y)) (w : World) : Calls Try.prog 109 #[.int .i64 x, .int .i64 y] w fun e w' => e = retIB (x * y) true ∧ Gr w w' := by
  by_cases a : x = 0
  · subst a
    go_enter Try.func109, Try.ntmps109
    go_wp2
    go_ret2
    exact ⟨by simp, Gr.refl _⟩
  · by_cases b : y = 0
    · subst b
      have a1 : (x == 0) = false := by simpa using a
      go_enter Try.func109, Try.ntmps109
      go_wp2
      go_ret2
      exact ⟨by simp, Gr.refl _⟩
    · have a1 : (x == 0) = false := by simpa using a
      have b1 : (y == 0) = false := by simpa using b
      have e1 : wrap64 (x * y) = x * y := IntWalk.wrap64_in _ h
      have e2 : IntKind.i64.wrap ((x * y).tdiv y) = x := by rw [Int.mul_tdiv_cancel _ b]; exact IntWalk.i64_in _ hx
      have e3 : (x * y).tdiv y = x := Int.mul_tdiv_cancel _ b
      obtain ⟨m1, m2, m3⟩ | ⟨m1, m2, m3⟩ | ⟨m1, m2⟩ := min_ways hx hy h
      all_goals
        clear h
        have hx' := hide hx
        clear hx hy
        go_enter Try.func109, Try.ntmps109
        go_wp2
        go_quiet (fail)
        go_wp2
        go_ret2
        exact ⟨retIB_eq e1 (by rw [IntWalk.wrap64_in _ hx'.out]; simp), gr_drewN _ _⟩
theorem product_out (x y : Int) (hx : Fits x) (hy : Fits y) (h : ¬ Fits (x * y)) (w : World) : Calls Try.prog 109 #[.int .i64 x, .int .i64 y] w fun e w' => ∃ z, e = retIB z false ∧ Gr w w' := by
  have a1 : (x == 0) = false := by rw [beq_eq_false_iff_ne]; rintro rfl; exact h (by unfold Fits; omega)
  have b1 : (y == 0) = false := by rw [beq_eq_false_iff_ne]; rintro rfl; exact h (by unfold Fits; omega)
  by_cases c : x = -9223372036854775808 ∧ y = -1
  · obtain ⟨c1, c2⟩ := c
    have c1' : (x == -9223372036854775808) = true := by rw [beq_iff_eq]; exact c1
    have c2' : (y == -1) = true := by rw [beq_iff_eq]; exact c2
    clear h hx hy c1 c2
    go_enter Try.func109, Try.ntmps109
    go_wp2
    go_ret2
    exact ⟨0, rfl, Gr.refl _⟩
  · have hq : (wrap64 ((wrap64 (x * y)).tdiv y) == x) = false := by rw [beq_eq_false_iff_ne]; exact prod_quo hx hy h c
    have b0 : ¬ y = 0 := by simpa using b1
    have c' : ((x == -9223372036854775808) = true ∧ (y == -1) = false) ∨ (x == -9223372036854775808) = false := by
      simp only [beq_eq_false_iff_ne, beq_iff_eq]; omega
    have d' : ((y == -9223372036854775808) = true ∧ (x == -1) = true) ∨ ((y == -9223372036854775808) = true ∧ (x == -1) = false) ∨ (y == -9223372036854775808) = false := by
      simp only [beq_eq_false_iff_ne, beq_iff_eq]; omega
    clear c h hx hy
    obtain ⟨c1, c2⟩ | c1 := c' <;> obtain ⟨d1, d2⟩ | ⟨d1, d2⟩ | d1 := d'
    all_goals
      go_enter Try.func109, Try.ntmps109
      go_wp2
      first
        | (go_ret2; exact ⟨0, rfl, Gr.refl _⟩)
        | (go_quiet (fail); go_wp2; go_ret2; exact ⟨_, rfl, gr_drewN _ _⟩)
theorem quotient_min (w : World) : Calls Try.prog 110 #[.int .i64 (-9223372036854775808), .int .i64 (-1)] w fun e w' => e = retIB 0 false ∧ Gr w w' := by
  go_enter Try.func110, Try.ntmps110
  go_wp2
  go_ret2
  exact ⟨rfl, Gr.refl _⟩
theorem quotient_else (x y : Int) (hx : Fits x) (hy : Fits y) (h0 : y ≠ 0) (h : ¬ (x = -9223372036854775808 ∧ y = -1)) (w : World) : Calls Try.prog 110 #[.int .i64 x, .int .i64 y] w fun e w' => e = retIB (x.fdiv y) true ∧ Gr w w' := by
  have hm : ((x == -9223372036854775808) = true ∧ (y == -1) = false) ∨ (x == -9223372036854775808) = false := by
    simp only [beq_eq_false_iff_ne, beq_iff_eq]; omega
  have hq : IntKind.i64.wrap (x.tdiv y) = x.tdiv y := IntWalk.i64_in _ (tdiv_fits hx hy h0 h)
  have hr : IntKind.i64.wrap (x.tmod y) = x.tmod y := IntWalk.i64_in _ (tmod_fits hy h0)
  by_cases e : x.tmod y = 0
  · have e1 : (x.tmod y != 0) = false := by simpa using e
    have H := hide (div_same (x := x) h0 (Or.inl (tmod_zero.2 e)))
    clear e h hx hy
    obtain ⟨c1, c2⟩ | c1 := hm
    all_goals
      go_enter Try.func110, Try.ntmps110
      go_wp2
      go_ret2
      exact ⟨retIB_eq (congrArg Prod.fst H.out).symm rfl, Gr.refl _⟩
  · have e1 : (x.tmod y != 0) = true := by simpa using e
    have e2 : ¬ x.tdiv y * y = x := fun h => e (tmod_zero.1 h)
    by_cases a : x < 0 <;> by_cases b : y < 0
    · have H := hide (div_same (x := x) h0 (Or.inr (Or.inl ⟨a, b⟩)))
      clear e e2 h hx hy
      obtain ⟨c1, c2⟩ | c1 := hm
      all_goals
        go_enter Try.func110, Try.ntmps110
        go_wp2
        go_ret2
        exact ⟨retIB_eq (congrArg Prod.fst H.out).symm rfl, Gr.refl _⟩
    · have H := hide (div_down hx h0 (by omega) e2 (Or.inl ⟨a, by omega⟩))
      clear e e2 h hx hy
      obtain ⟨c1, c2⟩ | c1 := hm
      all_goals
        go_enter Try.func110, Try.ntmps110
        go_wp2
        go_ret2
        exact ⟨retIB_eq (congrArg Prod.fst H.out).symm rfl, Gr.refl _⟩
    · by_cases b1 : y = -1
      · exfalso; subst b1; have := (tm_of (x := x) h0).2.1; omega
      have H := hide (div_down hx h0 b1 e2 (Or.inr ⟨by omega, b⟩))
      have e3 : (x % y != 0) = true := by rw [← Int.tmod_eq_emod_of_nonneg (by omega)]; exact e1
      clear e e2 h hx hy
      obtain ⟨c1, c2⟩ | c1 := hm
      all_goals
        go_enter Try.func110, Try.ntmps110
        go_wp2
        go_ret2
        exact ⟨retIB_eq (congrArg Prod.fst H.out).symm rfl, Gr.refl _⟩
    · have H := hide (div_same (x := x) h0 (Or.inr (Or.inr ⟨by omega, by omega⟩)))
      have e3 : (x % y != 0) = true := by rw [← Int.tmod_eq_emod_of_nonneg (by omega)]; exact e1
      clear e e2 h hx hy
      obtain ⟨c1, c2⟩ | c1 := hm
      all_goals
        go_enter Try.func110, Try.ntmps110
        go_wp2
        go_ret2
        exact ⟨retIB_eq (congrArg Prod.fst H.out).symm rfl, Gr.refl _⟩
theorem rest_any (x y : Int) (hx : Fits x) (hy : Fits y) (h0 : y ≠ 0) (w : World) : Calls Try.prog 106 #[.int .i64 x, .int .i64 y] w fun e w' => e = .returned (.int .i64 (x.fmod y)) ∧ Gr w w' := by
  by_cases h1 : y = -1
  · subst h1
    rw [fmod_minus]
    go_enter Try.func106, Try.ntmps106
    go_wp2
    go_ret
    exact ⟨rfl, Gr.refl _⟩
  · have c1 : (y == -1) = false := by simpa using h1
    have hr : IntKind.i64.wrap (x.tmod y) = x.tmod y := IntWalk.i64_in _ (tmod_fits hy h0)
    by_cases e : x.tmod y = 0
    · have e1 : (x.tmod y != 0) = false := by simpa using e
      have H := hide (mod_same h0 (Or.inl e))
      clear e hx hy
      go_enter Try.func106, Try.ntmps106
      go_wp2
      go_ret
      exact ⟨ret_int (congrArg Prod.fst H.out).symm, Gr.refl _⟩
    · have e1 : (x.tmod y != 0) = true := by simpa using e
      by_cases a : x.tmod y < 0 <;> by_cases b : y < 0
      · have H := hide (mod_same h0 (Or.inr (Or.inl ⟨a, b⟩)))
        clear e hx hy
        go_enter Try.func106, Try.ntmps106
        go_wp2
        go_ret
        exact ⟨ret_int (congrArg Prod.fst H.out).symm, Gr.refl _⟩
      · have H := hide (mod_down h0 e (Or.inl ⟨a, by omega⟩))
        have hs : wrap64 (x.tmod y + y) = x.tmod y + y := IntWalk.wrap64_in _ (by have := fmod_fits (x := x) hy h0; rw [show x.fmod y = x.tmod y + y from congrArg Prod.fst H.out] at this; exact this)
        clear e hx hy
        go_enter Try.func106, Try.ntmps106
        go_wp2
        go_ret
        exact ⟨ret_int (by rw [show x.fmod y = x.tmod y + y from congrArg Prod.fst H.out]), Gr.refl _⟩
      · have H := hide (mod_down h0 e (Or.inr ⟨by omega, b⟩))
        have hs : wrap64 (x.tmod y + y) = x.tmod y + y := IntWalk.wrap64_in _ (by have := fmod_fits (x := x) hy h0; rw [show x.fmod y = x.tmod y + y from congrArg Prod.fst H.out] at this; exact this)
        clear e hx hy
        go_enter Try.func106, Try.ntmps106
        go_wp2
        go_ret
        exact ⟨ret_int (by rw [show x.fmod y = x.tmod y + y from congrArg Prod.fst H.out]), Gr.refl _⟩
      · have H := hide (mod_same (x := x) h0 (Or.inr (Or.inr ⟨by omega, by omega⟩)))
        clear e hx hy
        go_enter Try.func106, Try.ntmps106
        go_wp2
        go_ret
        exact ⟨ret_int (congrArg Prod.fst H.out).symm, Gr.refl _⟩
end Ref
end Sc
end Go.Proofs.Ytfpnafeildigaaa
