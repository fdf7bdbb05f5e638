/-
Contracts of judged, Arity, One, Two and Overflows of the reference of chapter 9.
-/
import Derived.Test.YtaelfhjdmljblaaGreatDoorBa2
import Derived.Test.YtaelfhjdmljblaaGreatDoorBa1
import Derived.Handy
import Derived.Deep.QuietTactic
import Derived.BigQuiet
set_option linter.unusedSimpArgs false
set_option linter.unusedVariables false
namespace Go.Proofs.YtaelfhjdmljblaaGreatDoor
namespace Sc
open Go.RowKit Go.Lib
namespace Ref
theorem arity_one (p : Int) (h1 : 1 ≤ p) (h2 : p ≤ 3) (w : World) : Calls Tryz.prog 49 #[.int .i64 p] w fun e w' => e = ret2 (1, 0) ∧ w = w' := by
  obtain rfl | rfl | rfl : p = 1 ∨ p = 2 ∨ p = 3 := by omega
  all_goals
    go_enter Tryz.func49, Tryz.ntmps49
    go_wp2
    go_ret2
    exact ⟨rfl, rfl⟩
theorem arity_two (p : Int) (h1 : 15 ≤ p) (h2 : p ≤ 32) (w : World) : Calls Tryz.prog 49 #[.int .i64 p] w fun e w' => e = ret2 (2, 0) ∧ w = w' := by
  have c1 : (p == 1) = false := by rw [beq_eq_false_iff_ne]; omega
  have c2 : (p == 2) = false := by rw [beq_eq_false_iff_ne]; omega
  have c3 : (p == 3) = false := by rw [beq_eq_false_iff_ne]; omega
  go_enter Tryz.func49, Tryz.ntmps49
  go_wp2
  go_ret2
  exact ⟨rfl, rfl⟩
theorem arity_none (p : Int) (h : p < 1 ∨ (3 < p ∧ p < 15) ∨ 32 < p) (w : World) : Calls Tryz.prog 49 #[.int .i64 p] w fun e w' => e = ret2 (0, 2) ∧ w = w' := by
  have c1 : (p == 1) = false := by rw [beq_eq_false_iff_ne]; omega
  have c2 : (p == 2) = false := by rw [beq_eq_false_iff_ne]; omega
  have c3 : (p == 3) = false := by rw [beq_eq_false_iff_ne]; omega
  by_cases a : p < 15
  all_goals
    go_enter Tryz.func49, Tryz.ntmps49
    go_wp2
    go_ret2
    exact ⟨rfl, rfl⟩
theorem judged_19 (x y : Int) (hx : Fits x) (hy : Fits y) (h0 : y ≠ 0) (w : World) : Calls Tryz.prog 189 #[.int .i64 19, .int .i64 x, .int .i64 y] w fun e w' => e = .returned (.int .i64 (x.fmod y)) ∧ Gr w w' := by
  have hx' := hide hx; have hy' := hide hy; have h0' := hide h0; clear hx hy h0
  go_enter Tryz.func189, Tryz.ntmps189
  go_wp2_with (first | (go_at_call 204; refine (rest_any x y hx'.out hy'.out h0'.out _).mono ?_; rintro e w' ⟨rfl, hg⟩))
  go_ret
  exact ⟨rfl, by (repeat (first | exact Gr.refl _ | assumption | refine gr_trans ?_ (by assumption)))⟩
theorem judged_20 (x y : Int) (hx : Fits x) (hy : Fits y) (w : World) : Calls Tryz.prog 189 #[.int .i64 20, .int .i64 x, .int .i64 y] w fun e w' => e = .returned (.int .i64 (clamp (x + y))) ∧ Gr w w' := by
  have hx' := hide hx; have hy' := hide hy; clear hx hy
  go_enter Tryz.func189, Tryz.ntmps189
  go_wp2_with (first | (go_at_call 205; refine (limited_20 x y hx'.out hy'.out _).mono ?_; rintro e w' ⟨rfl, hg⟩))
  go_ret
  exact ⟨rfl, by (repeat (first | exact Gr.refl _ | assumption | refine gr_trans ?_ (by assumption)))⟩
theorem judged_21 (x y : Int) (hx : Fits x) (hy : Fits y) (w : World) : Calls Tryz.prog 189 #[.int .i64 21, .int .i64 x, .int .i64 y] w fun e w' => e = .returned (.int .i64 (clamp (x - y))) ∧ Gr w w' := by
  have hx' := hide hx; have hy' := hide hy; clear hx hy
  go_enter Tryz.func189, Tryz.ntmps189
  go_wp2_with (first | (go_at_call 205; refine (limited_21 x y hx'.out hy'.out _).mono ?_; rintro e w' ⟨rfl, hg⟩))
  go_ret
  exact ⟨rfl, by (repeat (first | exact Gr.refl _ | assumption | refine gr_trans ?_ (by assumption)))⟩
theorem judged_22 (x y : Int) (hx : Fits x) (hy : Fits y) (w : World) : Calls Tryz.prog 189 #[.int .i64 22, .int .i64 x, .int .i64 y] w fun e w' => e = .returned (.int .i64 (clamp (x * y))) ∧ Gr w w' := by
  have hx' := hide hx; have hy' := hide hy; clear hx hy
  go_enter Tryz.func189, Tryz.ntmps189
  go_wp2_with (first | (go_at_call 205; refine (limited_22 x y hx'.out hy'.out _).mono ?_; rintro e w' ⟨rfl, hg⟩))
  go_ret
  exact ⟨rfl, by (repeat (first | exact Gr.refl _ | assumption | refine gr_trans ?_ (by assumption)))⟩
theorem judged_23 (x y : Int) (w : World) : Calls Tryz.prog 189 #[.int .i64 23, .int .i64 x, .int .i64 y] w fun e w' => e = .returned (.int .i64 (tr (x == y))) ∧ Gr w w' := by
  go_enter Tryz.func189, Tryz.ntmps189
  go_wp2_with (first | (go_at_call 188; refine (truth_any _ _).mono ?_; rintro e w' ⟨rfl, rfl⟩))
  go_ret
  exact ⟨rfl, by (repeat (first | exact Gr.refl _ | assumption | refine gr_trans ?_ (by assumption)))⟩
theorem judged_24 (x y : Int) (w : World) : Calls Tryz.prog 189 #[.int .i64 24, .int .i64 x, .int .i64 y] w fun e w' => e = .returned (.int .i64 (tr (x != y))) ∧ Gr w w' := by
  go_enter Tryz.func189, Tryz.ntmps189
  go_wp2_with (first | (go_at_call 188; refine (truth_any _ _).mono ?_; rintro e w' ⟨rfl, rfl⟩))
  go_ret
  exact ⟨rfl, by (repeat (first | exact Gr.refl _ | assumption | refine gr_trans ?_ (by assumption)))⟩
theorem judged_25 (x y : Int) (w : World) : Calls Tryz.prog 189 #[.int .i64 25, .int .i64 x, .int .i64 y] w fun e w' => e = .returned (.int .i64 (tr (decide (x < y)))) ∧ Gr w w' := by
  go_enter Tryz.func189, Tryz.ntmps189
  go_wp2_with (first | (go_at_call 188; refine (truth_any _ _).mono ?_; rintro e w' ⟨rfl, rfl⟩))
  go_ret
  exact ⟨rfl, by (repeat (first | exact Gr.refl _ | assumption | refine gr_trans ?_ (by assumption)))⟩
theorem judged_26 (x y : Int) (w : World) : Calls Tryz.prog 189 #[.int .i64 26, .int .i64 x, .int .i64 y] w fun e w' => e = .returned (.int .i64 (tr (decide (x ≤ y)))) ∧ Gr w w' := by
  go_enter Tryz.func189, Tryz.ntmps189
  go_wp2_with (first | (go_at_call 188; refine (truth_any _ _).mono ?_; rintro e w' ⟨rfl, rfl⟩))
  go_ret
  exact ⟨rfl, by (repeat (first | exact Gr.refl _ | assumption | refine gr_trans ?_ (by assumption)))⟩
theorem judged_27 (x y : Int) (w : World) : Calls Tryz.prog 189 #[.int .i64 27, .int .i64 x, .int .i64 y] w fun e w' => e = .returned (.int .i64 (tr (decide (y < x)))) ∧ Gr w w' := by
  go_enter Tryz.func189, Tryz.ntmps189
  go_wp2_with (first | (go_at_call 188; refine (truth_any _ _).mono ?_; rintro e w' ⟨rfl, rfl⟩))
  go_ret
  exact ⟨rfl, by (repeat (first | exact Gr.refl _ | assumption | refine gr_trans ?_ (by assumption)))⟩
theorem judged_28 (x y : Int) (w : World) : Calls Tryz.prog 189 #[.int .i64 28, .int .i64 x, .int .i64 y] w fun e w' => e = .returned (.int .i64 (tr (decide (y ≤ x)))) ∧ Gr w w' := by
  go_enter Tryz.func189, Tryz.ntmps189
  go_wp2_with (first | (go_at_call 188; refine (truth_any _ _).mono ?_; rintro e w' ⟨rfl, rfl⟩))
  go_ret
  exact ⟨rfl, by (repeat (first | exact Gr.refl _ | assumption | refine gr_trans ?_ (by assumption)))⟩
theorem judged_29 (x y : Int) (w : World) : Calls Tryz.prog 189 #[.int .i64 29, .int .i64 x, .int .i64 y] w fun e w' => e = .returned (.int .i64 (tr (x != 0 && y != 0))) ∧ Gr w w' := by
  by_cases a : x = 0
  · have a1 : (x != 0) = false := by simpa using a
    have a2 : (x == 0) = true := by simpa using a
    clear a
    go_enter Tryz.func189, Tryz.ntmps189
    go_wp2_with (go_at_call 188; refine (truth_any _ _).mono ?_; rintro e w' ⟨rfl, rfl⟩)
    go_ret
    exact ⟨ret_int (by rw [a1]; rfl), by (repeat (first | exact Gr.refl _ | assumption | refine gr_trans ?_ (by assumption)))⟩
  · have a1 : (x != 0) = true := by simpa using a
    have a2 : (x == 0) = false := by simpa using a
    clear a
    go_enter Tryz.func189, Tryz.ntmps189
    go_wp2_with (go_at_call 188; refine (truth_any _ _).mono ?_; rintro e w' ⟨rfl, rfl⟩)
    go_ret
    exact ⟨ret_int (by rw [a1]; simp), by (repeat (first | exact Gr.refl _ | assumption | refine gr_trans ?_ (by assumption)))⟩
theorem judged_30 (x y : Int) (w : World) : Calls Tryz.prog 189 #[.int .i64 30, .int .i64 x, .int .i64 y] w fun e w' => e = .returned (.int .i64 (tr (x != 0 || y != 0))) ∧ Gr w w' := by
  by_cases a : x = 0
  · have a1 : (x != 0) = false := by simpa using a
    have a2 : (x == 0) = true := by simpa using a
    clear a
    go_enter Tryz.func189, Tryz.ntmps189
    go_wp2_with (go_at_call 188; refine (truth_any _ _).mono ?_; rintro e w' ⟨rfl, rfl⟩)
    go_ret
    exact ⟨ret_int (by rw [a1]; rfl), by (repeat (first | exact Gr.refl _ | assumption | refine gr_trans ?_ (by assumption)))⟩
  · have a1 : (x != 0) = true := by simpa using a
    have a2 : (x == 0) = false := by simpa using a
    clear a
    go_enter Tryz.func189, Tryz.ntmps189
    go_wp2_with (go_at_call 188; refine (truth_any _ _).mono ?_; rintro e w' ⟨rfl, rfl⟩)
    go_ret
    exact ⟨ret_int (by rw [a1]; simp), by (repeat (first | exact Gr.refl _ | assumption | refine gr_trans ?_ (by assumption)))⟩
theorem judged_31 (x y : Int) (w : World) : Calls Tryz.prog 189 #[.int .i64 31, .int .i64 x, .int .i64 y] w fun e w' => e = .returned (.int .i64 (min x y)) ∧ Gr w w' := by
  go_enter Tryz.func189, Tryz.ntmps189
  go_wp2
  all_goals
    go_ret
    exact ⟨ret_int (by omega), Gr.refl _⟩
theorem judged_32 (x y : Int) (w : World) : Calls Tryz.prog 189 #[.int .i64 32, .int .i64 x, .int .i64 y] w fun e w' => e = .returned (.int .i64 (max x y)) ∧ Gr w w' := by
  go_enter Tryz.func189, Tryz.ntmps189
  go_wp2
  all_goals
    go_ret
    exact ⟨ret_int (by omega), Gr.refl _⟩
theorem Two_15 (x y : Int) (hx : Fits x) (hy : Fits y) (w : World) : Calls Tryz.prog 135 #[.int .i64 15, .int .i64 x, .int .i64 y] w fun e w' => e = ret2 (two 15 x y) ∧ Gr w w' := by
  by_cases hf : Fits (x + y)
  · have H : Hid (two 15 x y = (x + y, 0)) := chk_in hf
    have h' := hide hf; have hx' := hide hx; have hy' := hide hy; clear hf hx hy
    go_enter Tryz.func135, Tryz.ntmps135
    go_wp2_with (first | (go_at_call 49; refine (arity_two 15 (by omega) (by omega) _).mono ?_; rintro e w' ⟨rfl, rfl⟩) | (go_at_call 190; refine (calc_15_in x y hx'.out hy'.out h'.out _).mono ?_; rintro e w' ⟨rfl, hg⟩))
    go_ret2
    exact ⟨ret2_eq H.out, by (repeat (first | exact Gr.refl _ | assumption | refine gr_trans ?_ (by assumption)))⟩
  · have H : Hid (two 15 x y = (0, 12)) := chk_out hf
    have h' := hide hf; have hx' := hide hx; have hy' := hide hy; clear hf hx hy
    go_enter Tryz.func135, Tryz.ntmps135
    go_wp2_with (first | (go_at_call 49; refine (arity_two 15 (by omega) (by omega) _).mono ?_; rintro e w' ⟨rfl, rfl⟩) | (go_at_call 190; refine (calc_15_out x y hx'.out hy'.out h'.out _).mono ?_; rintro e w' ⟨z, rfl, hg⟩))
    go_ret2
    exact ⟨ret2_eq H.out, by (repeat (first | exact Gr.refl _ | assumption | refine gr_trans ?_ (by assumption)))⟩
theorem Two_16 (x y : Int) (hx : Fits x) (hy : Fits y) (w : World) : Calls Tryz.prog 135 #[.int .i64 16, .int .i64 x, .int .i64 y] w fun e w' => e = ret2 (two 16 x y) ∧ Gr w w' := by
  by_cases hf : Fits (x - y)
  · have H : Hid (two 16 x y = (x - y, 0)) := chk_in hf
    have h' := hide hf; have hx' := hide hx; have hy' := hide hy; clear hf hx hy
    go_enter Tryz.func135, Tryz.ntmps135
    go_wp2_with (first | (go_at_call 49; refine (arity_two 16 (by omega) (by omega) _).mono ?_; rintro e w' ⟨rfl, rfl⟩) | (go_at_call 190; refine (calc_16_in x y hx'.out hy'.out h'.out _).mono ?_; rintro e w' ⟨rfl, hg⟩))
    go_ret2
    exact ⟨ret2_eq H.out, by (repeat (first | exact Gr.refl _ | assumption | refine gr_trans ?_ (by assumption)))⟩
  · have H : Hid (two 16 x y = (0, 12)) := chk_out hf
    have h' := hide hf; have hx' := hide hx; have hy' := hide hy; clear hf hx hy
    go_enter Tryz.func135, Tryz.ntmps135
    go_wp2_with (first | (go_at_call 49; refine (arity_two 16 (by omega) (by omega) _).mono ?_; rintro e w' ⟨rfl, rfl⟩) | (go_at_call 190; refine (calc_16_out x y hx'.out hy'.out h'.out _).mono ?_; rintro e w' ⟨z, rfl, hg⟩))
    go_ret2
    exact ⟨ret2_eq H.out, by (repeat (first | exact Gr.refl _ | assumption | refine gr_trans ?_ (by assumption)))⟩
theorem Two_17 (x y : Int) (hx : Fits x) (hy : Fits y) (w : World) : Calls Tryz.prog 135 #[.int .i64 17, .int .i64 x, .int .i64 y] w fun e w' => e = ret2 (two 17 x y) ∧ Gr w w' := by
  by_cases hf : Fits (x * y)
  · have H : Hid (two 17 x y = (x * y, 0)) := chk_in hf
    have h' := hide hf; have hx' := hide hx; have hy' := hide hy; clear hf hx hy
    go_enter Tryz.func135, Tryz.ntmps135
    go_wp2_with (first | (go_at_call 49; refine (arity_two 17 (by omega) (by omega) _).mono ?_; rintro e w' ⟨rfl, rfl⟩) | (go_at_call 190; refine (calc_17_in x y hx'.out hy'.out h'.out _).mono ?_; rintro e w' ⟨rfl, hg⟩))
    go_ret2
    exact ⟨ret2_eq H.out, by (repeat (first | exact Gr.refl _ | assumption | refine gr_trans ?_ (by assumption)))⟩
  · have H : Hid (two 17 x y = (0, 12)) := chk_out hf
    have h' := hide hf; have hx' := hide hx; have hy' := hide hy; clear hf hx hy
    go_enter Tryz.func135, Tryz.ntmps135
    go_wp2_with (first | (go_at_call 49; refine (arity_two 17 (by omega) (by omega) _).mono ?_; rintro e w' ⟨rfl, rfl⟩) | (go_at_call 190; refine (calc_17_out x y hx'.out hy'.out h'.out _).mono ?_; rintro e w' ⟨z, rfl, hg⟩))
    go_ret2
    exact ⟨ret2_eq H.out, by (repeat (first | exact Gr.refl _ | assumption | refine gr_trans ?_ (by assumption)))⟩
theorem Two_18 (x y : Int) (hx : Fits x) (hy : Fits y) (w : World) : Calls Tryz.prog 135 #[.int .i64 18, .int .i64 x, .int .i64 y] w fun e w' => e = ret2 (two 18 x y) ∧ Gr w w' := by
  by_cases h0 : y = 0
  · subst h0
    clear hx hy
    go_enter Tryz.func135, Tryz.ntmps135
    go_wp2_with (first | (go_at_call 49; refine (arity_two 18 (by omega) (by omega) _).mono ?_; rintro e w' ⟨rfl, rfl⟩))
    go_ret2
    exact ⟨rfl, by (repeat (first | exact Gr.refl _ | assumption | refine gr_trans ?_ (by assumption)))⟩
  · have c0 : (y == 0) = false := by simpa using h0
    by_cases h : x = -9223372036854775808 ∧ y = -1
    · obtain ⟨rfl, rfl⟩ := h
      clear hx hy c0 h0
      go_enter Tryz.func135, Tryz.ntmps135
      go_wp2_with (first | (go_at_call 49; refine (arity_two 18 (by omega) (by omega) _).mono ?_; rintro e w' ⟨rfl, rfl⟩) | (go_at_call 190; refine (calc_18_out _).mono ?_; rintro e w' ⟨z, rfl, hg⟩))
      go_ret2
      exact ⟨rfl, by (repeat (first | exact Gr.refl _ | assumption | refine gr_trans ?_ (by assumption)))⟩
    · have H : Hid (two 18 x y = (x.fdiv y, 0)) := m_two_18 hx hy h0 h
      have h' := hide h; have hx' := hide hx; have hy' := hide hy; have h0' := hide h0; clear h hx hy h0
      go_enter Tryz.func135, Tryz.ntmps135
      go_wp2_with (first | (go_at_call 49; refine (arity_two 18 (by omega) (by omega) _).mono ?_; rintro e w' ⟨rfl, rfl⟩) | (go_at_call 190; refine (calc_18_in x y hx'.out hy'.out h0'.out h'.out _).mono ?_; rintro e w' ⟨rfl, hg⟩))
      go_ret2
      exact ⟨ret2_eq H.out, by (repeat (first | exact Gr.refl _ | assumption | refine gr_trans ?_ (by assumption)))⟩
theorem Two_19 (x y : Int) (hx : Fits x) (hy : Fits y) (w : World) : Calls Tryz.prog 135 #[.int .i64 19, .int .i64 x, .int .i64 y] w fun e w' => e = ret2 (two 19 x y) ∧ Gr w w' := by
  by_cases h0 : y = 0
  · subst h0
    clear hx hy
    go_enter Tryz.func135, Tryz.ntmps135
    go_wp2_with (first | (go_at_call 49; refine (arity_two 19 (by omega) (by omega) _).mono ?_; rintro e w' ⟨rfl, rfl⟩))
    go_ret2
    exact ⟨rfl, by (repeat (first | exact Gr.refl _ | assumption | refine gr_trans ?_ (by assumption)))⟩
  · have c0 : (y == 0) = false := by simpa using h0
    have H : Hid (two 19 x y = (x.fmod y, 0)) := m_two_19 h0
    have hx' := hide hx; have hy' := hide hy; have h0' := hide h0; clear hx hy h0
    go_enter Tryz.func135, Tryz.ntmps135
    go_wp2_with (first | (go_at_call 49; refine (arity_two 19 (by omega) (by omega) _).mono ?_; rintro e w' ⟨rfl, rfl⟩) | (go_at_call 189; refine (judged_19 x y hx'.out hy'.out h0'.out _).mono ?_; rintro e w' ⟨rfl, hg⟩))
    go_ret2
    exact ⟨ret2_eq H.out, by (repeat (first | exact Gr.refl _ | assumption | refine gr_trans ?_ (by assumption)))⟩
theorem Two_20 (x y : Int) (hx : Fits x) (hy : Fits y) (w : World) : Calls Tryz.prog 135 #[.int .i64 20, .int .i64 x, .int .i64 y] w fun e w' => e = ret2 (two 20 x y) ∧ Gr w w' := by
  have hx' := hide hx; have hy' := hide hy; clear hx hy
  go_enter Tryz.func135, Tryz.ntmps135
  go_wp2_with (first | (go_at_call 49; refine (arity_two 20 (by omega) (by omega) _).mono ?_; rintro e w' ⟨rfl, rfl⟩) | (go_at_call 189; refine (judged_20 x y hx'.out hy'.out _).mono ?_; rintro e w' ⟨rfl, hg⟩))
  go_ret2
  exact ⟨rfl, by (repeat (first | exact Gr.refl _ | assumption | refine gr_trans ?_ (by assumption)))⟩
theorem Two_21 (x y : Int) (hx : Fits x) (hy : Fits y) (w : World) : Calls Tryz.prog 135 #[.int .i64 21, .int .i64 x, .int .i64 y] w fun e w' => e = ret2 (two 21 x y) ∧ Gr w w' := by
  have hx' := hide hx; have hy' := hide hy; clear hx hy
  go_enter Tryz.func135, Tryz.ntmps135
  go_wp2_with (first | (go_at_call 49; refine (arity_two 21 (by omega) (by omega) _).mono ?_; rintro e w' ⟨rfl, rfl⟩) | (go_at_call 189; refine (judged_21 x y hx'.out hy'.out _).mono ?_; rintro e w' ⟨rfl, hg⟩))
  go_ret2
  exact ⟨rfl, by (repeat (first | exact Gr.refl _ | assumption | refine gr_trans ?_ (by assumption)))⟩
theorem Two_22 (x y : Int) (hx : Fits x) (hy : Fits y) (w : World) : Calls Tryz.prog 135 #[.int .i64 22, .int .i64 x, .int .i64 y] w fun e w' => e = ret2 (two 22 x y) ∧ Gr w w' := by
  have hx' := hide hx; have hy' := hide hy; clear hx hy
  go_enter Tryz.func135, Tryz.ntmps135
  go_wp2_with (first | (go_at_call 49; refine (arity_two 22 (by omega) (by omega) _).mono ?_; rintro e w' ⟨rfl, rfl⟩) | (go_at_call 189; refine (judged_22 x y hx'.out hy'.out _).mono ?_; rintro e w' ⟨rfl, hg⟩))
  go_ret2
  exact ⟨rfl, by (repeat (first | exact Gr.refl _ | assumption | refine gr_trans ?_ (by assumption)))⟩
theorem Two_23 (x y : Int) (hx : Fits x) (hy : Fits y) (w : World) : Calls Tryz.prog 135 #[.int .i64 23, .int .i64 x, .int .i64 y] w fun e w' => e = ret2 (two 23 x y) ∧ Gr w w' := by
  have hx' := hide hx; have hy' := hide hy; clear hx hy
  go_enter Tryz.func135, Tryz.ntmps135
  go_wp2_with (first | (go_at_call 49; refine (arity_two 23 (by omega) (by omega) _).mono ?_; rintro e w' ⟨rfl, rfl⟩) | (go_at_call 189; refine (judged_23 x y _).mono ?_; rintro e w' ⟨rfl, hg⟩))
  go_ret2
  exact ⟨rfl, by (repeat (first | exact Gr.refl _ | assumption | refine gr_trans ?_ (by assumption)))⟩
theorem Two_24 (x y : Int) (hx : Fits x) (hy : Fits y) (w : World) : Calls Tryz.prog 135 #[.int .i64 24, .int .i64 x, .int .i64 y] w fun e w' => e = ret2 (two 24 x y) ∧ Gr w w' := by
  have hx' := hide hx; have hy' := hide hy; clear hx hy
  go_enter Tryz.func135, Tryz.ntmps135
  go_wp2_with (first | (go_at_call 49; refine (arity_two 24 (by omega) (by omega) _).mono ?_; rintro e w' ⟨rfl, rfl⟩) | (go_at_call 189; refine (judged_24 x y _).mono ?_; rintro e w' ⟨rfl, hg⟩))
  go_ret2
  exact ⟨rfl, by (repeat (first | exact Gr.refl _ | assumption | refine gr_trans ?_ (by assumption)))⟩
theorem Two_25 (x y : Int) (hx : Fits x) (hy : Fits y) (w : World) : Calls Tryz.prog 135 #[.int .i64 25, .int .i64 x, .int .i64 y] w fun e w' => e = ret2 (two 25 x y) ∧ Gr w w' := by
  have hx' := hide hx; have hy' := hide hy; clear hx hy
  go_enter Tryz.func135, Tryz.ntmps135
  go_wp2_with (first | (go_at_call 49; refine (arity_two 25 (by omega) (by omega) _).mono ?_; rintro e w' ⟨rfl, rfl⟩) | (go_at_call 189; refine (judged_25 x y _).mono ?_; rintro e w' ⟨rfl, hg⟩))
  go_ret2
  exact ⟨rfl, by (repeat (first | exact Gr.refl _ | assumption | refine gr_trans ?_ (by assumption)))⟩
theorem Two_26 (x y : Int) (hx : Fits x) (hy : Fits y) (w : World) : Calls Tryz.prog 135 #[.int .i64 26, .int .i64 x, .int .i64 y] w fun e w' => e = ret2 (two 26 x y) ∧ Gr w w' := by
  have hx' := hide hx; have hy' := hide hy; clear hx hy
  go_enter Tryz.func135, Tryz.ntmps135
  go_wp2_with (first | (go_at_call 49; refine (arity_two 26 (by omega) (by omega) _).mono ?_; rintro e w' ⟨rfl, rfl⟩) | (go_at_call 189; refine (judged_26 x y _).mono ?_; rintro e w' ⟨rfl, hg⟩))
  go_ret2
  exact ⟨rfl, by (repeat (first | exact Gr.refl _ | assumption | refine gr_trans ?_ (by assumption)))⟩
theorem Two_27 (x y : Int) (hx : Fits x) (hy : Fits y) (w : World) : Calls Tryz.prog 135 #[.int .i64 27, .int .i64 x, .int .i64 y] w fun e w' => e = ret2 (two 27 x y) ∧ Gr w w' := by
  have hx' := hide hx; have hy' := hide hy; clear hx hy
  go_enter Tryz.func135, Tryz.ntmps135
  go_wp2_with (first | (go_at_call 49; refine (arity_two 27 (by omega) (by omega) _).mono ?_; rintro e w' ⟨rfl, rfl⟩) | (go_at_call 189; refine (judged_27 x y _).mono ?_; rintro e w' ⟨rfl, hg⟩))
  go_ret2
  exact ⟨rfl, by (repeat (first | exact Gr.refl _ | assumption | refine gr_trans ?_ (by assumption)))⟩
theorem Two_28 (x y : Int) (hx : Fits x) (hy : Fits y) (w : World) : Calls Tryz.prog 135 #[.int .i64 28, .int .i64 x, .int .i64 y] w fun e w' => e = ret2 (two 28 x y) ∧ Gr w w' := by
  have hx' := hide hx; have hy' := hide hy; clear hx hy
  go_enter Tryz.func135, Tryz.ntmps135
  go_wp2_with (first | (go_at_call 49; refine (arity_two 28 (by omega) (by omega) _).mono ?_; rintro e w' ⟨rfl, rfl⟩) | (go_at_call 189; refine (judged_28 x y _).mono ?_; rintro e w' ⟨rfl, hg⟩))
  go_ret2
  exact ⟨rfl, by (repeat (first | exact Gr.refl _ | assumption | refine gr_trans ?_ (by assumption)))⟩
theorem Two_29 (x y : Int) (hx : Fits x) (hy : Fits y) (w : World) : Calls Tryz.prog 135 #[.int .i64 29, .int .i64 x, .int .i64 y] w fun e w' => e = ret2 (two 29 x y) ∧ Gr w w' := by
  have hx' := hide hx; have hy' := hide hy; clear hx hy
  go_enter Tryz.func135, Tryz.ntmps135
  go_wp2_with (first | (go_at_call 49; refine (arity_two 29 (by omega) (by omega) _).mono ?_; rintro e w' ⟨rfl, rfl⟩) | (go_at_call 189; refine (judged_29 x y _).mono ?_; rintro e w' ⟨rfl, hg⟩))
  go_ret2
  exact ⟨rfl, by (repeat (first | exact Gr.refl _ | assumption | refine gr_trans ?_ (by assumption)))⟩
theorem Two_30 (x y : Int) (hx : Fits x) (hy : Fits y) (w : World) : Calls Tryz.prog 135 #[.int .i64 30, .int .i64 x, .int .i64 y] w fun e w' => e = ret2 (two 30 x y) ∧ Gr w w' := by
  have hx' := hide hx; have hy' := hide hy; clear hx hy
  go_enter Tryz.func135, Tryz.ntmps135
  go_wp2_with (first | (go_at_call 49; refine (arity_two 30 (by omega) (by omega) _).mono ?_; rintro e w' ⟨rfl, rfl⟩) | (go_at_call 189; refine (judged_30 x y _).mono ?_; rintro e w' ⟨rfl, hg⟩))
  go_ret2
  exact ⟨rfl, by (repeat (first | exact Gr.refl _ | assumption | refine gr_trans ?_ (by assumption)))⟩
theorem Two_31 (x y : Int) (hx : Fits x) (hy : Fits y) (w : World) : Calls Tryz.prog 135 #[.int .i64 31, .int .i64 x, .int .i64 y] w fun e w' => e = ret2 (two 31 x y) ∧ Gr w w' := by
  have hx' := hide hx; have hy' := hide hy; clear hx hy
  go_enter Tryz.func135, Tryz.ntmps135
  go_wp2_with (first | (go_at_call 49; refine (arity_two 31 (by omega) (by omega) _).mono ?_; rintro e w' ⟨rfl, rfl⟩) | (go_at_call 189; refine (judged_31 x y _).mono ?_; rintro e w' ⟨rfl, hg⟩))
  go_ret2
  exact ⟨rfl, by (repeat (first | exact Gr.refl _ | assumption | refine gr_trans ?_ (by assumption)))⟩
theorem Two_32 (x y : Int) (hx : Fits x) (hy : Fits y) (w : World) : Calls Tryz.prog 135 #[.int .i64 32, .int .i64 x, .int .i64 y] w fun e w' => e = ret2 (two 32 x y) ∧ Gr w w' := by
  have hx' := hide hx; have hy' := hide hy; clear hx hy
  go_enter Tryz.func135, Tryz.ntmps135
  go_wp2_with (first | (go_at_call 49; refine (arity_two 32 (by omega) (by omega) _).mono ?_; rintro e w' ⟨rfl, rfl⟩) | (go_at_call 189; refine (judged_32 x y _).mono ?_; rintro e w' ⟨rfl, hg⟩))
  go_ret2
  exact ⟨rfl, by (repeat (first | exact Gr.refl _ | assumption | refine gr_trans ?_ (by assumption)))⟩
theorem Two_nil (p x y : Int) (hp : p < 15 ∨ 33 ≤ p) (w : World) : Calls Tryz.prog 135 #[.int .i64 p, .int .i64 x, .int .i64 y] w fun e w' => e = ret2 (0, 2) ∧ Gr w w' := by
  by_cases a : 1 ≤ p ∧ p ≤ 3
  · have a' := hide a; clear a hp
    go_enter Tryz.func135, Tryz.ntmps135
    go_wp2_with (first | (go_at_call 49; refine (arity_one p a'.out.1 a'.out.2 _).mono ?_; rintro e w' ⟨rfl, rfl⟩))
    go_ret2
    exact ⟨rfl, by (repeat (first | exact Gr.refl _ | assumption | refine gr_trans ?_ (by assumption)))⟩
  · have a' : Hid (p < 1 ∨ (3 < p ∧ p < 15) ∨ 32 < p) := hide (by omega)
    clear a hp
    go_enter Tryz.func135, Tryz.ntmps135
    go_wp2_with (first | (go_at_call 49; refine (arity_none p a'.out _).mono ?_; rintro e w' ⟨rfl, rfl⟩))
    go_ret2
    exact ⟨rfl, by (repeat (first | exact Gr.refl _ | assumption | refine gr_trans ?_ (by assumption)))⟩
theorem Two_any (p x y : Int) (hx : Fits x) (hy : Fits y) (w : World) : Calls Tryz.prog 135 #[.int .i64 p, .int .i64 x, .int .i64 y] w fun e w' => e = ret2 (two p x y) ∧ Gr w w' := by
  by_cases hp : p < 15 ∨ 33 ≤ p
  · rw [two_none hp]; exact Two_nil p x y hp w
  by_cases e15 : p = 15
  · subst e15; exact Two_15 x y hx hy w
  by_cases e16 : p = 16
  · subst e16; exact Two_16 x y hx hy w
  by_cases e17 : p = 17
  · subst e17; exact Two_17 x y hx hy w
  by_cases e18 : p = 18
  · subst e18; exact Two_18 x y hx hy w
  by_cases e19 : p = 19
  · subst e19; exact Two_19 x y hx hy w
  by_cases e20 : p = 20
  · subst e20; exact Two_20 x y hx hy w
  by_cases e21 : p = 21
  · subst e21; exact Two_21 x y hx hy w
  by_cases e22 : p = 22
  · subst e22; exact Two_22 x y hx hy w
  by_cases e23 : p = 23
  · subst e23; exact Two_23 x y hx hy w
  by_cases e24 : p = 24
  · subst e24; exact Two_24 x y hx hy w
  by_cases e25 : p = 25
  · subst e25; exact Two_25 x y hx hy w
  by_cases e26 : p = 26
  · subst e26; exact Two_26 x y hx hy w
  by_cases e27 : p = 27
  · subst e27; exact Two_27 x y hx hy w
  by_cases e28 : p = 28
  · subst e28; exact Two_28 x y hx hy w
  by_cases e29 : p = 29
  · subst e29; exact Two_29 x y hx hy w
  by_cases e30 : p = 30
  · subst e30; exact Two_30 x y hx hy w
  by_cases e31 : p = 31
  · subst e31; exact Two_31 x y hx hy w
  by_cases e32 : p = 32
  · subst e32; exact Two_32 x y hx hy w
  omega
end Ref
end Sc
end Go.Proofs.YtaelfhjdmljblaaGreatDoor
/-
Contracts of Arity of scalars (chapter 9).
-/
set_option linter.unusedSimpArgs false
set_option linter.unusedVariables false
namespace Go.Proofs.YtaelfhjdmljblaaGreatDoor
namespace Sc
open Go.RowKit Go.Lib
theorem one_some (p : Int) (h1 : 1 ≤ p) (h2 : p ≤ 3) (w : World) : Calls Tryz.prog 115 #[.int .i64 p] w fun e w' => ∃ fn, e = .returned (.func fn #[] #[]) ∧ Gr w w' := by
  obtain rfl | rfl | rfl : p = 1 ∨ p = 2 ∨ p = 3 := by omega
  · exact (one_1 w).mono fun e w' ⟨h, g⟩ => ⟨_, h, g⟩
  · exact (one_2 w).mono fun e w' ⟨h, g⟩ => ⟨_, h, g⟩
  · exact (one_3 w).mono fun e w' ⟨h, g⟩ => ⟨_, h, g⟩
theorem two_some (p : Int) (h1 : 15 ≤ p) (h2 : p ≤ 32) (w : World) : Calls Tryz.prog 116 #[.int .i64 p] w fun e w' => ∃ fn, e = .returned (.func fn #[] #[]) ∧ Gr w w' := by
  by_cases e15 : p = 15
  · subst e15; exact (two_15 w).mono fun e w' ⟨h, g⟩ => ⟨_, h, g⟩
  by_cases e16 : p = 16
  · subst e16; exact (two_16 w).mono fun e w' ⟨h, g⟩ => ⟨_, h, g⟩
  by_cases e17 : p = 17
  · subst e17; exact (two_17 w).mono fun e w' ⟨h, g⟩ => ⟨_, h, g⟩
  by_cases e18 : p = 18
  · subst e18; exact (two_18 w).mono fun e w' ⟨h, g⟩ => ⟨_, h, g⟩
  by_cases e19 : p = 19
  · subst e19; exact (two_19 w).mono fun e w' ⟨h, g⟩ => ⟨_, h, g⟩
  by_cases e20 : p = 20
  · subst e20; exact (two_20 w).mono fun e w' ⟨h, g⟩ => ⟨_, h, g⟩
  by_cases e21 : p = 21
  · subst e21; exact (two_21 w).mono fun e w' ⟨h, g⟩ => ⟨_, h, g⟩
  by_cases e22 : p = 22
  · subst e22; exact (two_22 w).mono fun e w' ⟨h, g⟩ => ⟨_, h, g⟩
  by_cases e23 : p = 23
  · subst e23; exact (two_23 w).mono fun e w' ⟨h, g⟩ => ⟨_, h, g⟩
  by_cases e24 : p = 24
  · subst e24; exact (two_24 w).mono fun e w' ⟨h, g⟩ => ⟨_, h, g⟩
  by_cases e25 : p = 25
  · subst e25; exact (two_25 w).mono fun e w' ⟨h, g⟩ => ⟨_, h, g⟩
  by_cases e26 : p = 26
  · subst e26; exact (two_26 w).mono fun e w' ⟨h, g⟩ => ⟨_, h, g⟩
  by_cases e27 : p = 27
  · subst e27; exact (two_27 w).mono fun e w' ⟨h, g⟩ => ⟨_, h, g⟩
  by_cases e28 : p = 28
  · subst e28; exact (two_28 w).mono fun e w' ⟨h, g⟩ => ⟨_, h, g⟩
  by_cases e29 : p = 29
  · subst e29; exact (two_29 w).mono fun e w' ⟨h, g⟩ => ⟨_, h, g⟩
  by_cases e30 : p = 30
  · subst e30; exact (two_30 w).mono fun e w' ⟨h, g⟩ => ⟨_, h, g⟩
  by_cases e31 : p = 31
  · subst e31; exact (two_31 w).mono fun e w' ⟨h, g⟩ => ⟨_, h, g⟩
  by_cases e32 : p = 32
  · subst e32; exact (two_32 w).mono fun e w' ⟨h, g⟩ => ⟨_, h, g⟩
  omega
theorem arity_one (p : Int) (h1 : 1 ≤ p) (h2 : p ≤ 3) (w : World) : Calls Tryz.prog 56 #[.int .i64 p] w fun e w' => e = ret2 (1, 0) ∧ Gr w w' := by
  have hr1 : ∀ (w : World) (fn : Fn), Sem.run Tryz.prog (binOp .neq 104 (.func fn #[] #[]) .nilFunc) w = .ok (.bool true) w := fun w fn => by kernel_rfl
  have hr2 : ∀ w : World, Sem.run Tryz.prog (binOp .neq 104 .nilFunc .nilFunc) w = .ok (.bool false) w := fun w => by kernel_rfl
  have k1 := hide h1; have k2 := hide h2; clear h1 h2
  go_enter Tryz.func56, Tryz.ntmps56
  go_wp2_with (first | (go_at_call 115; refine (one_some p k1.out k2.out _).mono ?_; rintro e w' ⟨fn, rfl, hg⟩))
  go_ret2
  exact ⟨rfl, by (repeat (first | exact Gr.refl _ | assumption | refine gr_trans ?_ (by assumption)))⟩
theorem arity_two (p : Int) (h1 : 15 ≤ p) (h2 : p ≤ 32) (w : World) : Calls Tryz.prog 56 #[.int .i64 p] w fun e w' => e = ret2 (2, 0) ∧ Gr w w' := by
  have hr1 : ∀ (w : World) (fn : Fn), Sem.run Tryz.prog (binOp .neq 104 (.func fn #[] #[]) .nilFunc) w = .ok (.bool true) w := fun w fn => by kernel_rfl
  have hr2 : ∀ w : World, Sem.run Tryz.prog (binOp .neq 104 .nilFunc .nilFunc) w = .ok (.bool false) w := fun w => by kernel_rfl
  have hr3 : ∀ (w : World) (fn : Fn), Sem.run Tryz.prog (binOp .neq 106 (.func fn #[] #[]) .nilFunc) w = .ok (.bool true) w := fun w fn => by kernel_rfl
  have hr4 : ∀ w : World, Sem.run Tryz.prog (binOp .neq 106 .nilFunc .nilFunc) w = .ok (.bool false) w := fun w => by kernel_rfl
  have k0 : Hid (p < 1 ∨ 4 ≤ p) := hide (by omega)
  have k1 := hide h1; have k2 := hide h2; clear h1 h2
  go_enter Tryz.func56, Tryz.ntmps56
  go_wp2_with (first | (go_at_call 115; refine (one_nil p k0.out _).mono ?_; rintro e w' ⟨rfl, hg⟩) | (go_at_call 116; refine (two_some p k1.out k2.out _).mono ?_; rintro e w' ⟨fn, rfl, hg⟩))
  go_ret2
  exact ⟨rfl, by (repeat (first | exact Gr.refl _ | assumption | refine gr_trans ?_ (by assumption)))⟩
theorem arity_none (p : Int) (h : p < 1 ∨ (3 < p ∧ p < 15) ∨ 32 < p) (w : World) : Calls Tryz.prog 56 #[.int .i64 p] w fun e w' => e = ret2 (0, 2) ∧ Gr w w' := by
  have hr1 : ∀ (w : World) (fn : Fn), Sem.run Tryz.prog (binOp .neq 104 (.func fn #[] #[]) .nilFunc) w = .ok (.bool true) w := fun w fn => by kernel_rfl
  have hr2 : ∀ w : World, Sem.run Tryz.prog (binOp .neq 104 .nilFunc .nilFunc) w = .ok (.bool false) w := fun w => by kernel_rfl
  have hr3 : ∀ (w : World) (fn : Fn), Sem.run Tryz.prog (binOp .neq 106 (.func fn #[] #[]) .nilFunc) w = .ok (.bool true) w := fun w fn => by kernel_rfl
  have hr4 : ∀ w : World, Sem.run Tryz.prog (binOp .neq 106 .nilFunc .nilFunc) w = .ok (.bool false) w := fun w => by kernel_rfl
  have k0 : Hid (p < 1 ∨ 4 ≤ p) := hide (by omega)
  have k1 : Hid (p < 15 ∨ 33 ≤ p) := hide (by omega)
  clear h
  go_enter Tryz.func56, Tryz.ntmps56
  go_wp2_with (first | (go_at_call 115; refine (one_nil p k0.out _).mono ?_; rintro e w' ⟨rfl, hg⟩) | (go_at_call 116; refine (two_nil p k1.out _).mono ?_; rintro e w' ⟨rfl, hg⟩))
  go_ret2
  exact ⟨rfl, by (repeat (first | exact Gr.refl _ | assumption | refine gr_trans ?_ (by assumption)))⟩
theorem arity_any (p : Int) (w : World) : Calls Tryz.prog 56 #[.int .i64 p] w fun e w' => e = ret2 (arity p) ∧ Gr w w' := by
  by_cases a : 1 ≤ p ∧ p ≤ 3
  · rw [show arity p = (1, 0) from if_pos a]; exact arity_one p a.1 a.2 w
  · by_cases b : 15 ≤ p ∧ p ≤ 32
    · rw [show arity p = (2, 0) from (if_neg a).trans (if_pos b)]; exact arity_two p b.1 b.2 w
    · rw [show arity p = (0, 2) from (if_neg a).trans (if_neg b)]; exact arity_none p (by omega) w
theorem Ref.arity_any (p : Int) (w : World) : Calls Tryz.prog 49 #[.int .i64 p] w fun e w' => e = ret2 (arity p) ∧ Gr w w' := by
  by_cases a : 1 ≤ p ∧ p ≤ 3
  · rw [show arity p = (1, 0) from if_pos a]; exact (Ref.arity_one p a.1 a.2 w).mono fun e w' ⟨h, k⟩ => ⟨h, k ▸ Gr.refl _⟩
  · by_cases b : 15 ≤ p ∧ p ≤ 32
    · rw [show arity p = (2, 0) from (if_neg a).trans (if_pos b)]; exact (Ref.arity_two p b.1 b.2 w).mono fun e w' ⟨h, k⟩ => ⟨h, k ▸ Gr.refl _⟩
    · rw [show arity p = (0, 2) from (if_neg a).trans (if_neg b)]; exact (Ref.arity_none p (by omega) w).mono fun e w' ⟨h, k⟩ => ⟨h, k ▸ Gr.refl _⟩
end Sc
end Go.Proofs.YtaelfhjdmljblaaGreatDoor
/-
Contracts of the functions over shapes and arrays (chapters 5 and 6), and words for slices of numbers.
-/
set_option linter.unusedSimpArgs false
set_option linter.unusedVariables false
namespace Go.Proofs.YtaelfhjdmljblaaGreatDoor
namespace Ar
open Go.RowKit Sc
theorem below_drewN (w : World) (B n : Nat) : Below B w (w.drewN n) := ⟨rfl, rfl, rfl, Nat.le_refl _, fun _ _ => rfl⟩
theorem bl_then {a b c : World} (h : Below a.heap.size a b) (k : Below b.heap.size b c) : Below a.heap.size a c := h.trans (k.mono h.size)
theorem bl_alloc {a b : World} (h : Below a.heap.size a b) (o : Obj) : Below a.heap.size a (b.alloc o) := h.alloc h.size o
theorem bl_dn {a b : World} (h : Below a.heap.size a b) (n : Nat) : Below a.heap.size a (b.drewN n) := h.trans (below_drewN _ _ _)
theorem bl_drew {a b : World} (h : Below a.heap.size a b) : Below a.heap.size a b.drew := h.drew
theorem bcell {W w1 : World} (hb : Below W.heap.size W w1) : (∀ b o, b < W.heap.size → w1.cell? ⟨b, o, none⟩ = W.cell? ⟨b, o, none⟩) ∧
    (∀ b o, b < W.heap.size → w1.frozen? ⟨b, o, none⟩ = W.frozen? ⟨b, o, none⟩) ∧ W.heap.size ≤ w1.heap.size :=
  ⟨fun b o h => hb.cell (p := ⟨b, o, none⟩) h, fun b o h => hb.frozen (p := ⟨b, o, none⟩) h, hb.size⟩
/-- a slice that reads as a list of numbers -/
def Sl (w : World) (A : Option Addr) (xs : List Int) : Prop :=
  xs ≠ [] → ∃ b o, A = some ⟨b, o, none⟩ ∧ b < w.heap.size ∧ ∀ j, j < xs.length → w.cell? ⟨b, o + j, none⟩ = some (.int .i64 (xs.getD j 0))
theorem Sl.below {w w' : World} {A : Option Addr} {xs : List Int} (h : Sl w A xs) (hb : Below w.heap.size w w') : Sl w' A xs := fun hn => by
  obtain ⟨b, o, e, hl, hc⟩ := h hn
  exact ⟨b, o, e, Nat.lt_of_lt_of_le hl hb.size, fun j hj => (hb.cell (p := ⟨b, o + j, none⟩) hl).trans (hc j hj)⟩
theorem Sl.nil (w : World) (A : Option Addr) : Sl w A [] := fun h => absurd rfl h
theorem Sl.at_ {w : World} {A : Option Addr} {xs : List Int} (h : Sl w A xs) {k : Nat} (hk : k < xs.length) :
    ∃ b o x, A = some ⟨b, o, none⟩ ∧ b < w.heap.size ∧ w.cell? ⟨b, o + k, none⟩ = some (.int .i64 x) ∧ Hid (xs.getD k 0 = x) := by
  obtain ⟨b, o, e, hl, hc⟩ := h (by rintro rfl; simp at hk)
  exact ⟨b, o, _, e, hl, hc k hk, rfl⟩
theorem any_step {P : Int → Bool} {xs : List Int} {k : Nat} (hk : k < xs.length) (h : (xs.take k).any P = false) : (xs.take (k + 1)).any P = P (xs.getD k 0) := by
  rw [List.take_succ_eq_append_getElem hk, List.any_append, h]
  simp [List.getD_eq_getElem?_getD, List.getElem?_eq_getElem hk]
theorem any_hit {P : Int → Bool} {xs : List Int} {k : Nat} (hk : k < xs.length) (h : P (xs.getD k 0) = true) : xs.any P = true := by
  rw [List.any_eq_true]
  exact ⟨xs[k], List.getElem_mem hk, by simpa [List.getD_eq_getElem?_getD, List.getElem?_eq_getElem hk] using h⟩
def neg1 (n : Int) : Bool := decide (n < 0)
def non0 (n : Int) : Bool := n != 0
def over (n : Int) : Bool := decide (400 < n)
theorem neg1_any (n : Int) (w : World) : Calls Tryz.prog 164 #[.int .i64 n] w fun e w' => e = .returned (.bool (neg1 n)) ∧ w = w' := by
  go_enter Tryz.func164, Tryz.ntmps164
  go_wp2
  go_ret
  exact ⟨rfl, rfl⟩
theorem non0_any (n : Int) (w : World) : Calls Tryz.prog 165 #[.int .i64 n] w fun e w' => e = .returned (.bool (non0 n)) ∧ w = w' := by
  go_enter Tryz.func165, Tryz.ntmps165
  go_wp2
  go_ret
  exact ⟨rfl, rfl⟩
theorem over_any (n : Int) (w : World) : Calls Tryz.prog 166 #[.int .i64 n] w fun e w' => e = .returned (.bool (over n)) ∧ w = w' := by
  go_enter Tryz.func166, Tryz.ntmps166
  go_wp2
  go_ret
  exact ⟨rfl, rfl⟩
theorem index_neg1 (A : Option Addr) (c : Nat) (xs : List Int) (w : World) (hl : xs.length ≤ 9223372036854775807) (hs : Sl w A xs) :
    Calls Tryz.prog 199 #[.slice A xs.length c, .func (.func 164) #[] #[]] w fun e w' => ∃ i : Int, e = .returned (.int .i64 i) ∧ Hid (decide (0 ≤ i) = xs.any neg1) ∧ w = w' := by
  go_enter Tryz.func199, Tryz.ntmps199
  go_wp2
  go_loop [5, 8] (fun _ i => ∃ k : Nat, k ≤ xs.length ∧ i = .int .i64 k ∧ Hid ((xs.take k).any neg1 = false)) (fun _ i => xs.length - (intOf i).toNat)
  case atStart => exact ⟨0, Nat.zero_le _, rfl, rfl⟩
  case round =>
    obtain ⟨k, hk, rfl, hany⟩ := hrel
    by_cases hlt : k < xs.length
    · obtain ⟨b, o, x, rfl, hb, hc, hx⟩ := hs.at_ hlt
      by_cases hp : neg1 x = true
      · have H := hide (any_hit (P := neg1) hlt (by rw [hx.out]; exact hp))
        go_wp2_with (go_at_call 164; refine (neg1_any _ _).mono ?_; rintro e w' ⟨rfl, rfl⟩)
        go_ret
        exact ⟨_, rfl, (show _ = _ from by rw [H.out]; simp), rfl⟩
      · have hp' : neg1 x = false := by simpa using hp
        have H := hide (any_step hlt hany.out)
        have H2 : Hid (neg1 (xs.getD k 0) = false) := by show _ = _; rw [hx.out]; exact hp'
        clear hp
        go_wp2_with (go_at_call 164; refine (neg1_any _ _).mono ?_; rintro e w' ⟨rfl, rfl⟩)
        go_round
        case rel => exact ⟨k + 1, by omega, by go_num, H.out.trans H2.out⟩
        case measure => simp [intOf]; omega
    · go_wp2
      go_ret
      refine ⟨_, rfl, ?_, rfl⟩
      have e := hany.out
      rw [List.take_of_length_le (by omega)] at e
      show _ = _
      rw [e]; rfl
theorem contains_neg1 (A : Option Addr) (c : Nat) (xs : List Int) (w : World) (hl : xs.length ≤ 9223372036854775807) (hs : Sl w A xs) :
    Calls Tryz.prog 163 #[.slice A xs.length c, .func (.func 164) #[] #[]] w fun e w' => e = .returned (.bool (xs.any neg1)) ∧ w = w' := by
  go_enter Tryz.func163, Tryz.ntmps163
  go_wp2_with (go_at_call 199; refine (index_neg1 A c xs _ hl hs).mono ?_; rintro e w' ⟨i, rfl, hi, rfl⟩)
  go_ret
  exact ⟨by rw [← hi.out]; rfl, rfl⟩
theorem index_non0 (A : Option Addr) (c : Nat) (xs : List Int) (w : World) (hl : xs.length ≤ 9223372036854775807) (hs : Sl w A xs) :
    Calls Tryz.prog 199 #[.slice A xs.length c, .func (.func 165) #[] #[]] w fun e w' => ∃ i : Int, e = .returned (.int .i64 i) ∧ Hid (decide (0 ≤ i) = xs.any non0) ∧ w = w' := by
  go_enter Tryz.func199, Tryz.ntmps199
  go_wp2
  go_loop [5, 8] (fun _ i => ∃ k : Nat, k ≤ xs.length ∧ i = .int .i64 k ∧ Hid ((xs.take k).any non0 = false)) (fun _ i => xs.length - (intOf i).toNat)
  case atStart => exact ⟨0, Nat.zero_le _, rfl, rfl⟩
  case round =>
    obtain ⟨k, hk, rfl, hany⟩ := hrel
    by_cases hlt : k < xs.length
    · obtain ⟨b, o, x, rfl, hb, hc, hx⟩ := hs.at_ hlt
      by_cases hp : non0 x = true
      · have H := hide (any_hit (P := non0) hlt (by rw [hx.out]; exact hp))
        go_wp2_with (go_at_call 165; refine (non0_any _ _).mono ?_; rintro e w' ⟨rfl, rfl⟩)
        go_ret
        exact ⟨_, rfl, (show _ = _ from by rw [H.out]; simp), rfl⟩
      · have hp' : non0 x = false := by simpa using hp
        have H := hide (any_step hlt hany.out)
        have H2 : Hid (non0 (xs.getD k 0) = false) := by show _ = _; rw [hx.out]; exact hp'
        clear hp
        go_wp2_with (go_at_call 165; refine (non0_any _ _).mono ?_; rintro e w' ⟨rfl, rfl⟩)
        go_round
        case rel => exact ⟨k + 1, by omega, by go_num, H.out.trans H2.out⟩
        case measure => simp [intOf]; omega
    · go_wp2
      go_ret
      refine ⟨_, rfl, ?_, rfl⟩
      have e := hany.out
      rw [List.take_of_length_le (by omega)] at e
      show _ = _
      rw [e]; rfl
theorem contains_non0 (A : Option Addr) (c : Nat) (xs : List Int) (w : World) (hl : xs.length ≤ 9223372036854775807) (hs : Sl w A xs) :
    Calls Tryz.prog 163 #[.slice A xs.length c, .func (.func 165) #[] #[]] w fun e w' => e = .returned (.bool (xs.any non0)) ∧ w = w' := by
  go_enter Tryz.func163, Tryz.ntmps163
  go_wp2_with (go_at_call 199; refine (index_non0 A c xs _ hl hs).mono ?_; rintro e w' ⟨i, rfl, hi, rfl⟩)
  go_ret
  exact ⟨by rw [← hi.out]; rfl, rfl⟩
theorem index_over (A : Option Addr) (c : Nat) (xs : List Int) (w : World) (hl : xs.length ≤ 9223372036854775807) (hs : Sl w A xs) :
    Calls Tryz.prog 199 #[.slice A xs.length c, .func (.func 166) #[] #[]] w fun e w' => ∃ i : Int, e = .returned (.int .i64 i) ∧ Hid (decide (0 ≤ i) = xs.any over) ∧ w = w' := by
  go_enter Tryz.func199, Tryz.ntmps199
  go_wp2
  go_loop [5, 8] (fun _ i => ∃ k : Nat, k ≤ xs.length ∧ i = .int .i64 k ∧ Hid ((xs.take k).any over = false)) (fun _ i => xs.length - (intOf i).toNat)
  case atStart => exact ⟨0, Nat.zero_le _, rfl, rfl⟩
  case round =>
    obtain ⟨k, hk, rfl, hany⟩ := hrel
    by_cases hlt : k < xs.length
    · obtain ⟨b, o, x, rfl, hb, hc, hx⟩ := hs.at_ hlt
      by_cases hp : over x = true
      · have H := hide (any_hit (P := over) hlt (by rw [hx.out]; exact hp))
        go_wp2_with (go_at_call 166; refine (over_any _ _).mono ?_; rintro e w' ⟨rfl, rfl⟩)
        go_ret
        exact ⟨_, rfl, (show _ = _ from by rw [H.out]; simp), rfl⟩
      · have hp' : over x = false := by simpa using hp
        have H := hide (any_step hlt hany.out)
        have H2 : Hid (over (xs.getD k 0) = false) := by show _ = _; rw [hx.out]; exact hp'
        clear hp
        go_wp2_with (go_at_call 166; refine (over_any _ _).mono ?_; rintro e w' ⟨rfl, rfl⟩)
        go_round
        case rel => exact ⟨k + 1, by omega, by go_num, H.out.trans H2.out⟩
        case measure => simp [intOf]; omega
    · go_wp2
      go_ret
      refine ⟨_, rfl, ?_, rfl⟩
      have e := hany.out
      rw [List.take_of_length_le (by omega)] at e
      show _ = _
      rw [e]; rfl
theorem contains_over (A : Option Addr) (c : Nat) (xs : List Int) (w : World) (hl : xs.length ≤ 9223372036854775807) (hs : Sl w A xs) :
    Calls Tryz.prog 163 #[.slice A xs.length c, .func (.func 166) #[] #[]] w fun e w' => e = .returned (.bool (xs.any over)) ∧ w = w' := by
  go_enter Tryz.func163, Tryz.ntmps163
  go_wp2_with (go_at_call 199; refine (index_over A c xs _ hl hs).mono ?_; rintro e w' ⟨i, rfl, hi, rfl⟩)
  go_ret
  exact ⟨by rw [← hi.out]; rfl, rfl⟩
theorem product_0 (l0 l1 : Int) (w : World) : Calls Tryz.prog 112 #[.int .i64 0, .agg #[.int .i64 l0, .int .i64 l1]] w fun e w' => e = .returned (.int .i64 (1)) ∧ Below w.heap.size w w' := by
  go_enter Tryz.func112, Tryz.ntmps112
  go_wp2
  go_ret
  exact ⟨rfl, by (repeat (first | exact Below.refl _ _ | assumption | (refine bl_then ?_ (by assumption)) | (refine bl_alloc ?_ _) | (refine bl_dn ?_ _) | (refine bl_drew ?_)))⟩
theorem product_1 (l0 l1 : Int) (h1 : Fits l0) (w : World) : Calls Tryz.prog 112 #[.int .i64 1, .agg #[.int .i64 l0, .int .i64 l1]] w fun e w' => e = .returned (.int .i64 (l0)) ∧ Below w.heap.size w w' := by
  unfold Fits at h1
  go_enter Tryz.func112, Tryz.ntmps112
  go_wp2
  go_ret
  exact ⟨rfl, by (repeat (first | exact Below.refl _ _ | assumption | (refine bl_then ?_ (by assumption)) | (refine bl_alloc ?_ _) | (refine bl_dn ?_ _) | (refine bl_drew ?_)))⟩
theorem product_2 (l0 l1 : Int) (h : Fits (l0 * l1)) (h1 : Fits l0) (h2 : Fits l1) (w : World) : Calls Tryz.prog 112 #[.int .i64 2, .agg #[.int .i64 l0, .int .i64 l1]] w fun e w' => e = .returned (.int .i64 (l0 * l1)) ∧ Below w.heap.size w w' := by
  have e1 : IntKind.i64.wrap (l1 * l0) = l0 * l1 := by rw [Int.mul_comm]; exact IntWalk.i64_in _ h
  have e2 : IntKind.i64.wrap (l0 * l1) = l0 * l1 := IntWalk.i64_in _ h
  unfold Fits at h1 h2
  clear h
  go_enter Tryz.func112, Tryz.ntmps112
  go_wp2
  go_ret
  exact ⟨rfl, by (repeat (first | exact Below.refl _ _ | assumption | (refine bl_then ?_ (by assumption)) | (refine bl_alloc ?_ _) | (refine bl_dn ?_ _) | (refine bl_drew ?_)))⟩
theorem many_0 (l0 l1 : Int) (w : World) : Calls Tryz.prog 89 #[.int .i64 0, .agg #[.int .i64 l0, .int .i64 l1]] w fun e w' => e = .returned (.int .i64 (1)) ∧ Below w.heap.size w w' := by
  go_enter Tryz.func89, Tryz.ntmps89
  go_wp2
  go_rounds 1
  go_ret
  exact ⟨rfl, by (repeat (first | exact Below.refl _ _ | assumption | (refine bl_then ?_ (by assumption)) | (refine bl_alloc ?_ _) | (refine bl_dn ?_ _) | (refine bl_drew ?_)))⟩
theorem many_1 (l0 l1 : Int) (h1 : Fits l0) (w : World) : Calls Tryz.prog 89 #[.int .i64 1, .agg #[.int .i64 l0, .int .i64 l1]] w fun e w' => e = .returned (.int .i64 (l0)) ∧ Below w.heap.size w w' := by
  unfold Fits at h1
  go_enter Tryz.func89, Tryz.ntmps89
  go_wp2
  go_rounds 2
  go_ret
  exact ⟨rfl, by (repeat (first | exact Below.refl _ _ | assumption | (refine bl_then ?_ (by assumption)) | (refine bl_alloc ?_ _) | (refine bl_dn ?_ _) | (refine bl_drew ?_)))⟩
theorem many_2 (l0 l1 : Int) (h : Fits (l0 * l1)) (h1 : Fits l0) (h2 : Fits l1) (w : World) : Calls Tryz.prog 89 #[.int .i64 2, .agg #[.int .i64 l0, .int .i64 l1]] w fun e w' => e = .returned (.int .i64 (l0 * l1)) ∧ Below w.heap.size w w' := by
  have e1 : IntKind.i64.wrap (l1 * l0) = l0 * l1 := by rw [Int.mul_comm]; exact IntWalk.i64_in _ h
  have e2 : IntKind.i64.wrap (l0 * l1) = l0 * l1 := IntWalk.i64_in _ h
  unfold Fits at h1 h2
  clear h
  go_enter Tryz.func89, Tryz.ntmps89
  go_wp2
  go_rounds 3
  go_ret
  exact ⟨rfl, by (repeat (first | exact Below.refl _ _ | assumption | (refine bl_then ?_ (by assumption)) | (refine bl_alloc ?_ _) | (refine bl_dn ?_ _) | (refine bl_drew ?_)))⟩
theorem has0_neg1 (A : Option Addr) (c : Nat) (w : World) (hs : Sl w A []) (b : Bool) (hb : ([] : List Int).any neg1 = b) :
    Calls Tryz.prog 163 #[.slice A 0 c, .func (.func 164) #[] #[]] w fun e w' => e = .returned (.bool b) ∧ w = w' := by
  subst hb
  exact contains_neg1 A c [] w (by simp) hs
theorem has1_neg1 (A : Option Addr) (c : Nat) (x : Int) (w : World) (hs : Sl w A [x]) (b : Bool) (hb : ([x] : List Int).any neg1 = b) :
    Calls Tryz.prog 163 #[.slice A 1 c, .func (.func 164) #[] #[]] w fun e w' => e = .returned (.bool b) ∧ w = w' := by
  subst hb
  exact contains_neg1 A c [x] w (by simp) hs
theorem has2_neg1 (A : Option Addr) (c : Nat) (x y : Int) (w : World) (hs : Sl w A [x, y]) (b : Bool) (hb : ([x, y] : List Int).any neg1 = b) :
    Calls Tryz.prog 163 #[.slice A 2 c, .func (.func 164) #[] #[]] w fun e w' => e = .returned (.bool b) ∧ w = w' := by
  subst hb
  exact contains_neg1 A c [x, y] w (by simp) hs
theorem has0_non0 (A : Option Addr) (c : Nat) (w : World) (hs : Sl w A []) (b : Bool) (hb : ([] : List Int).any non0 = b) :
    Calls Tryz.prog 163 #[.slice A 0 c, .func (.func 165) #[] #[]] w fun e w' => e = .returned (.bool b) ∧ w = w' := by
  subst hb
  exact contains_non0 A c [] w (by simp) hs
theorem has1_non0 (A : Option Addr) (c : Nat) (x : Int) (w : World) (hs : Sl w A [x]) (b : Bool) (hb : ([x] : List Int).any non0 = b) :
    Calls Tryz.prog 163 #[.slice A 1 c, .func (.func 165) #[] #[]] w fun e w' => e = .returned (.bool b) ∧ w = w' := by
  subst hb
  exact contains_non0 A c [x] w (by simp) hs
theorem has2_non0 (A : Option Addr) (c : Nat) (x y : Int) (w : World) (hs : Sl w A [x, y]) (b : Bool) (hb : ([x, y] : List Int).any non0 = b) :
    Calls Tryz.prog 163 #[.slice A 2 c, .func (.func 165) #[] #[]] w fun e w' => e = .returned (.bool b) ∧ w = w' := by
  subst hb
  exact contains_non0 A c [x, y] w (by simp) hs
theorem has0_over (A : Option Addr) (c : Nat) (w : World) (hs : Sl w A []) (b : Bool) (hb : ([] : List Int).any over = b) :
    Calls Tryz.prog 163 #[.slice A 0 c, .func (.func 166) #[] #[]] w fun e w' => e = .returned (.bool b) ∧ w = w' := by
  subst hb
  exact contains_over A c [] w (by simp) hs
theorem has1_over (A : Option Addr) (c : Nat) (x : Int) (w : World) (hs : Sl w A [x]) (b : Bool) (hb : ([x] : List Int).any over = b) :
    Calls Tryz.prog 163 #[.slice A 1 c, .func (.func 166) #[] #[]] w fun e w' => e = .returned (.bool b) ∧ w = w' := by
  subst hb
  exact contains_over A c [x] w (by simp) hs
theorem has2_over (A : Option Addr) (c : Nat) (x y : Int) (w : World) (hs : Sl w A [x, y]) (b : Bool) (hb : ([x, y] : List Int).any over = b) :
    Calls Tryz.prog 163 #[.slice A 2 c, .func (.func 166) #[] #[]] w fun e w' => e = .returned (.bool b) ∧ w = w' := by
  subst hb
  exact contains_over A c [x, y] w (by simp) hs
theorem sl_box1 (w : World) (t : TypeId) (l0 l1 : Int) (n : Nat) : Sl ((w.alloc (.cells #[.int .i64 l0, .int .i64 l1] t)).drewN n) (some ⟨w.heap.size, 0, none⟩) [l0] := fun _ =>
  ⟨_, _, rfl, by simp [World.drewN], fun j hj => by
    obtain rfl : j = 0 := by simpa using hj
    show ((w.alloc (.cells #[.int .i64 l0, .int .i64 l1] t))).cell? _ = _
    rw [World.cell?_alloc_at (hn := rfl)]; rfl⟩
theorem sl_box2 (w : World) (t : TypeId) (l0 l1 : Int) (n : Nat) : Sl ((w.alloc (.cells #[.int .i64 l0, .int .i64 l1] t)).drewN n) (some ⟨w.heap.size, 0, none⟩) [l0, l1] := fun _ =>
  ⟨_, _, rfl, by simp [World.drewN], fun j hj => by
    show ((w.alloc (.cells #[.int .i64 l0, .int .i64 l1] t))).cell? _ = _
    rw [World.cell?_alloc_at (hn := rfl)]
    match j, hj with
    | 0, _ => rfl
    | 1, _ => rfl⟩
theorem sl_box3 (w : World) (t : TypeId) (l0 l1 : Int) (n : Nat) : Sl ((w.alloc (.cells #[.int .i64 l0, .int .i64 l1] t)).drewN n) (some ⟨w.heap.size, 1, none⟩) [l1] := fun _ =>
  ⟨_, _, rfl, by simp [World.drewN], fun j hj => by
    obtain rfl : j = 0 := by simpa using hj
    show ((w.alloc (.cells #[.int .i64 l0, .int .i64 l1] t))).cell? _ = _
    rw [World.cell?_alloc_at (hn := rfl)]; rfl⟩
end Ar
end Go.Proofs.YtaelfhjdmljblaaGreatDoor
/-
What is wrong with a shape: contracts of Check and Cells, of the program and of the reference (chapter 5).
-/
set_option linter.unusedSimpArgs false
set_option linter.unusedVariables false
namespace Go.Proofs.YtaelfhjdmljblaaGreatDoor
namespace Ar
open Go.RowKit Sc
theorem prod_bounds {a b : Int} (h1 : 0 ≤ a) (h2 : a ≤ 400) (h3 : 0 ≤ b) (h4 : b ≤ 400) : 0 ≤ a * b ∧ a * b ≤ 160000 :=
  ⟨Int.mul_nonneg h1 h3, by have := Int.mul_le_mul h2 h4 h3 (by omega : (0 : Int) ≤ 400); omega⟩
theorem check_out (r l0 l1 : Int) (h : r < 0 ∨ 2 < r) (w : World) : Calls Tryz.prog 111 #[.int .i64 r, .agg #[.int .i64 l0, .int .i64 l1]] w fun e w' => e = .returned (.int .i64 7) ∧ Below w.heap.size w w' := by
  by_cases a : r < 0
  all_goals
    go_enter Tryz.func111, Tryz.ntmps111
    go_wp2
    go_ret
    exact ⟨rfl, by (repeat (first | exact Below.refl _ _ | assumption | (refine bl_then ?_ (by assumption)) | (refine bl_alloc ?_ _) | (refine bl_dn ?_ _) | (refine bl_drew ?_)))⟩
theorem check_0f (l0 l1 : Int) (h : l0 ≠ 0 ∨ l1 ≠ 0) (w : World) : Calls Tryz.prog 111 #[.int .i64 0, .agg #[.int .i64 l0, .int .i64 l1]] w fun e w' => e = .returned (.int .i64 6) ∧ Below w.heap.size w w' := by
  have Bneg1 : Hid (([] : List Int).any neg1 = false) := rfl
  have Bnon0 : Hid (([l0, l1] : List Int).any non0 = true) := by simp [Hid, non0]; omega
  clear h
  go_enter Tryz.func111, Tryz.ntmps111
  go_wp2
  go_quiet (fail)
  go_wp2_with (first | (go_at_call 163; with_reducible (refine (has0_neg1 _ _  _ (Sl.nil _ _) _ Bneg1.out).mono ?_); rintro e w' ⟨rfl, rfl⟩) | (go_at_call 163; with_reducible (refine (has2_non0 _ _ l0  l1 _ (sl_box2 _ _ _ _ _) _ Bnon0.out).mono ?_); rintro e w' ⟨rfl, rfl⟩))
  go_ret
  exact ⟨rfl, by (repeat (first | exact Below.refl _ _ | assumption | (refine bl_then ?_ (by assumption)) | (refine bl_alloc ?_ _) | (refine bl_dn ?_ _) | (refine bl_drew ?_)))⟩
theorem check_0t (l0 l1 : Int) (h0 : l0 = 0) (h1 : l1 = 0) (w : World) : Calls Tryz.prog 111 #[.int .i64 0, .agg #[.int .i64 l0, .int .i64 l1]] w fun e w' => e = .returned (.int .i64 0) ∧ Below w.heap.size w w' := by
  have Bneg1 : Hid (([] : List Int).any neg1 = false) := rfl
  have Bnon0 : Hid (([l0, l1] : List Int).any non0 = false) := by simp [Hid, non0]; omega
  have Bover : Hid (([] : List Int).any over = false) := rfl
  clear h0 h1
  go_enter Tryz.func111, Tryz.ntmps111
  go_wp2
  go_quiet (fail)
  go_wp2_with (first | (go_at_call 163; with_reducible (refine (has0_neg1 _ _  _ (Sl.nil _ _) _ Bneg1.out).mono ?_); rintro e w' ⟨rfl, rfl⟩) | (go_at_call 163; with_reducible (refine (has2_non0 _ _ l0  l1 _ (sl_box2 _ _ _ _ _) _ Bnon0.out).mono ?_); rintro e w' ⟨rfl, rfl⟩) | (go_at_call 163; with_reducible (refine (has0_over _ _  _ (Sl.nil _ _) _ Bover.out).mono ?_); rintro e w' ⟨rfl, rfl⟩) | (go_at_call 112; refine (product_0 l0 l1  _).mono ?_; rintro e w' ⟨rfl, hg⟩))
  go_ret
  exact ⟨rfl, by (repeat (first | exact Below.refl _ _ | assumption | (refine bl_then ?_ (by assumption)) | (refine bl_alloc ?_ _) | (refine bl_dn ?_ _) | (refine bl_drew ?_)))⟩
theorem check_1n (l0 l1 : Int) (h : l0 < 0) (w : World) : Calls Tryz.prog 111 #[.int .i64 1, .agg #[.int .i64 l0, .int .i64 l1]] w fun e w' => e = .returned (.int .i64 7) ∧ Below w.heap.size w w' := by
  have Bneg1 : Hid (([l0] : List Int).any neg1 = true) := by simp [Hid, neg1]; omega
  clear h
  go_enter Tryz.func111, Tryz.ntmps111
  go_wp2
  go_quiet (fail)
  go_wp2_with (first | (go_at_call 163; with_reducible (refine (has1_neg1 _ _ l0 _ (sl_box1 _ _ _ _ _) _ Bneg1.out).mono ?_); rintro e w' ⟨rfl, rfl⟩))
  go_ret
  exact ⟨rfl, by (repeat (first | exact Below.refl _ _ | assumption | (refine bl_then ?_ (by assumption)) | (refine bl_alloc ?_ _) | (refine bl_dn ?_ _) | (refine bl_drew ?_)))⟩
theorem check_1f (l0 l1 : Int) (h : 0 ≤ l0) (h1 : l1 ≠ 0) (w : World) : Calls Tryz.prog 111 #[.int .i64 1, .agg #[.int .i64 l0, .int .i64 l1]] w fun e w' => e = .returned (.int .i64 6) ∧ Below w.heap.size w w' := by
  have Bneg1 : Hid (([l0] : List Int).any neg1 = false) := by simp [Hid, neg1]; omega
  have Bnon0 : Hid (([l1] : List Int).any non0 = true) := by simp [Hid, non0]; omega
  clear h h1
  go_enter Tryz.func111, Tryz.ntmps111
  go_wp2
  go_quiet (fail)
  go_wp2_with (first | (go_at_call 163; with_reducible (refine (has1_neg1 _ _ l0 _ (sl_box1 _ _ _ _ _) _ Bneg1.out).mono ?_); rintro e w' ⟨rfl, rfl⟩) | (go_at_call 163; with_reducible (refine (has1_non0 _ _ l1 _ (sl_box3 _ _ _ _ _) _ Bnon0.out).mono ?_); rintro e w' ⟨rfl, rfl⟩))
  go_ret
  exact ⟨rfl, by (repeat (first | exact Below.refl _ _ | assumption | (refine bl_then ?_ (by assumption)) | (refine bl_alloc ?_ _) | (refine bl_dn ?_ _) | (refine bl_drew ?_)))⟩
theorem check_1o (l0 l1 : Int) (h : 400 < l0) (h1 : l1 = 0) (w : World) : Calls Tryz.prog 111 #[.int .i64 1, .agg #[.int .i64 l0, .int .i64 l1]] w fun e w' => e = .returned (.int .i64 15) ∧ Below w.heap.size w w' := by
  have Bneg1 : Hid (([l0] : List Int).any neg1 = false) := by simp [Hid, neg1]; omega
  have Bnon0 : Hid (([l1] : List Int).any non0 = false) := by simp [Hid, non0]; omega
  have Bover : Hid (([l0] : List Int).any over = true) := by simp [Hid, over]; omega
  clear h h1
  go_enter Tryz.func111, Tryz.ntmps111
  go_wp2
  go_quiet (fail)
  go_wp2_with (first | (go_at_call 163; with_reducible (refine (has1_neg1 _ _ l0 _ (sl_box1 _ _ _ _ _) _ Bneg1.out).mono ?_); rintro e w' ⟨rfl, rfl⟩) | (go_at_call 163; with_reducible (refine (has1_non0 _ _ l1 _ (sl_box3 _ _ _ _ _) _ Bnon0.out).mono ?_); rintro e w' ⟨rfl, rfl⟩) | (go_at_call 163; with_reducible (refine (has1_over _ _ l0 _ (sl_box1 _ _ _ _ _) _ Bover.out).mono ?_); rintro e w' ⟨rfl, rfl⟩))
  go_ret
  exact ⟨rfl, by (repeat (first | exact Below.refl _ _ | assumption | (refine bl_then ?_ (by assumption)) | (refine bl_alloc ?_ _) | (refine bl_dn ?_ _) | (refine bl_drew ?_)))⟩
theorem check_1t (l0 l1 : Int) (h : 0 ≤ l0) (h2 : l0 ≤ 400) (h1 : l1 = 0) (w : World) : Calls Tryz.prog 111 #[.int .i64 1, .agg #[.int .i64 l0, .int .i64 l1]] w fun e w' => e = .returned (.int .i64 0) ∧ Below w.heap.size w w' := by
  have Bneg1 : Hid (([l0] : List Int).any neg1 = false) := by simp [Hid, neg1]; omega
  have Bnon0 : Hid (([l1] : List Int).any non0 = false) := by simp [Hid, non0]; omega
  have Bover : Hid (([l0] : List Int).any over = false) := by simp [Hid, over]; omega
  have hf := hide (show Fits l0 by unfold Fits; omega)
  have k1 : l0 ≤ 400 := by omega
  clear h h2 h1
  go_enter Tryz.func111, Tryz.ntmps111
  go_wp2
  go_quiet (fail)
  go_wp2_with (first | (go_at_call 163; with_reducible (refine (has1_neg1 _ _ l0 _ (sl_box1 _ _ _ _ _) _ Bneg1.out).mono ?_); rintro e w' ⟨rfl, rfl⟩) | (go_at_call 163; with_reducible (refine (has1_non0 _ _ l1 _ (sl_box3 _ _ _ _ _) _ Bnon0.out).mono ?_); rintro e w' ⟨rfl, rfl⟩) | (go_at_call 163; with_reducible (refine (has1_over _ _ l0 _ (sl_box1 _ _ _ _ _) _ Bover.out).mono ?_); rintro e w' ⟨rfl, rfl⟩) | (go_at_call 112; refine (product_1 l0 l1 hf.out _).mono ?_; rintro e w' ⟨rfl, hg⟩))
  go_ret
  exact ⟨rfl, by (repeat (first | exact Below.refl _ _ | assumption | (refine bl_then ?_ (by assumption)) | (refine bl_alloc ?_ _) | (refine bl_dn ?_ _) | (refine bl_drew ?_)))⟩
theorem check_2n (l0 l1 : Int) (h : l0 < 0 ∨ l1 < 0) (w : World) : Calls Tryz.prog 111 #[.int .i64 2, .agg #[.int .i64 l0, .int .i64 l1]] w fun e w' => e = .returned (.int .i64 7) ∧ Below w.heap.size w w' := by
  have Bneg1 : Hid (([l0, l1] : List Int).any neg1 = true) := by simp [Hid, neg1]; omega
  clear h
  go_enter Tryz.func111, Tryz.ntmps111
  go_wp2
  go_quiet (fail)
  go_wp2_with (first | (go_at_call 163; with_reducible (refine (has2_neg1 _ _ l0  l1 _ (sl_box2 _ _ _ _ _) _ Bneg1.out).mono ?_); rintro e w' ⟨rfl, rfl⟩))
  go_ret
  exact ⟨rfl, by (repeat (first | exact Below.refl _ _ | assumption | (refine bl_then ?_ (by assumption)) | (refine bl_alloc ?_ _) | (refine bl_dn ?_ _) | (refine bl_drew ?_)))⟩
theorem check_2o (l0 l1 : Int) (h0 : 0 ≤ l0) (h1 : 0 ≤ l1) (h : 400 < l0 ∨ 400 < l1) (w : World) : Calls Tryz.prog 111 #[.int .i64 2, .agg #[.int .i64 l0, .int .i64 l1]] w fun e w' => e = .returned (.int .i64 15) ∧ Below w.heap.size w w' := by
  have Bneg1 : Hid (([l0, l1] : List Int).any neg1 = false) := by simp [Hid, neg1]; omega
  have Bnon0 : Hid (([] : List Int).any non0 = false) := rfl
  have Bover : Hid (([l0, l1] : List Int).any over = true) := by simp [Hid, over]; omega
  clear h0 h1 h
  go_enter Tryz.func111, Tryz.ntmps111
  go_wp2
  go_quiet (fail)
  go_wp2_with (first | (go_at_call 163; with_reducible (refine (has2_neg1 _ _ l0  l1 _ (sl_box2 _ _ _ _ _) _ Bneg1.out).mono ?_); rintro e w' ⟨rfl, rfl⟩) | (go_at_call 163; with_reducible (refine (has0_non0 _ _  _ (Sl.nil _ _) _ Bnon0.out).mono ?_); rintro e w' ⟨rfl, rfl⟩) | (go_at_call 163; with_reducible (refine (has2_over _ _ l0  l1 _ (sl_box2 _ _ _ _ _) _ Bover.out).mono ?_); rintro e w' ⟨rfl, rfl⟩))
  go_ret
  exact ⟨rfl, by (repeat (first | exact Below.refl _ _ | assumption | (refine bl_then ?_ (by assumption)) | (refine bl_alloc ?_ _) | (refine bl_dn ?_ _) | (refine bl_drew ?_)))⟩
theorem check_2p (l0 l1 : Int) (hq : 400 < l0 * l1) (h0 : 0 ≤ l0) (k0 : l0 ≤ 400) (h1 : 0 ≤ l1) (k1 : l1 ≤ 400) (w : World) : Calls Tryz.prog 111 #[.int .i64 2, .agg #[.int .i64 l0, .int .i64 l1]] w fun e w' => e = .returned (.int .i64 15) ∧ Below w.heap.size w w' := by
  have Bneg1 : Hid (([l0, l1] : List Int).any neg1 = false) := by simp [Hid, neg1]; omega
  have Bnon0 : Hid (([] : List Int).any non0 = false) := rfl
  have Bover : Hid (([l0, l1] : List Int).any over = false) := by simp [Hid, over]; omega
  have hp := prod_bounds h0 k0 h1 k1
  have hf := hide (show Fits (l0 * l1) by unfold Fits; omega)
  have f0 := hide (show Fits l0 by unfold Fits; omega)
  have f1 := hide (show Fits l1 by unfold Fits; omega)
  clear hp
  clear h0 k0 h1 k1
  go_enter Tryz.func111, Tryz.ntmps111
  go_wp2
  go_quiet (fail)
  go_wp2_with (first | (go_at_call 163; with_reducible (refine (has2_neg1 _ _ l0  l1 _ (sl_box2 _ _ _ _ _) _ Bneg1.out).mono ?_); rintro e w' ⟨rfl, rfl⟩) | (go_at_call 163; with_reducible (refine (has0_non0 _ _  _ (Sl.nil _ _) _ Bnon0.out).mono ?_); rintro e w' ⟨rfl, rfl⟩) | (go_at_call 163; with_reducible (refine (has2_over _ _ l0  l1 _ (sl_box2 _ _ _ _ _) _ Bover.out).mono ?_); rintro e w' ⟨rfl, rfl⟩) | (go_at_call 112; refine (product_2 l0 l1 hf.out f0.out f1.out _).mono ?_; rintro e w' ⟨rfl, hg⟩))
  go_ret
  exact ⟨rfl, by (repeat (first | exact Below.refl _ _ | assumption | (refine bl_then ?_ (by assumption)) | (refine bl_alloc ?_ _) | (refine bl_dn ?_ _) | (refine bl_drew ?_)))⟩
theorem check_2t (l0 l1 : Int) (hq : l0 * l1 ≤ 400) (h0 : 0 ≤ l0) (k0 : l0 ≤ 400) (h1 : 0 ≤ l1) (k1 : l1 ≤ 400) (w : World) : Calls Tryz.prog 111 #[.int .i64 2, .agg #[.int .i64 l0, .int .i64 l1]] w fun e w' => e = .returned (.int .i64 0) ∧ Below w.heap.size w w' := by
  have Bneg1 : Hid (([l0, l1] : List Int).any neg1 = false) := by simp [Hid, neg1]; omega
  have Bnon0 : Hid (([] : List Int).any non0 = false) := rfl
  have Bover : Hid (([l0, l1] : List Int).any over = false) := by simp [Hid, over]; omega
  have hp := prod_bounds h0 k0 h1 k1
  have hf := hide (show Fits (l0 * l1) by unfold Fits; omega)
  have f0 := hide (show Fits l0 by unfold Fits; omega)
  have f1 := hide (show Fits l1 by unfold Fits; omega)
  clear hp
  clear h0 k0 h1 k1
  go_enter Tryz.func111, Tryz.ntmps111
  go_wp2
  go_quiet (fail)
  go_wp2_with (first | (go_at_call 163; with_reducible (refine (has2_neg1 _ _ l0  l1 _ (sl_box2 _ _ _ _ _) _ Bneg1.out).mono ?_); rintro e w' ⟨rfl, rfl⟩) | (go_at_call 163; with_reducible (refine (has0_non0 _ _  _ (Sl.nil _ _) _ Bnon0.out).mono ?_); rintro e w' ⟨rfl, rfl⟩) | (go_at_call 163; with_reducible (refine (has2_over _ _ l0  l1 _ (sl_box2 _ _ _ _ _) _ Bover.out).mono ?_); rintro e w' ⟨rfl, rfl⟩) | (go_at_call 112; refine (product_2 l0 l1 hf.out f0.out f1.out _).mono ?_; rintro e w' ⟨rfl, hg⟩))
  go_ret
  exact ⟨rfl, by (repeat (first | exact Below.refl _ _ | assumption | (refine bl_then ?_ (by assumption)) | (refine bl_alloc ?_ _) | (refine bl_dn ?_ _) | (refine bl_drew ?_)))⟩
/-- what Check says of a shape, of the program -/
theorem check_any (r l0 l1 : Int) (w : World) : Calls Tryz.prog 111 #[.int .i64 r, .agg #[.int .i64 l0, .int .i64 l1]] w fun e w' => e = .returned (.int .i64 (shCheck r l0 l1)) ∧ Below w.heap.size w w' := by
  by_cases a : r < 0 ∨ 2 < r
  · rw [show shCheck r l0 l1 = 7 from if_pos a]; exact check_out r l0 l1 a w
  obtain rfl | rfl | rfl : r = 0 ∨ r = 1 ∨ r = 2 := by omega
  · by_cases b : l0 ≠ 0 ∨ l1 ≠ 0
    · rw [sh_0f b]; exact check_0f l0 l1 b w
    · rw [sh_0t (by omega) (by omega)]; exact check_0t l0 l1 (by omega) (by omega) w
  · by_cases b : l0 < 0
    · rw [sh_1n b]; exact check_1n l0 l1 b w
    · by_cases c : l1 = 0
      · by_cases d : 400 < l0
        · rw [sh_1o d c]; exact check_1o l0 l1 d c w
        · rw [sh_1t (by omega) (by omega) c]; exact check_1t l0 l1 (by omega) (by omega) c w
      · rw [sh_1f (by omega) c]; exact check_1f l0 l1 (by omega) c w
  · by_cases b : l0 < 0 ∨ l1 < 0
    · rw [sh_2n b]; exact check_2n l0 l1 b w
    · by_cases c : 400 < l0 ∨ 400 < l1
      · rw [sh_2o (by omega) (by omega) c]; exact check_2o l0 l1 (by omega) (by omega) c w
      · by_cases d : 400 < l0 * l1
        · rw [sh_2p (by omega) (by omega) d]; exact check_2p l0 l1 d (by omega) (by omega) (by omega) (by omega) w
        · rw [sh_2t (by omega) (by omega) (by omega) (by omega) (by omega)]; exact check_2t l0 l1 (by omega) (by omega) (by omega) (by omega) (by omega) w
namespace Ref
theorem check_out (r l0 l1 : Int) (h : r < 0 ∨ 2 < r) (w : World) : Calls Tryz.prog 88 #[.int .i64 r, .agg #[.int .i64 l0, .int .i64 l1]] w fun e w' => e = .returned (.int .i64 7) ∧ Below w.heap.size w w' := by
  by_cases a : r < 0
  all_goals
    go_enter Tryz.func88, Tryz.ntmps88
    go_wp2
    go_ret
    exact ⟨rfl, by (repeat (first | exact Below.refl _ _ | assumption | (refine bl_then ?_ (by assumption)) | (refine bl_alloc ?_ _) | (refine bl_dn ?_ _) | (refine bl_drew ?_)))⟩
theorem check_0f0 (l0 l1 : Int) (h : l0 ≠ 0) (w : World) : Calls Tryz.prog 88 #[.int .i64 0, .agg #[.int .i64 l0, .int .i64 l1]] w fun e w' => e = .returned (.int .i64 6) ∧ Below w.heap.size w w' := by
  have nl0 : (l0 != 0) = true := by simp; omega
  go_enter Tryz.func88, Tryz.ntmps88
  go_wp2_with (fail)
  refine wp_loop_rounds 1 ?_
  repeat any_goals (rw [rounds_succ]; go_wp2_with (fail))
  refine wp_loop_rounds 1 ?_
  repeat any_goals (rw [rounds_succ]; go_wp2_with (fail))
  go_ret
  exact ⟨rfl, by (repeat (first | exact Below.refl _ _ | assumption | (refine bl_then ?_ (by assumption)) | (refine bl_alloc ?_ _) | (refine bl_dn ?_ _) | (refine bl_drew ?_)))⟩
theorem check_0f1 (l0 l1 : Int) (h : l0 = 0) (h1 : l1 ≠ 0) (w : World) : Calls Tryz.prog 88 #[.int .i64 0, .agg #[.int .i64 l0, .int .i64 l1]] w fun e w' => e = .returned (.int .i64 6) ∧ Below w.heap.size w w' := by
  subst h
  have nl1 : (l1 != 0) = true := by simp; omega
  go_enter Tryz.func88, Tryz.ntmps88
  go_wp2_with (fail)
  refine wp_loop_rounds 1 ?_
  repeat any_goals (rw [rounds_succ]; go_wp2_with (fail))
  refine wp_loop_rounds 2 ?_
  repeat any_goals (rw [rounds_succ]; go_wp2_with (fail))
  go_ret
  exact ⟨rfl, by (repeat (first | exact Below.refl _ _ | assumption | (refine bl_then ?_ (by assumption)) | (refine bl_alloc ?_ _) | (refine bl_dn ?_ _) | (refine bl_drew ?_)))⟩
theorem check_0t (l0 l1 : Int) (h : l0 = 0) (h1 : l1 = 0) (w : World) : Calls Tryz.prog 88 #[.int .i64 0, .agg #[.int .i64 l0, .int .i64 l1]] w fun e w' => e = .returned (.int .i64 0) ∧ Below w.heap.size w w' := by
  subst h; subst h1
  go_enter Tryz.func88, Tryz.ntmps88
  go_wp2_with ((go_at_call 89; refine (many_0 0 0  _).mono ?_; rintro e w' ⟨rfl, hg⟩))
  refine wp_loop_rounds 1 ?_
  repeat any_goals (rw [rounds_succ]; go_wp2_with ((go_at_call 89; refine (many_0 0 0  _).mono ?_; rintro e w' ⟨rfl, hg⟩)))
  refine wp_loop_rounds 3 ?_
  repeat any_goals (rw [rounds_succ]; go_wp2_with ((go_at_call 89; refine (many_0 0 0  _).mono ?_; rintro e w' ⟨rfl, hg⟩)))
  go_ret
  exact ⟨rfl, by (repeat (first | exact Below.refl _ _ | assumption | (refine bl_then ?_ (by assumption)) | (refine bl_alloc ?_ _) | (refine bl_dn ?_ _) | (refine bl_drew ?_)))⟩
theorem check_1n (l0 l1 : Int) (h : l0 < 0) (w : World) : Calls Tryz.prog 88 #[.int .i64 1, .agg #[.int .i64 l0, .int .i64 l1]] w fun e w' => e = .returned (.int .i64 7) ∧ Below w.heap.size w w' := by
  go_enter Tryz.func88, Tryz.ntmps88
  go_wp2_with (fail)
  refine wp_loop_rounds 1 ?_
  repeat any_goals (rw [rounds_succ]; go_wp2_with (fail))
  go_ret
  exact ⟨rfl, by (repeat (first | exact Below.refl _ _ | assumption | (refine bl_then ?_ (by assumption)) | (refine bl_alloc ?_ _) | (refine bl_dn ?_ _) | (refine bl_drew ?_)))⟩
theorem check_1f (l0 l1 : Int) (h : 0 ≤ l0) (h1 : l1 ≠ 0) (w : World) : Calls Tryz.prog 88 #[.int .i64 1, .agg #[.int .i64 l0, .int .i64 l1]] w fun e w' => e = .returned (.int .i64 6) ∧ Below w.heap.size w w' := by
  have nl1 : (l1 != 0) = true := by simp; omega
  go_enter Tryz.func88, Tryz.ntmps88
  go_wp2_with (fail)
  refine wp_loop_rounds 2 ?_
  repeat any_goals (rw [rounds_succ]; go_wp2_with (fail))
  refine wp_loop_rounds 1 ?_
  repeat any_goals (rw [rounds_succ]; go_wp2_with (fail))
  go_ret
  exact ⟨rfl, by (repeat (first | exact Below.refl _ _ | assumption | (refine bl_then ?_ (by assumption)) | (refine bl_alloc ?_ _) | (refine bl_dn ?_ _) | (refine bl_drew ?_)))⟩
theorem check_1o (l0 l1 : Int) (h : 400 < l0) (h1 : l1 = 0) (w : World) : Calls Tryz.prog 88 #[.int .i64 1, .agg #[.int .i64 l0, .int .i64 l1]] w fun e w' => e = .returned (.int .i64 15) ∧ Below w.heap.size w w' := by
  subst h1
  go_enter Tryz.func88, Tryz.ntmps88
  go_wp2_with (fail)
  refine wp_loop_rounds 2 ?_
  repeat any_goals (rw [rounds_succ]; go_wp2_with (fail))
  refine wp_loop_rounds 2 ?_
  repeat any_goals (rw [rounds_succ]; go_wp2_with (fail))
  go_ret
  exact ⟨rfl, by (repeat (first | exact Below.refl _ _ | assumption | (refine bl_then ?_ (by assumption)) | (refine bl_alloc ?_ _) | (refine bl_dn ?_ _) | (refine bl_drew ?_)))⟩
theorem check_1t (l0 l1 : Int) (h : 0 ≤ l0) (h2 : l0 ≤ 400) (h1 : l1 = 0) (w : World) : Calls Tryz.prog 88 #[.int .i64 1, .agg #[.int .i64 l0, .int .i64 l1]] w fun e w' => e = .returned (.int .i64 0) ∧ Below w.heap.size w w' := by
  subst h1
  have hf := hide (show Fits l0 by unfold Fits; omega)
  go_enter Tryz.func88, Tryz.ntmps88
  go_wp2_with ((go_at_call 89; refine (many_1 l0 0 hf.out _).mono ?_; rintro e w' ⟨rfl, hg⟩))
  refine wp_loop_rounds 2 ?_
  repeat any_goals (rw [rounds_succ]; go_wp2_with ((go_at_call 89; refine (many_1 l0 0 hf.out _).mono ?_; rintro e w' ⟨rfl, hg⟩)))
  refine wp_loop_rounds 2 ?_
  repeat any_goals (rw [rounds_succ]; go_wp2_with ((go_at_call 89; refine (many_1 l0 0 hf.out _).mono ?_; rintro e w' ⟨rfl, hg⟩)))
  go_ret
  exact ⟨rfl, by (repeat (first | exact Below.refl _ _ | assumption | (refine bl_then ?_ (by assumption)) | (refine bl_alloc ?_ _) | (refine bl_dn ?_ _) | (refine bl_drew ?_)))⟩
theorem check_2n0 (l0 l1 : Int) (h : l0 < 0) (w : World) : Calls Tryz.prog 88 #[.int .i64 2, .agg #[.int .i64 l0, .int .i64 l1]] w fun e w' => e = .returned (.int .i64 7) ∧ Below w.heap.size w w' := by
  go_enter Tryz.func88, Tryz.ntmps88
  go_wp2_with (fail)
  refine wp_loop_rounds 1 ?_
  repeat any_goals (rw [rounds_succ]; go_wp2_with (fail))
  go_ret
  exact ⟨rfl, by (repeat (first | exact Below.refl _ _ | assumption | (refine bl_then ?_ (by assumption)) | (refine bl_alloc ?_ _) | (refine bl_dn ?_ _) | (refine bl_drew ?_)))⟩
theorem check_2n1 (l0 l1 : Int) (h : 0 ≤ l0) (h1 : l1 < 0) (w : World) : Calls Tryz.prog 88 #[.int .i64 2, .agg #[.int .i64 l0, .int .i64 l1]] w fun e w' => e = .returned (.int .i64 7) ∧ Below w.heap.size w w' := by
  go_enter Tryz.func88, Tryz.ntmps88
  go_wp2_with (fail)
  refine wp_loop_rounds 2 ?_
  repeat any_goals (rw [rounds_succ]; go_wp2_with (fail))
  go_ret
  exact ⟨rfl, by (repeat (first | exact Below.refl _ _ | assumption | (refine bl_then ?_ (by assumption)) | (refine bl_alloc ?_ _) | (refine bl_dn ?_ _) | (refine bl_drew ?_)))⟩
theorem check_2o0 (l0 l1 : Int) (h0 : 0 ≤ l0) (h1 : 0 ≤ l1) (h : 400 < l0) (w : World) : Calls Tryz.prog 88 #[.int .i64 2, .agg #[.int .i64 l0, .int .i64 l1]] w fun e w' => e = .returned (.int .i64 15) ∧ Below w.heap.size w w' := by
  go_enter Tryz.func88, Tryz.ntmps88
  go_wp2_with (fail)
  refine wp_loop_rounds 3 ?_
  repeat any_goals (rw [rounds_succ]; go_wp2_with (fail))
  refine wp_loop_rounds 1 ?_
  repeat any_goals (rw [rounds_succ]; go_wp2_with (fail))
  go_ret
  exact ⟨rfl, by (repeat (first | exact Below.refl _ _ | assumption | (refine bl_then ?_ (by assumption)) | (refine bl_alloc ?_ _) | (refine bl_dn ?_ _) | (refine bl_drew ?_)))⟩
theorem check_2o1 (l0 l1 : Int) (h0 : 0 ≤ l0) (h1 : 0 ≤ l1) (h2 : l0 ≤ 400) (h : 400 < l1) (w : World) : Calls Tryz.prog 88 #[.int .i64 2, .agg #[.int .i64 l0, .int .i64 l1]] w fun e w' => e = .returned (.int .i64 15) ∧ Below w.heap.size w w' := by
  go_enter Tryz.func88, Tryz.ntmps88
  go_wp2_with (fail)
  refine wp_loop_rounds 3 ?_
  repeat any_goals (rw [rounds_succ]; go_wp2_with (fail))
  refine wp_loop_rounds 1 ?_
  repeat any_goals (rw [rounds_succ]; go_wp2_with (fail))
  go_ret
  exact ⟨rfl, by (repeat (first | exact Below.refl _ _ | assumption | (refine bl_then ?_ (by assumption)) | (refine bl_alloc ?_ _) | (refine bl_dn ?_ _) | (refine bl_drew ?_)))⟩
theorem check_2p (l0 l1 : Int) (hq : 400 < l0 * l1) (h0 : 0 ≤ l0) (k0 : l0 ≤ 400) (h1 : 0 ≤ l1) (k1 : l1 ≤ 400) (w : World) : Calls Tryz.prog 88 #[.int .i64 2, .agg #[.int .i64 l0, .int .i64 l1]] w fun e w' => e = .returned (.int .i64 15) ∧ Below w.heap.size w w' := by
  have hp := prod_bounds h0 k0 h1 k1
  have hf := hide (show Fits (l0 * l1) by unfold Fits; omega)
  have f0 := hide (show Fits l0 by unfold Fits; omega)
  have f1 := hide (show Fits l1 by unfold Fits; omega)
  clear hp
  go_enter Tryz.func88, Tryz.ntmps88
  go_wp2_with ((go_at_call 89; refine (many_2 l0 l1 hf.out f0.out f1.out _).mono ?_; rintro e w' ⟨rfl, hg⟩))
  refine wp_loop_rounds 3 ?_
  repeat any_goals (rw [rounds_succ]; go_wp2_with ((go_at_call 89; refine (many_2 l0 l1 hf.out f0.out f1.out _).mono ?_; rintro e w' ⟨rfl, hg⟩)))
  refine wp_loop_rounds 1 ?_
  repeat any_goals (rw [rounds_succ]; go_wp2_with ((go_at_call 89; refine (many_2 l0 l1 hf.out f0.out f1.out _).mono ?_; rintro e w' ⟨rfl, hg⟩)))
  go_ret
  exact ⟨rfl, by (repeat (first | exact Below.refl _ _ | assumption | (refine bl_then ?_ (by assumption)) | (refine bl_alloc ?_ _) | (refine bl_dn ?_ _) | (refine bl_drew ?_)))⟩
theorem check_2t (l0 l1 : Int) (hq : l0 * l1 ≤ 400) (h0 : 0 ≤ l0) (k0 : l0 ≤ 400) (h1 : 0 ≤ l1) (k1 : l1 ≤ 400) (w : World) : Calls Tryz.prog 88 #[.int .i64 2, .agg #[.int .i64 l0, .int .i64 l1]] w fun e w' => e = .returned (.int .i64 0) ∧ Below w.heap.size w w' := by
  have hp := prod_bounds h0 k0 h1 k1
  have hf := hide (show Fits (l0 * l1) by unfold Fits; omega)
  have f0 := hide (show Fits l0 by unfold Fits; omega)
  have f1 := hide (show Fits l1 by unfold Fits; omega)
  clear hp
  go_enter Tryz.func88, Tryz.ntmps88
  go_wp2_with ((go_at_call 89; refine (many_2 l0 l1 hf.out f0.out f1.out _).mono ?_; rintro e w' ⟨rfl, hg⟩))
  refine wp_loop_rounds 3 ?_
  repeat any_goals (rw [rounds_succ]; go_wp2_with ((go_at_call 89; refine (many_2 l0 l1 hf.out f0.out f1.out _).mono ?_; rintro e w' ⟨rfl, hg⟩)))
  refine wp_loop_rounds 1 ?_
  repeat any_goals (rw [rounds_succ]; go_wp2_with ((go_at_call 89; refine (many_2 l0 l1 hf.out f0.out f1.out _).mono ?_; rintro e w' ⟨rfl, hg⟩)))
  go_ret
  exact ⟨rfl, by (repeat (first | exact Below.refl _ _ | assumption | (refine bl_then ?_ (by assumption)) | (refine bl_alloc ?_ _) | (refine bl_dn ?_ _) | (refine bl_drew ?_)))⟩
/-- what Check says of a shape, of the reference -/
theorem check_any (r l0 l1 : Int) (w : World) : Calls Tryz.prog 88 #[.int .i64 r, .agg #[.int .i64 l0, .int .i64 l1]] w fun e w' => e = .returned (.int .i64 (shCheck r l0 l1)) ∧ Below w.heap.size w w' := by
  by_cases a : r < 0 ∨ 2 < r
  · rw [show shCheck r l0 l1 = 7 from if_pos a]; exact check_out r l0 l1 a w
  obtain rfl | rfl | rfl : r = 0 ∨ r = 1 ∨ r = 2 := by omega
  · by_cases b : l0 = 0
    · by_cases c : l1 = 0
      · rw [sh_0t b c]; exact check_0t l0 l1 b c w
      · rw [sh_0f (Or.inr c)]; exact check_0f1 l0 l1 b c w
    · rw [sh_0f (Or.inl b)]; exact check_0f0 l0 l1 b w
  · by_cases b : l0 < 0
    · rw [sh_1n b]; exact check_1n l0 l1 b w
    · by_cases c : l1 = 0
      · by_cases d : 400 < l0
        · rw [sh_1o d c]; exact check_1o l0 l1 d c w
        · rw [sh_1t (by omega) (by omega) c]; exact check_1t l0 l1 (by omega) (by omega) c w
      · rw [sh_1f (by omega) c]; exact check_1f l0 l1 (by omega) c w
  · by_cases b : l0 < 0
    · rw [sh_2n (Or.inl b)]; exact check_2n0 l0 l1 b w
    by_cases b' : l1 < 0
    · rw [sh_2n (Or.inr b')]; exact check_2n1 l0 l1 (by omega) b' w
    · by_cases c : 400 < l0
      · rw [sh_2o (by omega) (by omega) (Or.inl c)]; exact check_2o0 l0 l1 (by omega) (by omega) c w
      by_cases c' : 400 < l1
      · rw [sh_2o (by omega) (by omega) (Or.inr c')]; exact check_2o1 l0 l1 (by omega) (by omega) (by omega) c' w
      · by_cases d : 400 < l0 * l1
        · rw [sh_2p (by omega) (by omega) d]; exact check_2p l0 l1 d (by omega) (by omega) (by omega) (by omega) w
        · rw [sh_2t (by omega) (by omega) (by omega) (by omega) (by omega)]; exact check_2t l0 l1 (by omega) (by omega) (by omega) (by omega) (by omega) w
end Ref
theorem cells_bad (r l0 l1 : Int) (h : shCheck r l0 l1 ≠ 0) (w : World) : Calls Tryz.prog 52 #[.int .i64 r, .agg #[.int .i64 l0, .int .i64 l1]] w fun e w' => e = ret2 (0, shCheck r l0 l1) ∧ Below w.heap.size w w' := by
  have c0 : (shCheck r l0 l1 != 0) = true := by simpa using h
  have c1 : (shCheck r l0 l1 == 0) = false := by simpa using h
  clear h
  go_enter Tryz.func52, Tryz.ntmps52
  go_wp2_with (go_at_call 111; refine (check_any r l0 l1 _).mono ?_; rintro e w' ⟨rfl, hg⟩; obtain ⟨hc, hf, hz⟩ := bcell hg)
  go_ret2
  exact ⟨rfl, by (repeat (first | exact Below.refl _ _ | assumption | (refine bl_then ?_ (by assumption)) | (refine bl_alloc ?_ _) | (refine bl_dn ?_ _) | (refine bl_drew ?_)))⟩
theorem cells_0 (l0 l1 : Int) (h : shCheck 0 l0 l1 = 0) (w : World) : Calls Tryz.prog 52 #[.int .i64 0, .agg #[.int .i64 l0, .int .i64 l1]] w fun e w' => e = ret2 (1, 0) ∧ Below w.heap.size w w' := by
  go_enter Tryz.func52, Tryz.ntmps52
  go_wp2_with (first | (go_at_call 111; refine (check_any 0 l0 l1 _).mono ?_; rintro e w' ⟨rfl, hg⟩; obtain ⟨hc, hf, hz⟩ := bcell hg) | (go_at_call 112; refine (product_0 l0 l1  _).mono ?_; rintro e w' ⟨rfl, hg⟩; obtain ⟨hc, hf, hz⟩ := bcell hg))
  go_ret2
  exact ⟨rfl, by (repeat (first | exact Below.refl _ _ | assumption | (refine bl_then ?_ (by assumption)) | (refine bl_alloc ?_ _) | (refine bl_dn ?_ _) | (refine bl_drew ?_)))⟩
theorem cells_1 (l0 l1 : Int) (h : shCheck 1 l0 l1 = 0) (f0 : Fits l0) (w : World) : Calls Tryz.prog 52 #[.int .i64 1, .agg #[.int .i64 l0, .int .i64 l1]] w fun e w' => e = ret2 (l0, 0) ∧ Below w.heap.size w w' := by
  have f0' := hide f0
  clear f0
  go_enter Tryz.func52, Tryz.ntmps52
  go_wp2_with (first | (go_at_call 111; refine (check_any 1 l0 l1 _).mono ?_; rintro e w' ⟨rfl, hg⟩; obtain ⟨hc, hf, hz⟩ := bcell hg) | (go_at_call 112; refine (product_1 l0 l1 f0'.out _).mono ?_; rintro e w' ⟨rfl, hg⟩; obtain ⟨hc, hf, hz⟩ := bcell hg))
  go_ret2
  exact ⟨rfl, by (repeat (first | exact Below.refl _ _ | assumption | (refine bl_then ?_ (by assumption)) | (refine bl_alloc ?_ _) | (refine bl_dn ?_ _) | (refine bl_drew ?_)))⟩
theorem cells_2 (l0 l1 : Int) (h : shCheck 2 l0 l1 = 0) (f0 : Fits l0) (f1 : Fits l1) (f : Fits (l0 * l1)) (w : World) : Calls Tryz.prog 52 #[.int .i64 2, .agg #[.int .i64 l0, .int .i64 l1]] w fun e w' => e = ret2 (l0 * l1, 0) ∧ Below w.heap.size w w' := by
  have f0' := hide f0
  clear f0
  have f1' := hide f1
  clear f1
  have f' := hide f
  clear f
  go_enter Tryz.func52, Tryz.ntmps52
  go_wp2_with (first | (go_at_call 111; refine (check_any 2 l0 l1 _).mono ?_; rintro e w' ⟨rfl, hg⟩; obtain ⟨hc, hf, hz⟩ := bcell hg) | (go_at_call 112; refine (product_2 l0 l1 f'.out f0'.out f1'.out _).mono ?_; rintro e w' ⟨rfl, hg⟩; obtain ⟨hc, hf, hz⟩ := bcell hg))
  go_ret2
  exact ⟨rfl, by (repeat (first | exact Below.refl _ _ | assumption | (refine bl_then ?_ (by assumption)) | (refine bl_alloc ?_ _) | (refine bl_dn ?_ _) | (refine bl_drew ?_)))⟩
theorem cells_any (r l0 l1 : Int) (f0 : Fits l0) (f1 : Fits l1) (w : World) : Calls Tryz.prog 52 #[.int .i64 r, .agg #[.int .i64 l0, .int .i64 l1]] w fun e w' => e = ret2 (cellsOf r l0 l1) ∧ Below w.heap.size w w' := by
  by_cases h : shCheck r l0 l1 = 0
  · rw [show cellsOf r l0 l1 = (prod r l0 l1, 0) from if_neg (by simpa using h)]
    obtain ⟨hr, hp⟩ := sh_ok h
    obtain rfl | rfl | rfl := hr
    · exact cells_0 l0 l1 h w
    · exact cells_1 l0 l1 h f0 w
    · exact cells_2 l0 l1 h f0 f1 (by unfold Fits; rw [prod_2] at hp; omega) w
  · rw [show cellsOf r l0 l1 = (0, shCheck r l0 l1) from if_pos h]; exact cells_bad r l0 l1 h w
theorem Ref.cells_bad (r l0 l1 : Int) (h : shCheck r l0 l1 ≠ 0) (w : World) : Calls Tryz.prog 43 #[.int .i64 r, .agg #[.int .i64 l0, .int .i64 l1]] w fun e w' => e = ret2 (0, shCheck r l0 l1) ∧ Below w.heap.size w w' := by
  have c0 : (shCheck r l0 l1 != 0) = true := by simpa using h
  have c1 : (shCheck r l0 l1 == 0) = false := by simpa using h
  clear h
  go_enter Tryz.func43, Tryz.ntmps43
  go_wp2_with (go_at_call 88; refine (Ref.check_any r l0 l1 _).mono ?_; rintro e w' ⟨rfl, hg⟩; obtain ⟨hc, hf, hz⟩ := bcell hg)
  go_ret2
  exact ⟨rfl, by (repeat (first | exact Below.refl _ _ | assumption | (refine bl_then ?_ (by assumption)) | (refine bl_alloc ?_ _) | (refine bl_dn ?_ _) | (refine bl_drew ?_)))⟩
theorem Ref.cells_0 (l0 l1 : Int) (h : shCheck 0 l0 l1 = 0) (w : World) : Calls Tryz.prog 43 #[.int .i64 0, .agg #[.int .i64 l0, .int .i64 l1]] w fun e w' => e = ret2 (1, 0) ∧ Below w.heap.size w w' := by
  go_enter Tryz.func43, Tryz.ntmps43
  go_wp2_with (first | (go_at_call 88; refine (Ref.check_any 0 l0 l1 _).mono ?_; rintro e w' ⟨rfl, hg⟩; obtain ⟨hc, hf, hz⟩ := bcell hg) | (go_at_call 89; refine (many_0 l0 l1  _).mono ?_; rintro e w' ⟨rfl, hg⟩; obtain ⟨hc, hf, hz⟩ := bcell hg))
  go_ret2
  exact ⟨rfl, by (repeat (first | exact Below.refl _ _ | assumption | (refine bl_then ?_ (by assumption)) | (refine bl_alloc ?_ _) | (refine bl_dn ?_ _) | (refine bl_drew ?_)))⟩
theorem Ref.cells_1 (l0 l1 : Int) (h : shCheck 1 l0 l1 = 0) (f0 : Fits l0) (w : World) : Calls Tryz.prog 43 #[.int .i64 1, .agg #[.int .i64 l0, .int .i64 l1]] w fun e w' => e = ret2 (l0, 0) ∧ Below w.heap.size w w' := by
  have f0' := hide f0
  clear f0
  go_enter Tryz.func43, Tryz.ntmps43
  go_wp2_with (first | (go_at_call 88; refine (Ref.check_any 1 l0 l1 _).mono ?_; rintro e w' ⟨rfl, hg⟩; obtain ⟨hc, hf, hz⟩ := bcell hg) | (go_at_call 89; refine (many_1 l0 l1 f0'.out _).mono ?_; rintro e w' ⟨rfl, hg⟩; obtain ⟨hc, hf, hz⟩ := bcell hg))
  go_ret2
  exact ⟨rfl, by (repeat (first | exact Below.refl _ _ | assumption | (refine bl_then ?_ (by assumption)) | (refine bl_alloc ?_ _) | (refine bl_dn ?_ _) | (refine bl_drew ?_)))⟩
theorem Ref.cells_2 (l0 l1 : Int) (h : shCheck 2 l0 l1 = 0) (f0 : Fits l0) (f1 : Fits l1) (f : Fits (l0 * l1)) (w : World) : Calls Tryz.prog 43 #[.int .i64 2, .agg #[.int .i64 l0, .int .i64 l1]] w fun e w' => e = ret2 (l0 * l1, 0) ∧ Below w.heap.size w w' := by
  have f0' := hide f0
  clear f0
  have f1' := hide f1
  clear f1
  have f' := hide f
  clear f
  go_enter Tryz.func43, Tryz.ntmps43
  go_wp2_with (first | (go_at_call 88; refine (Ref.check_any 2 l0 l1 _).mono ?_; rintro e w' ⟨rfl, hg⟩; obtain ⟨hc, hf, hz⟩ := bcell hg) | (go_at_call 89; refine (many_2 l0 l1 f'.out f0'.out f1'.out _).mono ?_; rintro e w' ⟨rfl, hg⟩; obtain ⟨hc, hf, hz⟩ := bcell hg))
  go_ret2
  exact ⟨rfl, by (repeat (first | exact Below.refl _ _ | assumption | (refine bl_then ?_ (by assumption)) | (refine bl_alloc ?_ _) | (refine bl_dn ?_ _) | (refine bl_drew ?_)))⟩
theorem Ref.cells_any (r l0 l1 : Int) (f0 : Fits l0) (f1 : Fits l1) (w : World) : Calls Tryz.prog 43 #[.int .i64 r, .agg #[.int .i64 l0, .int .i64 l1]] w fun e w' => e = ret2 (cellsOf r l0 l1) ∧ Below w.heap.size w w' := by
  by_cases h : shCheck r l0 l1 = 0
  · rw [show cellsOf r l0 l1 = (prod r l0 l1, 0) from if_neg (by simpa using h)]
    obtain ⟨hr, hp⟩ := sh_ok h
    obtain rfl | rfl | rfl := hr
    · exact Ref.cells_0 l0 l1 h w
    · exact Ref.cells_1 l0 l1 h f0 w
    · exact Ref.cells_2 l0 l1 h f0 f1 (by unfold Fits; rw [prod_2] at hp; omega) w
  · rw [show cellsOf r l0 l1 = (0, shCheck r l0 l1) from if_pos h]; exact Ref.cells_bad r l0 l1 h w
end Ar
end Go.Proofs.YtaelfhjdmljblaaGreatDoor
