/-
Contracts of judged, Arity, One, Two and Overflows of the reference of chapter 9.
-/
import Derived.Test.YtfpnafeildigaaaScS
set_option linter.unusedSimpArgs false
set_option linter.unusedVariables false
namespace Go.Proofs.Ytfpnafeildigaaa
namespace Sc
open Go.RowKit Go.Lib
namespace Ref

theorem arity_one (p : Int) (h1 : 1 ≤ p) (h2 : p ≤ 3) (w : World) : Calls Try.prog 28 #[.int .i64 p] w fun e w' => e = ret2 (1, 0) ∧ w = w' := by
  obtain rfl | rfl | rfl : p = 1 ∨ p = 2 ∨ p = 3 := by omega
  all_goals
    go_enter Try.func28, Try.ntmps28
    go_wp2
    go_ret2
    exact ⟨rfl, rfl⟩
theorem arity_two (p : Int) (h1 : 15 ≤ p) (h2 : p ≤ 32) (w : World) : Calls Try.prog 28 #[.int .i64 p] w fun e w' => e = ret2 (2, 0) ∧ w = w' := by
  have c1 : (p == 1) = false := by rw [beq_eq_false_iff_ne]; omega
  have c2 : (p == 2) = false := by rw [beq_eq_false_iff_ne]; omega
  have c3 : (p == 3) = false := by rw [beq_eq_false_iff_ne]; omega
  go_enter Try.func28, Try.ntmps28
  go_wp2
  go_ret2
  exact ⟨rfl, rfl⟩
theorem arity_none (p : Int) (h : p < 1 ∨ (3 < p ∧ p < 15) ∨ 32 < p) (w : World) : Calls Try.prog 28 #[.int .i64 p] w fun e w' => e = ret2 (0, 2) ∧ w = w' := by
  have c1 : (p == 1) = false := by rw [beq_eq_false_iff_ne]; omega
  have c2 : (p == 2) = false := by rw [beq_eq_false_iff_ne]; omega
  have c3 : (p == 3) = false := by rw [beq_eq_false_iff_ne]; omega
  by_cases a : p < 15
  all_goals
    go_enter Try.func28, Try.ntmps28
    go_wp2
    go_ret2
    exact ⟨rfl, rfl⟩
theorem judged_19 (x y : Int) (hx : Fits x) (hy : Fits y) (h0 : y ≠ 0) (w : World) : Calls Try.prog 74 #[.int .i64 19, .int .i64 x, .int .i64 y] w fun e w' => e = .returned (.int .i64 (x.fmod y)) ∧ Gr w w' := by
  have hx' := hide hx; have hy' := hide hy; have h0' := hide h0; clear hx hy h0
  go_enter Try.func74, Try.ntmps74
  go_wp2_with (first | (go_at_call 106; refine (rest_any x y hx'.out hy'.out h0'.out _).mono ?_; rintro e w' ⟨rfl, hg⟩))
  go_ret
  exact ⟨rfl, by (repeat (first | exact Gr.refl _ | assumption | refine gr_trans ?_ (by assumption)))⟩
theorem judged_20 (x y : Int) (hx : Fits x) (hy : Fits y) (w : World) : Calls Try.prog 74 #[.int .i64 20, .int .i64 x, .int .i64 y] w fun e w' => e = .returned (.int .i64 (clamp (x + y))) ∧ Gr w w' := by
  have hx' := hide hx; have hy' := hide hy; clear hx hy
  go_enter Try.func74, Try.ntmps74
  go_wp2_with (first | (go_at_call 107; refine (limited_20 x y hx'.out hy'.out _).mono ?_; rintro e w' ⟨rfl, hg⟩))
  go_ret
  exact ⟨rfl, by (repeat (first | exact Gr.refl _ | assumption | refine gr_trans ?_ (by assumption)))⟩
theorem judged_21 (x y : Int) (hx : Fits x) (hy : Fits y) (w : World) : Calls Try.prog 74 #[.int .i64 21, .int .i64 x, .int .i64 y] w fun e w' => e = .returned (.int .i64 (clamp (x - y))) ∧ Gr w w' := by
  have hx' := hide hx; have hy' := hide hy; clear hx hy
  go_enter Try.func74, Try.ntmps74
  go_wp2_with (first | (go_at_call 107; refine (limited_21 x y hx'.out hy'.out _).mono ?_; rintro e w' ⟨rfl, hg⟩))
  go_ret
  exact ⟨rfl, by (repeat (first | exact Gr.refl _ | assumption | refine gr_trans ?_ (by assumption)))⟩
theorem judged_22 (x y : Int) (hx : Fits x) (hy : Fits y) (w : World) : Calls Try.prog 74 #[.int .i64 22, .int .i64 x, .int .i64 y] w fun e w' => e = .returned (.int .i64 (clamp (x * y))) ∧ Gr w w' := by
  have hx' := hide hx; have hy' := hide hy; clear hx hy
  go_enter Try.func74, Try.ntmps74
  go_wp2_with (first | (go_at_call 107; refine (limited_22 x y hx'.out hy'.out _).mono ?_; rintro e w' ⟨rfl, hg⟩))
  go_ret
  exact ⟨rfl, by (repeat (first | exact Gr.refl _ | assumption | refine gr_trans ?_ (by assumption)))⟩
theorem judged_23 (x y : Int) (w : World) : Calls Try.prog 74 #[.int .i64 23, .int .i64 x, .int .i64 y] w fun e w' => e = .returned (.int .i64 (tr (x == y))) ∧ Gr w w' := by
  go_enter Try.func74, Try.ntmps74
  go_wp2_with (first | (go_at_call 100; refine (truth_any _ _).mono ?_; rintro e w' ⟨rfl, rfl⟩))
  go_ret
  exact ⟨rfl, by (repeat (first | exact Gr.refl _ | assumption | refine gr_trans ?_ (by assumption)))⟩
theorem judged_24 (x y : Int) (w : World) : Calls Try.prog 74 #[.int .i64 24, .int .i64 x, .int .i64 y] w fun e w' => e = .returned (.int .i64 (tr (x != y))) ∧ Gr w w' := by
  go_enter Try.func74, Try.ntmps74
  go_wp2_with (first | (go_at_call 100; refine (truth_any _ _).mono ?_; rintro e w' ⟨rfl, rfl⟩))
  go_ret
  exact ⟨rfl, by (repeat (first | exact Gr.refl _ | assumption | refine gr_trans ?_ (by assumption)))⟩
theorem judged_25 (x y : Int) (w : World) : Calls Try.prog 74 #[.int .i64 25, .int .i64 x, .int .i64 y] w fun e w' => e = .returned (.int .i64 (tr (decide (x < y)))) ∧ Gr w w' := by
  go_enter Try.func74, Try.ntmps74
  go_wp2_with (first | (go_at_call 100; refine (truth_any _ _).mono ?_; rintro e w' ⟨rfl, rfl⟩))
  go_ret
  exact ⟨rfl, by (repeat (first | exact Gr.refl _ | assumption | refine gr_trans ?_ (by assumption)))⟩
theorem judged_26 (x y : Int) (w : World) : Calls Try.prog 74 #[.int .i64 26, .int .i64 x, .int .i64 y] w fun e w' => e = .returned (.int .i64 (tr (decide (x ≤ y)))) ∧ Gr w w' := by
  go_enter Try.func74, Try.ntmps74
  go_wp2_with (first | (go_at_call 100; refine (truth_any _ _).mono ?_; rintro e w' ⟨rfl, rfl⟩))
  go_ret
  exact ⟨rfl, by (repeat (first | exact Gr.refl _ | assumption | refine gr_trans ?_ (by assumption)))⟩
theorem judged_27 (x y : Int) (w : World) : Calls Try.prog 74 #[.int .i64 27, .int .i64 x, .int .i64 y] w fun e w' => e = .returned (.int .i64 (tr (decide (y < x)))) ∧ Gr w w' := by
  go_enter Try.func74, Try.ntmps74
  go_wp2_with (first | (go_at_call 100; refine (truth_any _ _).mono ?_; rintro e w' ⟨rfl, rfl⟩))
  go_ret
  exact ⟨rfl, by (repeat (first | exact Gr.refl _ | assumption | refine gr_trans ?_ (by assumption)))⟩
theorem judged_28 (x y : Int) (w : World) : Calls Try.prog 74 #[.int .i64 28, .int .i64 x, .int .i64 y] w fun e w' => e = .returned (.int .i64 (tr (decide (y ≤ x)))) ∧ Gr w w' := by
  go_enter Try.func74, Try.ntmps74
  go_wp2_with (first | (go_at_call 100; refine (truth_any _ _).mono ?_; rintro e w' ⟨rfl, rfl⟩))
  go_ret
  exact ⟨rfl, by (repeat (first | exact Gr.refl _ | assumption | refine gr_trans ?_ (by assumption)))⟩
theorem judged_29 (x y : Int) (w : World) : Calls Try.prog 74 #[.int .i64 29, .int .i64 x, .int .i64 y] w fun e w' => e = .returned (.int .i64 (tr (x != 0 && y != 0))) ∧ Gr w w' := by
  by_cases a : x = 0
  · have a1 : (x != 0) = false := by simpa using a
    have a2 : (x == 0) = true := by simpa using a
    clear a
    go_enter Try.func74, Try.ntmps74
    go_wp2_with (go_at_call 100; refine (truth_any _ _).mono ?_; rintro e w' ⟨rfl, rfl⟩)
    go_ret
    exact ⟨ret_int (by rw [a1]; rfl), by (repeat (first | exact Gr.refl _ | assumption | refine gr_trans ?_ (by assumption)))⟩
  · have a1 : (x != 0) = true := by simpa using a
    have a2 : (x == 0) = false := by simpa using a
    clear a
    go_enter Try.func74, Try.ntmps74
    go_wp2_with (go_at_call 100; refine (truth_any _ _).mono ?_; rintro e w' ⟨rfl, rfl⟩)
    go_ret
    exact ⟨ret_int (by rw [a1]; simp), by (repeat (first | exact Gr.refl _ | assumption | refine gr_trans ?_ (by assumption)))⟩
theorem judged_30 (x y : Int) (w : World) : Calls Try.prog 74 #[.int .i64 30, .int .i64 x, .int .i64 y] w fun e w' => e = .returned (.int .i64 (tr (x != 0 || y != 0))) ∧ Gr w w' := by
  by_cases a : x = 0
  · have a1 : (x != 0) = false := by simpa using a
    have a2 : (x == 0) = true := by simpa using a
    clear a
    go_enter Try.func74, Try.ntmps74
    go_wp2_with (go_at_call 100; refine (truth_any _ _).mono ?_; rintro e w' ⟨rfl, rfl⟩)
    go_ret
    exact ⟨ret_int (by rw [a1]; rfl), by (repeat (first | exact Gr.refl _ | assumption | refine gr_trans ?_ (by assumption)))⟩
  · have a1 : (x != 0) = true := by simpa using a
    have a2 : (x == 0) = false := by simpa using a
    clear a
    go_enter Try.func74, Try.ntmps74
    go_wp2_with (go_at_call 100; refine (truth_any _ _).mono ?_; rintro e w' ⟨rfl, rfl⟩)
    go_ret
    exact ⟨ret_int (by rw [a1]; simp), by (repeat (first | exact Gr.refl _ | assumption | refine gr_trans ?_ (by assumption)))⟩
theorem judged_31 (x y : Int) (w : World) : Calls Try.prog 74 #[.int .i64 31, .int .i64 x, .int .i64 y] w fun e w' => e = .returned (.int .i64 (min x y)) ∧ Gr w w' := by
  go_enter Try.func74, Try.ntmps74
  go_wp2
  all_goals
    go_ret
    exact ⟨ret_int (by omega), Gr.refl _⟩
theorem judged_32 (x y : Int) (w : World) : Calls Try.prog 74 #[.int .i64 32, .int .i64 x, .int .i64 y] w fun e w' => e = .returned (.int .i64 (max x y)) ∧ Gr w w' := by
  go_enter Try.func74, Try.ntmps74
  go_wp2
  all_goals
    go_ret
    exact ⟨ret_int (by omega), Gr.refl _⟩
theorem Two_15 (x y : Int) (hx : Fits x) (hy : Fits y) (w : World) : Calls Try.prog 30 #[.int .i64 15, .int .i64 x, .int .i64 y] w fun e w' => e = ret2 (two 15 x y) ∧ Gr w w' := by
  by_cases hf : Fits (x + y)
  · have H : Hid (two 15 x y = (x + y, 0)) := chk_in hf
    have h' := hide hf; have hx' := hide hx; have hy' := hide hy; clear hf hx hy
    go_enter Try.func30, Try.ntmps30
    go_wp2_with (first | (go_at_call 28; refine (arity_two 15 (by omega) (by omega) _).mono ?_; rintro e w' ⟨rfl, rfl⟩) | (go_at_call 75; refine (calc_15_in x y hx'.out hy'.out h'.out _).mono ?_; rintro e w' ⟨rfl, hg⟩))
    go_ret2
    exact ⟨ret2_eq H.out, by (repeat (first | exact Gr.refl _ | assumption | refine gr_trans ?_ (by assumption)))⟩
  · have H : Hid (two 15 x y = (0, 12)) := chk_out hf
    have h' := hide hf; have hx' := hide hx; have hy' := hide hy; clear hf hx hy
    go_enter Try.func30, Try.ntmps30
    go_wp2_with (first | (go_at_call 28; refine (arity_two 15 (by omega) (by omega) _).mono ?_; rintro e w' ⟨rfl, rfl⟩) | (go_at_call 75; refine (calc_15_out x y hx'.out hy'.out h'.out _).mono ?_; rintro e w' ⟨z, rfl, hg⟩))
    go_ret2
    exact ⟨ret2_eq H.out, by (repeat (first | exact Gr.refl _ | assumption | refine gr_trans ?_ (by assumption)))⟩
theorem Two_16 (x y : Int) (hx : Fits x) (hy : Fits y) (w : World) : Calls Try.prog 30 #[.int .i64 16, .int .i64 x, .int .i64 y] w fun e w' => e = ret2 (two 16 x y) ∧ Gr w w' := by
  by_cases hf : Fits (x - y)
  · have H : Hid (two 16 x y = (x - y, 0)) := chk_in hf
    have h' := hide hf; have hx' := hide hx; have hy' := hide hy; clear hf hx hy
    go_enter Try.func30, Try.ntmps30
    go_wp2_with (first | (go_at_call 28; refine (arity_two 16 (by omega) (by omega) _).mono ?_; rintro e w' ⟨rfl, rfl⟩) | (go_at_call 75; refine (calc_16_in x y hx'.out hy'.out h'.out _).mono ?_; rintro e w' ⟨rfl, hg⟩))
    go_ret2
    exact ⟨ret2_eq H.out, by (repeat (first | exact Gr.refl _ | assumption | refine gr_trans ?_ (by assumption)))⟩
  · have H : Hid (two 16 x y = (0, 12)) := chk_out hf
    have h' := hide hf; have hx' := hide hx; have hy' := hide hy; clear hf hx hy
    go_enter Try.func30, Try.ntmps30
    go_wp2_with (first | (go_at_call 28; refine (arity_two 16 (by omega) (by omega) _).mono ?_; rintro e w' ⟨rfl, rfl⟩) | (go_at_call 75; refine (calc_16_out x y hx'.out hy'.out h'.out _).mono ?_; rintro e w' ⟨z, rfl, hg⟩))
    go_ret2
    exact ⟨ret2_eq H.out, by (repeat (first | exact Gr.refl _ | assumption | refine gr_trans ?_ (by assumption)))⟩
theorem Two_17 (x y : Int) (hx : Fits x) (hy : Fits y) (w : World) : Calls Try.prog 30 #[.int .i64 17, .int .i64 x, .int .i64 y] w fun e w' => e = ret2 (two 17 x y) ∧ Gr w w' := by
  by_cases hf : Fits (x * y)
  · have H : Hid (two 17 x y = (x * y, 0)) := chk_in hf
    have h' := hide hf; have hx' := hide hx; have hy' := hide hy; clear hf hx hy
    go_enter Try.func30, Try.ntmps30
    go_wp2_with (first | (go_at_call 28; refine (arity_two 17 (by omega) (by omega) _).mono ?_; rintro e w' ⟨rfl, rfl⟩) | (go_at_call 75; refine (calc_17_in x y hx'.out hy'.out h'.out _).mono ?_; rintro e w' ⟨rfl, hg⟩))
    go_ret2
    exact ⟨ret2_eq H.out, by (repeat (first | exact Gr.refl _ | assumption | refine gr_trans ?_ (by assumption)))⟩
  · have H : Hid (two 17 x y = (0, 12)) := chk_out hf
    have h' := hide hf; have hx' := hide hx; have hy' := hide hy; clear hf hx hy
    go_enter Try.func30, Try.ntmps30
    go_wp2_with (first | (go_at_call 28; refine (arity_two 17 (by omega) (by omega) _).mono ?_; rintro e w' ⟨rfl, rfl⟩) | (go_at_call 75; refine (calc_17_out x y hx'.out hy'.out h'.out _).mono ?_; rintro e w' ⟨z, rfl, hg⟩))
    go_ret2
    exact ⟨ret2_eq H.out, by (repeat (first | exact Gr.refl _ | assumption | refine gr_trans ?_ (by assumption)))⟩
theorem Two_18 (x y : Int) (hx : Fits x) (hy : Fits y) (w : World) : Calls Try.prog 30 #[.int .i64 18, .int .i64 x, .int .i64 y] w fun e w' => e = ret2 (two 18 x y) ∧ Gr w w' := by
  by_cases h0 : y = 0
  · subst h0
    clear hx hy
    go_enter Try.func30, Try.ntmps30
    go_wp2_with (first | (go_at_call 28; refine (arity_two 18 (by omega) (by omega) _).mono ?_; rintro e w' ⟨rfl, rfl⟩))
    go_ret2
    exact ⟨rfl, by (repeat (first | exact Gr.refl _ | assumption | refine gr_trans ?_ (by assumption)))⟩
  · have c0 : (y == 0) = false := by simpa using h0
    by_cases h : x = -9223372036854775808 ∧ y = -1
    · obtain ⟨rfl, rfl⟩ := h
      clear hx hy c0 h0
      go_enter Try.func30, Try.ntmps30
      go_wp2_with (first | (go_at_call 28; refine (arity_two 18 (by omega) (by omega) _).mono ?_; rintro e w' ⟨rfl, rfl⟩) | (go_at_call 75; refine (calc_18_out _).mono ?_; rintro e w' ⟨z, rfl, hg⟩))
      go_ret2
      exact ⟨rfl, by (repeat (first | exact Gr.refl _ | assumption | refine gr_trans ?_ (by assumption)))⟩
    · have H : Hid (two 18 x y = (x.fdiv y, 0)) := m_two_18 hx hy h0 h
      have h' := hide h; have hx' := hide hx; have hy' := hide hy; have h0' := hide h0; clear h hx hy h0
      go_enter Try.func30, Try.ntmps30
      go_wp2_with (first | (go_at_call 28; refine (arity_two 18 (by omega) (by omega) _).mono ?_; rintro e w' ⟨rfl, rfl⟩) | (go_at_call 75; refine (calc_18_in x y hx'.out hy'.out h0'.out h'.out _).mono ?_; rintro e w' ⟨rfl, hg⟩))
      go_ret2
      exact ⟨ret2_eq H.out, by (repeat (first | exact Gr.refl _ | assumption | refine gr_trans ?_ (by assumption)))⟩
theorem Two_19 (x y : Int) (hx : Fits x) (hy : Fits y) (w : World) : Calls Try.prog 30 #[.int .i64 19, .int .i64 x, .int .i64 y] w fun e w' => e = ret2 (two 19 x y) ∧ Gr w w' := by
  by_cases h0 : y = 0
  · subst h0
    clear hx hy
    go_enter Try.func30, Try.ntmps30
    go_wp2_with (first | (go_at_call 28; refine (arity_two 19 (by omega) (by omega) _).mono ?_; rintro e w' ⟨rfl, rfl⟩))
    go_ret2
    exact ⟨rfl, by (repeat (first | exact Gr.refl _ | assumption | refine gr_trans ?_ (by assumption)))⟩
  · have c0 : (y == 0) = false := by simpa using h0
    have H : Hid (two 19 x y = (x.fmod y, 0)) := m_two_19 h0
    have hx' := hide hx; have hy' := hide hy; have h0' := hide h0; clear hx hy h0
    go_enter Try.func30, Try.ntmps30
    go_wp2_with (first | (go_at_call 28; refine (arity_two 19 (by omega) (by omega) _).mono ?_; rintro e w' ⟨rfl, rfl⟩) | (go_at_call 74; refine (judged_19 x y hx'.out hy'.out h0'.out _).mono ?_; rintro e w' ⟨rfl, hg⟩))
    go_ret2
    exact ⟨ret2_eq H.out, by (repeat (first | exact Gr.refl _ | assumption | refine gr_trans ?_ (by assumption)))⟩
theorem Two_20 (x y : Int) (hx : Fits x) (hy : Fits y) (w : World) : Calls Try.prog 30 #[.int .i64 20, .int .i64 x, .int .i64 y] w fun e w' => e = ret2 (two 20 x y) ∧ Gr w w' := by
  have hx' := hide hx; have hy' := hide hy; clear hx hy
  go_enter Try.func30, Try.ntmps30
  go_wp2_with (first | (go_at_call 28; refine (arity_two 20 (by omega) (by omega) _).mono ?_; rintro e w' ⟨rfl, rfl⟩) | (go_at_call 74; refine (judged_20 x y hx'.out hy'.out _).mono ?_; rintro e w' ⟨rfl, hg⟩))
  go_ret2
  exact ⟨rfl, by (repeat (first | exact Gr.refl _ | assumption | refine gr_trans ?_ (by assumption)))⟩
theorem Two_21 (x y : Int) (hx : Fits x) (hy : Fits y) (w : World) : Calls Try.prog 30 #[.int .i64 21, .int .i64 x, .int .i64 y] w fun e w' => e = ret2 (two 21 x y) ∧ Gr w w' := by
  have hx' := hide hx; have hy' := hide hy; clear hx hy
  go_enter Try.func30, Try.ntmps30
  go_wp2_with (first | (go_at_call 28; refine (arity_two 21 (by omega) (by omega) _).mono ?_; rintro e w' ⟨rfl, rfl⟩) | (go_at_call 74; refine (judged_21 x y hx'.out hy'.out _).mono ?_; rintro e w' ⟨rfl, hg⟩))
  go_ret2
  exact ⟨rfl, by (repeat (first | exact Gr.refl _ | assumption | refine gr_trans ?_ (by assumption)))⟩
theorem Two_22 (x y : Int) (hx : Fits x) (hy : Fits y) (w : World) : Calls Try.prog 30 #[.int .i64 22, .int .i64 x, .int .i64 y] w fun e w' => e = ret2 (two 22 x y) ∧ Gr w w' := by
  have hx' := hide hx; have hy' := hide hy; clear hx hy
  go_enter Try.func30, Try.ntmps30
  go_wp2_with (first | (go_at_call 28; refine (arity_two 22 (by omega) (by omega) _).mono ?_; rintro e w' ⟨rfl, rfl⟩) | (go_at_call 74; refine (judged_22 x y hx'.out hy'.out _).mono ?_; rintro e w' ⟨rfl, hg⟩))
  go_ret2
  exact ⟨rfl, by (repeat (first | exact Gr.refl _ | assumption | refine gr_trans ?_ (by assumption)))⟩
theorem Two_23 (x y : Int) (hx : Fits x) (hy : Fits y) (w : World) : Calls Try.prog 30 #[.int .i64 23, .int .i64 x, .int .i64 y] w fun e w' => e = ret2 (two 23 x y) ∧ Gr w w' := by
  have hx' := hide hx; have hy' := hide hy; clear hx hy
  go_enter Try.func30, Try.ntmps30
  go_wp2_with (first | (go_at_call 28; refine (arity_two 23 (by omega) (by omega) _).mono ?_; rintro e w' ⟨rfl, rfl⟩) | (go_at_call 74; refine (judged_23 x y _).mono ?_; rintro e w' ⟨rfl, hg⟩))
  go_ret2
  exact ⟨rfl, by (repeat (first | exact Gr.refl _ | assumption | refine gr_trans ?_ (by assumption)))⟩
theorem Two_24 (x y : Int) (hx : Fits x) (hy : Fits y) (w : World) : Calls Try.prog 30 #[.int .i64 24, .int .i64 x, .int .i64 y] w fun e w' => e = ret2 (two 24 x y) ∧ Gr w w' := by
  have hx' := hide hx; have hy' := hide hy; clear hx hy
  go_enter Try.func30, Try.ntmps30
  go_wp2_with (first | (go_at_call 28; refine (arity_two 24 (by omega) (by omega) _).mono ?_; rintro e w' ⟨rfl, rfl⟩) | (go_at_call 74; refine (judged_24 x y _).mono ?_; rintro e w' ⟨rfl, hg⟩))
  go_ret2
  exact ⟨rfl, by (repeat (first | exact Gr.refl _ | assumption | refine gr_trans ?_ (by assumption)))⟩
theorem Two_25 (x y : Int) (hx : Fits x) (hy : Fits y) (w : World) : Calls Try.prog 30 #[.int .i64 25, .int .i64 x, .int .i64 y] w fun e w' => e = ret2 (two 25 x y) ∧ Gr w w' := by
  have hx' := hide hx; have hy' := hide hy; clear hx hy
  go_enter Try.func30, Try.ntmps30
  go_wp2_with (first | (go_at_call 28; refine (arity_two 25 (by omega) (by omega) _).mono ?_; rintro e w' ⟨rfl, rfl⟩) | (go_at_call 74; refine (judged_25 x y _).mono ?_; rintro e w' ⟨rfl, hg⟩))
  go_ret2
  exact ⟨rfl, by (repeat (first | exact Gr.refl _ | assumption | refine gr_trans ?_ (by assumption)))⟩
theorem Two_26 (x y : Int) (hx : Fits x) (hy : Fits y) (w : World) : Calls Try.prog 30 #[.int .i64 26, .int .i64 x, .int .i64 y] w fun e w' => e = ret2 (two 26 x y) ∧ Gr w w' := by
  have hx' := hide hx; have hy' := hide hy; clear hx hy
  go_enter Try.func30, Try.ntmps30
  go_wp2_with (first | (go_at_call 28; refine (arity_two 26 (by omega) (by omega) _).mono ?_; rintro e w' ⟨rfl, rfl⟩) | (go_at_call 74; refine (judged_26 x y _).mono ?_; rintro e w' ⟨rfl, hg⟩))
  go_ret2
  exact ⟨rfl, by (repeat (first | exact Gr.refl _ | assumption | refine gr_trans ?_ (by assumption)))⟩
theorem Two_27 (x y : Int) (hx : Fits x) (hy : Fits y) (w : World) : Calls Try.prog 30 #[.int .i64 27, .int .i64 x, .int .i64 y] w fun e w' => e = ret2 (two 27 x y) ∧ Gr w w' := by
  have hx' := hide hx; have hy' := hide hy; clear hx hy
  go_enter Try.func30, Try.ntmps30
  go_wp2_with (first | (go_at_call 28; refine (arity_two 27 (by omega) (by omega) _).mono ?_; rintro e w' ⟨rfl, rfl⟩) | (go_at_call 74; refine (judged_27 x y _).mono ?_; rintro e w' ⟨rfl, hg⟩))
  go_ret2
  exact ⟨rfl, by (repeat (first | exact Gr.refl _ | assumption | refine gr_trans ?_ (by assumption)))⟩
theorem Two_28 (x y : Int) (hx : Fits x) (hy : Fits y) (w : World) : Calls Try.prog 30 #[.int .i64 28, .int .i64 x, .int .i64 y] w fun e w' => e = ret2 (two 28 x y) ∧ Gr w w' := by
  have hx' := hide hx; have hy' := hide hy; clear hx hy
  go_enter Try.func30, Try.ntmps30
  go_wp2_with (first | (go_at_call 28; refine (arity_two 28 (by omega) (by omega) _).mono ?_; rintro e w' ⟨rfl, rfl⟩) | (go_at_call 74; refine (judged_28 x y _).mono ?_; rintro e w' ⟨rfl, hg⟩))
  go_ret2
  exact ⟨rfl, by (repeat (first | exact Gr.refl _ | assumption | refine gr_trans ?_ (by assumption)))⟩
theorem Two_29 (x y : Int) (hx : Fits x) (hy : Fits y) (w : World) : Calls Try.prog 30 #[.int .i64 29, .int .i64 x, .int .i64 y] w fun e w' => e = ret2 (two 29 x y) ∧ Gr w w' := by
  have hx' := hide hx; have hy' := hide hy; clear hx hy
  go_enter Try.func30, Try.ntmps30
  go_wp2_with (first | (go_at_call 28; refine (arity_two 29 (by omega) (by omega) _).mono ?_; rintro e w' ⟨rfl, rfl⟩) | (go_at_call 74; refine (judged_29 x y _).mono ?_; rintro e w' ⟨rfl, hg⟩))
  go_ret2
  exact ⟨rfl, by (repeat (first | exact Gr.refl _ | assumption | refine gr_trans ?_ (by assumption)))⟩
theorem Two_30 (x y : Int) (hx : Fits x) (hy : Fits y) (w : World) : Calls Try.prog 30 #[.int .i64 30, .int .i64 x, .int .i64 y] w fun e w' => e = ret2 (two 30 x y) ∧ Gr w w' := by
  have hx' := hide hx; have hy' := hide hy; clear hx hy
  go_enter Try.func30, Try.ntmps30
  go_wp2_with (first | (go_at_call 28; refine (arity_two 30 (by omega) (by omega) _).mono ?_; rintro e w' ⟨rfl, rfl⟩) | (go_at_call 74; refine (judged_30 x y _).mono ?_; rintro e w' ⟨rfl, hg⟩))
  go_ret2
  exact ⟨rfl, by (repeat (first | exact Gr.refl _ | assumption | refine gr_trans ?_ (by assumption)))⟩
theorem Two_31 (x y : Int) (hx : Fits x) (hy : Fits y) (w : World) : Calls Try.prog 30 #[.int .i64 31, .int .i64 x, .int .i64 y] w fun e w' => e = ret2 (two 31 x y) ∧ Gr w w' := by
  have hx' := hide hx; have hy' := hide hy; clear hx hy
  go_enter Try.func30, Try.ntmps30
  go_wp2_with (first | (go_at_call 28; refine (arity_two 31 (by omega) (by omega) _).mono ?_; rintro e w' ⟨rfl, rfl⟩) | (go_at_call 74; refine (judged_31 x y _).mono ?_; rintro e w' ⟨rfl, hg⟩))
  go_ret2
  exact ⟨rfl, by (repeat (first | exact Gr.refl _ | assumption | refine gr_trans ?_ (by assumption)))⟩
theorem Two_32 (x y : Int) (hx : Fits x) (hy : Fits y) (w : World) : Calls Try.prog 30 #[.int .i64 32, .int .i64 x, .int .i64 y] w fun e w' => e = ret2 (two 32 x y) ∧ Gr w w' := by
  have hx' := hide hx; have hy' := hide hy; clear hx hy
  go_enter Try.func30, Try.ntmps30
  go_wp2_with (first | (go_at_call 28; refine (arity_two 32 (by omega) (by omega) _).mono ?_; rintro e w' ⟨rfl, rfl⟩) | (go_at_call 74; refine (judged_32 x y _).mono ?_; rintro e w' ⟨rfl, hg⟩))
  go_ret2
  exact ⟨rfl, by (repeat (first | exact Gr.refl _ | assumption | refine gr_trans ?_ (by assumption)))⟩
theorem Two_nil (p x y : Int) (hp : p < 15 ∨ 33 ≤ p) (w : World) : Calls Try.prog 30 #[.int .i64 p, .int .i64 x, .int .i64 y] w fun e w' => e = ret2 (0, 2) ∧ Gr w w' := by
  by_cases a : 1 ≤ p ∧ p ≤ 3
  · have a' := hide a; clear a hp
    go_enter Try.func30, Try.ntmps30
    go_wp2_with (first | (go_at_call 28; refine (arity_one p a'.out.1 a'.out.2 _).mono ?_; rintro e w' ⟨rfl, rfl⟩))
    go_ret2
    exact ⟨rfl, by (repeat (first | exact Gr.refl _ | assumption | refine gr_trans ?_ (by assumption)))⟩
  · have a' : Hid (p < 1 ∨ (3 < p ∧ p < 15) ∨ 32 < p) := hide (by omega)
    clear a hp
    go_enter Try.func30, Try.ntmps30
    go_wp2_with (first | (go_at_call 28; refine (arity_none p a'.out _).mono ?_; rintro e w' ⟨rfl, rfl⟩))
    go_ret2
    exact ⟨rfl, by (repeat (first | exact Gr.refl _ | assumption | refine gr_trans ?_ (by assumption)))⟩
theorem Two_any (p x y : Int) (hx : Fits x) (hy : Fits y) (w : World) : Calls Try.prog 30 #[.int .i64 p, .int .i64 x, .int .i64 y] w fun e w' => e = ret2 (two p x y) ∧ Gr w w' := by
  by_cases hp : p < 15 ∨ 33 ≤ p
  · rw [two_none hp]; exact Two_nil p x y hp w
  by_cases e15 : p = 15
  · subst e15; exact Two_15 x y hx hy w
  by_cases e16 : p = 16
  · subst e16; exact Two_16 x y hx hy w
  by_cases e17 : p = 17
  · subst e17; exact Two_17 x y hx hy w
  by_cases e18 : p = 18
  · subst e18; exact Two_18 x y hx hy w
  by_cases e19 : p = 19
  · subst e19; exact Two_19 x y hx hy w
  by_cases e20 : p = 20
  · subst e20; exact Two_20 x y hx hy w
  by_cases e21 : p = 21
  · subst e21; exact Two_21 x y hx hy w
  by_cases e22 : p = 22
  · subst e22; exact Two_22 x y hx hy w
  by_cases e23 : p = 23
  · subst e23; exact Two_23 x y hx hy w
  by_cases e24 : p = 24
  · subst e24; exact Two_24 x y hx hy w
  by_cases e25 : p = 25
  · subst e25; exact Two_25 x y hx hy w
  by_cases e26 : p = 26
  · subst e26; exact Two_26 x y hx hy w
  by_cases e27 : p = 27
  · subst e27; exact Two_27 x y hx hy w
  by_cases e28 : p = 28
  · subst e28; exact Two_28 x y hx hy w
  by_cases e29 : p = 29
  · subst e29; exact Two_29 x y hx hy w
  by_cases e30 : p = 30
  · subst e30; exact Two_30 x y hx hy w
  by_cases e31 : p = 31
  · subst e31; exact Two_31 x y hx hy w
  by_cases e32 : p = 32
  · subst e32; exact Two_32 x y hx hy w
  omega
theorem One_nil (p x : Int) (hp : p < 1 ∨ 4 ≤ p) (w : World) : Calls Try.prog 64 #[.int .i64 p, .int .i64 x] w fun e w' => e = ret2 (0, 2) ∧ Gr w w' := by
  by_cases a : 15 ≤ p ∧ p ≤ 32
  · have a' := hide a; clear a hp
    go_enter Try.func64, Try.ntmps64
    go_wp2_with (first | (go_at_call 28; refine (arity_two p a'.out.1 a'.out.2 _).mono ?_; rintro e w' ⟨rfl, rfl⟩))
    go_ret2
    exact ⟨rfl, by (repeat (first | exact Gr.refl _ | assumption | refine gr_trans ?_ (by assumption)))⟩
  · have a' : Hid (p < 1 ∨ (3 < p ∧ p < 15) ∨ 32 < p) := hide (by omega)
    clear a hp
    go_enter Try.func64, Try.ntmps64
    go_wp2_with (first | (go_at_call 28; refine (arity_none p a'.out _).mono ?_; rintro e w' ⟨rfl, rfl⟩))
    go_ret2
    exact ⟨rfl, by (repeat (first | exact Gr.refl _ | assumption | refine gr_trans ?_ (by assumption)))⟩
theorem One_3 (x : Int) (w : World) : Calls Try.prog 64 #[.int .i64 3, .int .i64 x] w fun e w' => e = ret2 (one 3 x) ∧ Gr w w' := by
  go_enter Try.func64, Try.ntmps64
  go_wp2_with (first | (go_at_call 28; refine (arity_one 3 (by omega) (by omega) _).mono ?_; rintro e w' ⟨rfl, rfl⟩) | (go_at_call 100; refine (truth_any _ _).mono ?_; rintro e w' ⟨rfl, rfl⟩))
  go_ret2
  exact ⟨rfl, by (repeat (first | exact Gr.refl _ | assumption | refine gr_trans ?_ (by assumption)))⟩
theorem One_1 (x : Int) (hx : Fits x) (w : World) : Calls Try.prog 64 #[.int .i64 1, .int .i64 x] w fun e w' => e = ret2 (one 1 x) ∧ Gr w w' := by
  by_cases h : x = -9223372036854775808
  · subst h; clear hx
    go_enter Try.func64, Try.ntmps64
    go_wp2_with (first | (go_at_call 28; refine (arity_one 1 (by omega) (by omega) _).mono ?_; rintro e w' ⟨rfl, rfl⟩))
    go_ret2
    exact ⟨rfl, by (repeat (first | exact Gr.refl _ | assumption | refine gr_trans ?_ (by assumption)))⟩
  · have H : Hid (one 1 x = (-x, 0)) := chk_in (by unfold Fits at *; omega)
    have c : (x == -9223372036854775808) = false := by simpa using h
    unfold Fits at hx
    go_enter Try.func64, Try.ntmps64
    go_wp2_with (first | (go_at_call 28; refine (arity_one 1 (by omega) (by omega) _).mono ?_; rintro e w' ⟨rfl, rfl⟩))
    go_ret2
    exact ⟨ret2_eq H.out, by (repeat (first | exact Gr.refl _ | assumption | refine gr_trans ?_ (by assumption)))⟩
theorem One_2 (x : Int) (hx : Fits x) (w : World) : Calls Try.prog 64 #[.int .i64 2, .int .i64 x] w fun e w' => e = ret2 (one 2 x) ∧ Gr w w' := by
  by_cases h : x = -9223372036854775808
  · subst h; clear hx
    go_enter Try.func64, Try.ntmps64
    go_wp2_with (first | (go_at_call 28; refine (arity_one 2 (by omega) (by omega) _).mono ?_; rintro e w' ⟨rfl, rfl⟩))
    go_ret2
    exact ⟨rfl, by (repeat (first | exact Gr.refl _ | assumption | refine gr_trans ?_ (by assumption)))⟩
  · have c : (x == -9223372036854775808) = false := by simpa using h
    by_cases a : x < 0
    · have H : Hid (one 2 x = (-x, 0)) := by
        show chk (ab x) = _
        rw [show ab x = -x from if_pos a]; exact chk_in (by unfold Fits at *; omega)
      unfold Fits at hx
      go_enter Try.func64, Try.ntmps64
      go_wp2_with (first | (go_at_call 28; refine (arity_one 2 (by omega) (by omega) _).mono ?_; rintro e w' ⟨rfl, rfl⟩))
      go_ret2
      exact ⟨ret2_eq H.out, by (repeat (first | exact Gr.refl _ | assumption | refine gr_trans ?_ (by assumption)))⟩
    · have H : Hid (one 2 x = (x, 0)) := by
        show chk (ab x) = _
        rw [show ab x = x from if_neg a]; exact chk_in hx
      unfold Fits at hx
      go_enter Try.func64, Try.ntmps64
      go_wp2_with (first | (go_at_call 28; refine (arity_one 2 (by omega) (by omega) _).mono ?_; rintro e w' ⟨rfl, rfl⟩))
      go_ret2
      exact ⟨ret2_eq H.out, by (repeat (first | exact Gr.refl _ | assumption | refine gr_trans ?_ (by assumption)))⟩
theorem One_any (p x : Int) (hx : Fits x) (w : World) : Calls Try.prog 64 #[.int .i64 p, .int .i64 x] w fun e w' => e = ret2 (one p x) ∧ Gr w w' := by
  by_cases hp : p < 1 ∨ 4 ≤ p
  · rw [one_none hp]; exact One_nil p x hp w
  obtain rfl | rfl | rfl : p = 1 ∨ p = 2 ∨ p = 3 := by omega
  · exact One_1 x hx w
  · exact One_2 x hx w
  · exact One_3 x w
end Ref
end Sc
end Go.Proofs.Ytfpnafeildigaaa
