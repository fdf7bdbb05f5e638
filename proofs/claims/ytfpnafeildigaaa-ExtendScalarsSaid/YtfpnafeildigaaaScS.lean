/-
Contracts of Arity, One, Two and Overflows of the reference of chapter 9.
-/
import Derived.Test.YtfpnafeildigaaaScR
set_option linter.unusedSimpArgs false
set_option linter.unusedVariables false
namespace Go.Proofs.Ytfpnafeildigaaa
namespace Sc
open Go.RowKit Go.Lib
namespace Ref

theorem calc_15_in (x y : Int) (hx : Fits x) (hy : Fits y) (h : Fits (x + y)) (w : World) : Calls Try.prog 75 #[.int .i64 15, .int .i64 x, .int .i64 y] w fun e w' => e = retIB (x + y) true ∧ Gr w w' := by
  have h' := hide h; have hx' := hide hx; have hy' := hide hy; clear h hx hy
  go_enter Try.func75, Try.ntmps75
  go_wp2_with (first | (go_at_call 108; refine (sum_in x y hx'.out hy'.out h'.out _).mono ?_; rintro e w' ⟨rfl, hg⟩))
  go_ret2
  exact ⟨rfl, by (repeat (first | exact Gr.refl _ | assumption | refine gr_trans ?_ (by assumption)))⟩
theorem calc_15_out (x y : Int) (hx : Fits x) (hy : Fits y) (h : ¬ Fits (x + y)) (w : World) : Calls Try.prog 75 #[.int .i64 15, .int .i64 x, .int .i64 y] w fun e w' => ∃ z, e = retIB z false ∧ Gr w w' := by
  have h' := hide h; have hx' := hide hx; have hy' := hide hy; clear h hx hy
  go_enter Try.func75, Try.ntmps75
  go_wp2_with (first | (go_at_call 108; refine (sum_out x y hx'.out hy'.out h'.out _).mono ?_; rintro e w' ⟨rfl, hg⟩))
  go_ret2
  exact ⟨0, rfl, by (repeat (first | exact Gr.refl _ | assumption | refine gr_trans ?_ (by assumption)))⟩
theorem calc_17_in (x y : Int) (hx : Fits x) (hy : Fits y) (h : Fits (x * y)) (w : World) : Calls Try.prog 75 #[.int .i64 17, .int .i64 x, .int .i64 y] w fun e w' => e = retIB (x * y) true ∧ Gr w w' := by
  have h' := hide h; have hx' := hide hx; have hy' := hide hy; clear h hx hy
  go_enter Try.func75, Try.ntmps75
  go_wp2_with (first | (go_at_call 109; refine (product_in x y hx'.out hy'.out h'.out _).mono ?_; rintro e w' ⟨rfl, hg⟩))
  go_ret2
  exact ⟨rfl, by (repeat (first | exact Gr.refl _ | assumption | refine gr_trans ?_ (by assumption)))⟩
theorem calc_17_out (x y : Int) (hx : Fits x) (hy : Fits y) (h : ¬ Fits (x * y)) (w : World) : Calls Try.prog 75 #[.int .i64 17, .int .i64 x, .int .i64 y] w fun e w' => ∃ z, e = retIB z false ∧ Gr w w' := by
  have h' := hide h; have hx' := hide hx; have hy' := hide hy; clear h hx hy
  go_enter Try.func75, Try.ntmps75
  go_wp2_with (first | (go_at_call 109; refine (product_out x y hx'.out hy'.out h'.out _).mono ?_; rintro e w' ⟨z, rfl, hg⟩))
  go_ret2
  exact ⟨z, rfl, by (repeat (first | exact Gr.refl _ | assumption | refine gr_trans ?_ (by assumption)))⟩
theorem calc_16_in (x y : Int) (hx : Fits x) (hy : Fits y) (h : Fits (x - y)) (w : World) : Calls Try.prog 75 #[.int .i64 16, .int .i64 x, .int .i64 y] w fun e w' => e = retIB (x - y) true ∧ Gr w w' := by
  by_cases a : y = -9223372036854775808
  · subst a
    have hn : x < 0 := by unfold Fits at *; omega
    unfold Fits at hx
    clear h hy
    go_enter Try.func75, Try.ntmps75
    go_wp2
    go_ret2
    exact ⟨retIB_eq (by omega) rfl, Gr.refl _⟩
  · have a1 : (y == -9223372036854775808) = false := by simpa using a
    have hny : Fits (-y) := by unfold Fits at *; omega
    have hyf := hide hny
    have e1 : IntKind.i64.wrap (-y) = -y := IntWalk.i64_in _ hny
    have h' : Hid (Fits (x + -y)) := by rw [show x + -y = x - y from by omega]; exact h
    have hx' := hide hx; clear h hx hy hny
    go_enter Try.func75, Try.ntmps75
    go_wp2_with (first | (go_at_call 108; refine (sum_in x (-y) hx'.out hyf.out h'.out _).mono ?_; rintro e w' ⟨rfl, hg⟩))
    go_ret2
    exact ⟨retIB_eq (by omega) rfl, by (repeat (first | exact Gr.refl _ | assumption | refine gr_trans ?_ (by assumption)))⟩
theorem calc_16_out (x y : Int) (hx : Fits x) (hy : Fits y) (h : ¬ Fits (x - y)) (w : World) : Calls Try.prog 75 #[.int .i64 16, .int .i64 x, .int .i64 y] w fun e w' => ∃ z, e = retIB z false ∧ Gr w w' := by
  by_cases a : y = -9223372036854775808
  · subst a
    have hn : 0 ≤ x := by unfold Fits at *; omega
    clear h hy hx
    go_enter Try.func75, Try.ntmps75
    go_wp2
    go_ret2
    exact ⟨0, rfl, Gr.refl _⟩
  · have a1 : (y == -9223372036854775808) = false := by simpa using a
    have hny : Fits (-y) := by unfold Fits at *; omega
    have hyf := hide hny
    have e1 : IntKind.i64.wrap (-y) = -y := IntWalk.i64_in _ hny
    have h' : Hid (¬ Fits (x + -y)) := by rw [show x + -y = x - y from by omega]; exact h
    have hx' := hide hx; clear h hx hy hny
    go_enter Try.func75, Try.ntmps75
    go_wp2_with (first | (go_at_call 108; refine (sum_out x (-y) hx'.out hyf.out h'.out _).mono ?_; rintro e w' ⟨rfl, hg⟩))
    go_ret2
    exact ⟨0, rfl, by (repeat (first | exact Gr.refl _ | assumption | refine gr_trans ?_ (by assumption)))⟩
theorem calc_18_in (x y : Int) (hx : Fits x) (hy : Fits y) (h0 : y ≠ 0) (h : ¬ (x = -9223372036854775808 ∧ y = -1)) (w : World) : Calls Try.prog 75 #[.int .i64 18, .int .i64 x, .int .i64 y] w fun e w' => e = retIB (x.fdiv y) true ∧ Gr w w' := by
  have h' := hide h; have hx' := hide hx; have hy' := hide hy; have h0' := hide h0; clear h hx hy h0
  go_enter Try.func75, Try.ntmps75
  go_wp2_with (first | (go_at_call 110; refine (quotient_else x y hx'.out hy'.out h0'.out h'.out _).mono ?_; rintro e w' ⟨rfl, hg⟩))
  go_ret2
  exact ⟨rfl, by (repeat (first | exact Gr.refl _ | assumption | refine gr_trans ?_ (by assumption)))⟩
theorem calc_18_out  (w : World) : Calls Try.prog 75 #[.int .i64 18, .int .i64 (-9223372036854775808), .int .i64 (-1)] w fun e w' => ∃ z, e = retIB z false ∧ Gr w w' := by
  go_enter Try.func75, Try.ntmps75
  go_wp2_with (first | (go_at_call 110; refine (quotient_min _).mono ?_; rintro e w' ⟨rfl, hg⟩))
  go_ret2
  exact ⟨0, rfl, by (repeat (first | exact Gr.refl _ | assumption | refine gr_trans ?_ (by assumption)))⟩
theorem limited_20 (x y : Int) (hx : Fits x) (hy : Fits y) (w : World) : Calls Try.prog 107 #[.int .i64 20, .int .i64 x, .int .i64 y] w fun e w' => e = .returned (.int .i64 (clamp (x + y))) ∧ Gr w w' := by
  by_cases hf : Fits (x + y)
  · have H2 : Hid (clamp (x + y) = x + y) := clamp_in hf
    have h' := hide hf; have hx' := hide hx; have hy' := hide hy; clear hf hx hy
    go_enter Try.func107, Try.ntmps107
    go_wp2_with (first | (go_at_call 75; refine (calc_15_in x y hx'.out hy'.out h'.out _).mono ?_; rintro e w' ⟨rfl, hg⟩))
    go_ret
    exact ⟨ret_int H2.out.symm, by (repeat (first | exact Gr.refl _ | assumption | refine gr_trans ?_ (by assumption)))⟩
  · by_cases a : x < 0 <;> by_cases b : y < 0
    · have H2 : Hid (clamp (x + y) = -9223372036854775808) := clamp_plus_below hx hy hf (by omega)
      have h' := hide hf; have hx' := hide hx; have hy' := hide hy; clear hf hx hy
      have d1 : decide (x < 0) = true := by simp; omega
      have d2 : decide (y < 0) = true := by simp; omega
      go_enter Try.func107, Try.ntmps107
      go_wp2_with (first | (go_at_call 75; refine (calc_15_out x y hx'.out hy'.out h'.out _).mono ?_; rintro e w' ⟨z, rfl, hg⟩))
      go_ret
      exact ⟨ret_int H2.out.symm, by (repeat (first | exact Gr.refl _ | assumption | refine gr_trans ?_ (by assumption)))⟩
    · have H2 : Hid (clamp (x + y) = -9223372036854775808) := clamp_plus_below hx hy hf (by omega)
      have h' := hide hf; have hx' := hide hx; have hy' := hide hy; clear hf hx hy
      have d1 : decide (x < 0) = true := by simp; omega
      have d2 : decide (y < 0) = false := by simp; omega
      go_enter Try.func107, Try.ntmps107
      go_wp2_with (first | (go_at_call 75; refine (calc_15_out x y hx'.out hy'.out h'.out _).mono ?_; rintro e w' ⟨z, rfl, hg⟩))
      go_ret
      exact ⟨ret_int H2.out.symm, by (repeat (first | exact Gr.refl _ | assumption | refine gr_trans ?_ (by assumption)))⟩
    · have H2 : Hid (clamp (x + y) = 9223372036854775807) := clamp_plus_above hx hy hf (by omega)
      have h' := hide hf; have hx' := hide hx; have hy' := hide hy; clear hf hx hy
      have d1 : decide (x < 0) = false := by simp; omega
      have d2 : decide (y < 0) = true := by simp; omega
      go_enter Try.func107, Try.ntmps107
      go_wp2_with (first | (go_at_call 75; refine (calc_15_out x y hx'.out hy'.out h'.out _).mono ?_; rintro e w' ⟨z, rfl, hg⟩))
      go_ret
      exact ⟨ret_int H2.out.symm, by (repeat (first | exact Gr.refl _ | assumption | refine gr_trans ?_ (by assumption)))⟩
    · have H2 : Hid (clamp (x + y) = 9223372036854775807) := clamp_plus_above hx hy hf (by omega)
      have h' := hide hf; have hx' := hide hx; have hy' := hide hy; clear hf hx hy
      have d1 : decide (x < 0) = false := by simp; omega
      have d2 : decide (y < 0) = false := by simp; omega
      go_enter Try.func107, Try.ntmps107
      go_wp2_with (first | (go_at_call 75; refine (calc_15_out x y hx'.out hy'.out h'.out _).mono ?_; rintro e w' ⟨z, rfl, hg⟩))
      go_ret
      exact ⟨ret_int H2.out.symm, by (repeat (first | exact Gr.refl _ | assumption | refine gr_trans ?_ (by assumption)))⟩
theorem limited_21 (x y : Int) (hx : Fits x) (hy : Fits y) (w : World) : Calls Try.prog 107 #[.int .i64 21, .int .i64 x, .int .i64 y] w fun e w' => e = .returned (.int .i64 (clamp (x - y))) ∧ Gr w w' := by
  by_cases hf : Fits (x - y)
  · have H2 : Hid (clamp (x - y) = x - y) := clamp_in hf
    have h' := hide hf; have hx' := hide hx; have hy' := hide hy; clear hf hx hy
    go_enter Try.func107, Try.ntmps107
    go_wp2_with (first | (go_at_call 75; refine (calc_16_in x y hx'.out hy'.out h'.out _).mono ?_; rintro e w' ⟨rfl, hg⟩))
    go_ret
    exact ⟨ret_int H2.out.symm, by (repeat (first | exact Gr.refl _ | assumption | refine gr_trans ?_ (by assumption)))⟩
  · by_cases a : x < 0 <;> by_cases b : y < 0
    · have H2 : Hid (clamp (x - y) = -9223372036854775808) := clamp_minus_below hx hy hf (by omega)
      have h' := hide hf; have hx' := hide hx; have hy' := hide hy; clear hf hx hy
      have d1 : decide (x < 0) = true := by simp; omega
      have d2 : decide (y < 0) = true := by simp; omega
      go_enter Try.func107, Try.ntmps107
      go_wp2_with (first | (go_at_call 75; refine (calc_16_out x y hx'.out hy'.out h'.out _).mono ?_; rintro e w' ⟨z, rfl, hg⟩))
      go_ret
      exact ⟨ret_int H2.out.symm, by (repeat (first | exact Gr.refl _ | assumption | refine gr_trans ?_ (by assumption)))⟩
    · have H2 : Hid (clamp (x - y) = -9223372036854775808) := clamp_minus_below hx hy hf (by omega)
      have h' := hide hf; have hx' := hide hx; have hy' := hide hy; clear hf hx hy
      have d1 : decide (x < 0) = true := by simp; omega
      have d2 : decide (y < 0) = false := by simp; omega
      go_enter Try.func107, Try.ntmps107
      go_wp2_with (first | (go_at_call 75; refine (calc_16_out x y hx'.out hy'.out h'.out _).mono ?_; rintro e w' ⟨z, rfl, hg⟩))
      go_ret
      exact ⟨ret_int H2.out.symm, by (repeat (first | exact Gr.refl _ | assumption | refine gr_trans ?_ (by assumption)))⟩
    · have H2 : Hid (clamp (x - y) = 9223372036854775807) := clamp_minus_above hx hy hf (by omega)
      have h' := hide hf; have hx' := hide hx; have hy' := hide hy; clear hf hx hy
      have d1 : decide (x < 0) = false := by simp; omega
      have d2 : decide (y < 0) = true := by simp; omega
      go_enter Try.func107, Try.ntmps107
      go_wp2_with (first | (go_at_call 75; refine (calc_16_out x y hx'.out hy'.out h'.out _).mono ?_; rintro e w' ⟨z, rfl, hg⟩))
      go_ret
      exact ⟨ret_int H2.out.symm, by (repeat (first | exact Gr.refl _ | assumption | refine gr_trans ?_ (by assumption)))⟩
    · have H2 : Hid (clamp (x - y) = 9223372036854775807) := clamp_minus_above hx hy hf (by omega)
      have h' := hide hf; have hx' := hide hx; have hy' := hide hy; clear hf hx hy
      have d1 : decide (x < 0) = false := by simp; omega
      have d2 : decide (y < 0) = false := by simp; omega
      go_enter Try.func107, Try.ntmps107
      go_wp2_with (first | (go_at_call 75; refine (calc_16_out x y hx'.out hy'.out h'.out _).mono ?_; rintro e w' ⟨z, rfl, hg⟩))
      go_ret
      exact ⟨ret_int H2.out.symm, by (repeat (first | exact Gr.refl _ | assumption | refine gr_trans ?_ (by assumption)))⟩
theorem limited_22 (x y : Int) (hx : Fits x) (hy : Fits y) (w : World) : Calls Try.prog 107 #[.int .i64 22, .int .i64 x, .int .i64 y] w fun e w' => e = .returned (.int .i64 (clamp (x * y))) ∧ Gr w w' := by
  by_cases hf : Fits (x * y)
  · have H2 : Hid (clamp (x * y) = x * y) := clamp_in hf
    have h' := hide hf; have hx' := hide hx; have hy' := hide hy; clear hf hx hy
    go_enter Try.func107, Try.ntmps107
    go_wp2_with (first | (go_at_call 75; refine (calc_17_in x y hx'.out hy'.out h'.out _).mono ?_; rintro e w' ⟨rfl, hg⟩))
    go_ret
    exact ⟨ret_int H2.out.symm, by (repeat (first | exact Gr.refl _ | assumption | refine gr_trans ?_ (by assumption)))⟩
  · by_cases a : x < 0 <;> by_cases b : y < 0
    · have H2 : Hid (clamp (x * y) = 9223372036854775807) := clamp_times_above hx hy hf (by omega)
      have h' := hide hf; have hx' := hide hx; have hy' := hide hy; clear hf hx hy
      have d1 : decide (x < 0) = true := by simp; omega
      have d2 : decide (y < 0) = true := by simp; omega
      go_enter Try.func107, Try.ntmps107
      go_wp2_with (first | (go_at_call 75; refine (calc_17_out x y hx'.out hy'.out h'.out _).mono ?_; rintro e w' ⟨z, rfl, hg⟩))
      go_ret
      exact ⟨ret_int H2.out.symm, by (repeat (first | exact Gr.refl _ | assumption | refine gr_trans ?_ (by assumption)))⟩
    · have H2 : Hid (clamp (x * y) = -9223372036854775808) := clamp_times_below hx hy hf (by omega)
      have h' := hide hf; have hx' := hide hx; have hy' := hide hy; clear hf hx hy
      have d1 : decide (x < 0) = true := by simp; omega
      have d2 : decide (y < 0) = false := by simp; omega
      go_enter Try.func107, Try.ntmps107
      go_wp2_with (first | (go_at_call 75; refine (calc_17_out x y hx'.out hy'.out h'.out _).mono ?_; rintro e w' ⟨z, rfl, hg⟩))
      go_ret
      exact ⟨ret_int H2.out.symm, by (repeat (first | exact Gr.refl _ | assumption | refine gr_trans ?_ (by assumption)))⟩
    · have H2 : Hid (clamp (x * y) = -9223372036854775808) := clamp_times_below hx hy hf (by omega)
      have h' := hide hf; have hx' := hide hx; have hy' := hide hy; clear hf hx hy
      have d1 : decide (x < 0) = false := by simp; omega
      have d2 : decide (y < 0) = true := by simp; omega
      go_enter Try.func107, Try.ntmps107
      go_wp2_with (first | (go_at_call 75; refine (calc_17_out x y hx'.out hy'.out h'.out _).mono ?_; rintro e w' ⟨z, rfl, hg⟩))
      go_ret
      exact ⟨ret_int H2.out.symm, by (repeat (first | exact Gr.refl _ | assumption | refine gr_trans ?_ (by assumption)))⟩
    · have H2 : Hid (clamp (x * y) = 9223372036854775807) := clamp_times_above hx hy hf (by omega)
      have h' := hide hf; have hx' := hide hx; have hy' := hide hy; clear hf hx hy
      have d1 : decide (x < 0) = false := by simp; omega
      have d2 : decide (y < 0) = false := by simp; omega
      go_enter Try.func107, Try.ntmps107
      go_wp2_with (first | (go_at_call 75; refine (calc_17_out x y hx'.out hy'.out h'.out _).mono ?_; rintro e w' ⟨z, rfl, hg⟩))
      go_ret
      exact ⟨ret_int H2.out.symm, by (repeat (first | exact Gr.refl _ | assumption | refine gr_trans ?_ (by assumption)))⟩
end Ref
end Sc
end Go.Proofs.Ytfpnafeildigaaa
