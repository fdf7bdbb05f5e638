/-
Contracts of Arity of scalars (chapter 9).
-/
import Derived.Test.YtfpnafeildigaaaScD
import Derived.Test.YtfpnafeildigaaaScT
set_option linter.unusedSimpArgs false
set_option linter.unusedVariables false
namespace Go.Proofs.Ytfpnafeildigaaa
namespace Sc
open Go.RowKit Go.Lib

theorem one_some (p : Int) (h1 : 1 ≤ p) (h2 : p ≤ 3) (w : World) : Calls Try.prog 94 #[.int .i64 p] w fun e w' => ∃ fn, e = .returned (.func fn #[] #[]) ∧ Gr w w' := by
  obtain rfl | rfl | rfl : p = 1 ∨ p = 2 ∨ p = 3 := by omega
  · exact (one_1 w).mono fun e w' ⟨h, g⟩ => ⟨_, h, g⟩
  · exact (one_2 w).mono fun e w' ⟨h, g⟩ => ⟨_, h, g⟩
  · exact (one_3 w).mono fun e w' ⟨h, g⟩ => ⟨_, h, g⟩
theorem two_some (p : Int) (h1 : 15 ≤ p) (h2 : p ≤ 32) (w : World) : Calls Try.prog 95 #[.int .i64 p] w fun e w' => ∃ fn, e = .returned (.func fn #[] #[]) ∧ Gr w w' := by
  by_cases e15 : p = 15
  · subst e15; exact (two_15 w).mono fun e w' ⟨h, g⟩ => ⟨_, h, g⟩
  by_cases e16 : p = 16
  · subst e16; exact (two_16 w).mono fun e w' ⟨h, g⟩ => ⟨_, h, g⟩
  by_cases e17 : p = 17
  · subst e17; exact (two_17 w).mono fun e w' ⟨h, g⟩ => ⟨_, h, g⟩
  by_cases e18 : p = 18
  · subst e18; exact (two_18 w).mono fun e w' ⟨h, g⟩ => ⟨_, h, g⟩
  by_cases e19 : p = 19
  · subst e19; exact (two_19 w).mono fun e w' ⟨h, g⟩ => ⟨_, h, g⟩
  by_cases e20 : p = 20
  · subst e20; exact (two_20 w).mono fun e w' ⟨h, g⟩ => ⟨_, h, g⟩
  by_cases e21 : p = 21
  · subst e21; exact (two_21 w).mono fun e w' ⟨h, g⟩ => ⟨_, h, g⟩
  by_cases e22 : p = 22
  · subst e22; exact (two_22 w).mono fun e w' ⟨h, g⟩ => ⟨_, h, g⟩
  by_cases e23 : p = 23
  · subst e23; exact (two_23 w).mono fun e w' ⟨h, g⟩ => ⟨_, h, g⟩
  by_cases e24 : p = 24
  · subst e24; exact (two_24 w).mono fun e w' ⟨h, g⟩ => ⟨_, h, g⟩
  by_cases e25 : p = 25
  · subst e25; exact (two_25 w).mono fun e w' ⟨h, g⟩ => ⟨_, h, g⟩
  by_cases e26 : p = 26
  · subst e26; exact (two_26 w).mono fun e w' ⟨h, g⟩ => ⟨_, h, g⟩
  by_cases e27 : p = 27
  · subst e27; exact (two_27 w).mono fun e w' ⟨h, g⟩ => ⟨_, h, g⟩
  by_cases e28 : p = 28
  · subst e28; exact (two_28 w).mono fun e w' ⟨h, g⟩ => ⟨_, h, g⟩
  by_cases e29 : p = 29
  · subst e29; exact (two_29 w).mono fun e w' ⟨h, g⟩ => ⟨_, h, g⟩
  by_cases e30 : p = 30
  · subst e30; exact (two_30 w).mono fun e w' ⟨h, g⟩ => ⟨_, h, g⟩
  by_cases e31 : p = 31
  · subst e31; exact (two_31 w).mono fun e w' ⟨h, g⟩ => ⟨_, h, g⟩
  by_cases e32 : p = 32
  · subst e32; exact (two_32 w).mono fun e w' ⟨h, g⟩ => ⟨_, h, g⟩
  omega
theorem arity_one (p : Int) (h1 : 1 ≤ p) (h2 : p ≤ 3) (w : World) : Calls Try.prog 58 #[.int .i64 p] w fun e w' => e = ret2 (1, 0) ∧ Gr w w' := by
  have hr1 : ∀ (w : World) (fn : Fn), Sem.run Try.prog (binOp .neq 96 (.func fn #[] #[]) .nilFunc) w = .ok (.bool true) w := fun w fn => by kernel_rfl
  have hr2 : ∀ w : World, Sem.run Try.prog (binOp .neq 96 .nilFunc .nilFunc) w = .ok (.bool false) w := fun w => by kernel_rfl
  have k1 := hide h1; have k2 := hide h2; clear h1 h2
  go_enter Try.func58, Try.ntmps58
  go_wp2_with (first | (go_at_call 94; refine (one_some p k1.out k2.out _).mono ?_; rintro e w' ⟨fn, rfl, hg⟩))
  go_ret2
  exact ⟨rfl, by (repeat (first | exact Gr.refl _ | assumption | refine gr_trans ?_ (by assumption)))⟩
theorem arity_two (p : Int) (h1 : 15 ≤ p) (h2 : p ≤ 32) (w : World) : Calls Try.prog 58 #[.int .i64 p] w fun e w' => e = ret2 (2, 0) ∧ Gr w w' := by
  have hr1 : ∀ (w : World) (fn : Fn), Sem.run Try.prog (binOp .neq 96 (.func fn #[] #[]) .nilFunc) w = .ok (.bool true) w := fun w fn => by kernel_rfl
  have hr2 : ∀ w : World, Sem.run Try.prog (binOp .neq 96 .nilFunc .nilFunc) w = .ok (.bool false) w := fun w => by kernel_rfl
  have hr3 : ∀ (w : World) (fn : Fn), Sem.run Try.prog (binOp .neq 98 (.func fn #[] #[]) .nilFunc) w = .ok (.bool true) w := fun w fn => by kernel_rfl
  have hr4 : ∀ w : World, Sem.run Try.prog (binOp .neq 98 .nilFunc .nilFunc) w = .ok (.bool false) w := fun w => by kernel_rfl
  have k0 : Hid (p < 1 ∨ 4 ≤ p) := hide (by omega)
  have k1 := hide h1; have k2 := hide h2; clear h1 h2
  go_enter Try.func58, Try.ntmps58
  go_wp2_with (first | (go_at_call 94; refine (one_nil p k0.out _).mono ?_; rintro e w' ⟨rfl, hg⟩) | (go_at_call 95; refine (two_some p k1.out k2.out _).mono ?_; rintro e w' ⟨fn, rfl, hg⟩))
  go_ret2
  exact ⟨rfl, by (repeat (first | exact Gr.refl _ | assumption | refine gr_trans ?_ (by assumption)))⟩
theorem arity_none (p : Int) (h : p < 1 ∨ (3 < p ∧ p < 15) ∨ 32 < p) (w : World) : Calls Try.prog 58 #[.int .i64 p] w fun e w' => e = ret2 (0, 2) ∧ Gr w w' := by
  have hr1 : ∀ (w : World) (fn : Fn), Sem.run Try.prog (binOp .neq 96 (.func fn #[] #[]) .nilFunc) w = .ok (.bool true) w := fun w fn => by kernel_rfl
  have hr2 : ∀ w : World, Sem.run Try.prog (binOp .neq 96 .nilFunc .nilFunc) w = .ok (.bool false) w := fun w => by kernel_rfl
  have hr3 : ∀ (w : World) (fn : Fn), Sem.run Try.prog (binOp .neq 98 (.func fn #[] #[]) .nilFunc) w = .ok (.bool true) w := fun w fn => by kernel_rfl
  have hr4 : ∀ w : World, Sem.run Try.prog (binOp .neq 98 .nilFunc .nilFunc) w = .ok (.bool false) w := fun w => by kernel_rfl
  have k0 : Hid (p < 1 ∨ 4 ≤ p) := hide (by omega)
  have k1 : Hid (p < 15 ∨ 33 ≤ p) := hide (by omega)
  clear h
  go_enter Try.func58, Try.ntmps58
  go_wp2_with (first | (go_at_call 94; refine (one_nil p k0.out _).mono ?_; rintro e w' ⟨rfl, hg⟩) | (go_at_call 95; refine (two_nil p k1.out _).mono ?_; rintro e w' ⟨rfl, hg⟩))
  go_ret2
  exact ⟨rfl, by (repeat (first | exact Gr.refl _ | assumption | refine gr_trans ?_ (by assumption)))⟩
theorem arity_any (p : Int) (w : World) : Calls Try.prog 58 #[.int .i64 p] w fun e w' => e = ret2 (arity p) ∧ Gr w w' := by
  by_cases a : 1 ≤ p ∧ p ≤ 3
  · rw [show arity p = (1, 0) from if_pos a]; exact arity_one p a.1 a.2 w
  · by_cases b : 15 ≤ p ∧ p ≤ 32
    · rw [show arity p = (2, 0) from (if_neg a).trans (if_pos b)]; exact arity_two p b.1 b.2 w
    · rw [show arity p = (0, 2) from (if_neg a).trans (if_neg b)]; exact arity_none p (by omega) w
theorem Ref.arity_any (p : Int) (w : World) : Calls Try.prog 28 #[.int .i64 p] w fun e w' => e = ret2 (arity p) ∧ Gr w w' := by
  by_cases a : 1 ≤ p ∧ p ≤ 3
  · rw [show arity p = (1, 0) from if_pos a]; exact (Ref.arity_one p a.1 a.2 w).mono fun e w' ⟨h, k⟩ => ⟨h, k ▸ Gr.refl _⟩
  · by_cases b : 15 ≤ p ∧ p ≤ 32
    · rw [show arity p = (2, 0) from (if_neg a).trans (if_pos b)]; exact (Ref.arity_two p b.1 b.2 w).mono fun e w' ⟨h, k⟩ => ⟨h, k ▸ Gr.refl _⟩
    · rw [show arity p = (0, 2) from (if_neg a).trans (if_neg b)]; exact (Ref.arity_none p (by omega) w).mono fun e w' ⟨h, k⟩ => ⟨h, k ▸ Gr.refl _⟩
end Sc
end Go.Proofs.Ytfpnafeildigaaa
