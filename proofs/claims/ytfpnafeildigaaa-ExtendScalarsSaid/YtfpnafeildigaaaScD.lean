/-
Contracts of scalars.One and scalars.Two (chapter 9).
-/
import Derived.Test.YtfpnafeildigaaaScC
set_option linter.unusedSimpArgs false
set_option linter.unusedVariables false
namespace Go.Proofs.Ytfpnafeildigaaa
namespace Sc
open Go.RowKit Go.Lib

theorem Two_15 (x y : Int) (hx : Fits x) (hy : Fits y) (w : World) : Calls Try.prog 69 #[.int .i64 15, .int .i64 x, .int .i64 y] w fun e w' => e = ret2 (two 15 x y) ∧ Gr w w' := by
  have hrun : ∀ w : World, Sem.run Try.prog (binOp .eql 98 (.func (.func 118) #[] #[]) .nilFunc) w = .ok (.bool false) w := fun w => by kernel_rfl
  go_enter Try.func69, Try.ntmps69
  go_wp2_with (first | (go_at_call 95; refine (two_15 _).mono ?_; rintro e w' ⟨rfl, hg⟩) | (go_at_call 118; refine (add_any x y hx hy _).mono ?_; rintro e w' ⟨rfl, rfl⟩))
  go_ret2
  exact ⟨rfl, hg⟩
theorem Two_16 (x y : Int) (hx : Fits x) (hy : Fits y) (w : World) : Calls Try.prog 69 #[.int .i64 16, .int .i64 x, .int .i64 y] w fun e w' => e = ret2 (two 16 x y) ∧ Gr w w' := by
  have hrun : ∀ w : World, Sem.run Try.prog (binOp .eql 98 (.func (.func 119) #[] #[]) .nilFunc) w = .ok (.bool false) w := fun w => by kernel_rfl
  go_enter Try.func69, Try.ntmps69
  go_wp2_with (first | (go_at_call 95; refine (two_16 _).mono ?_; rintro e w' ⟨rfl, hg⟩) | (go_at_call 119; refine (sub_any x y hx hy _).mono ?_; rintro e w' ⟨rfl, rfl⟩))
  go_ret2
  exact ⟨rfl, hg⟩
theorem Two_17 (x y : Int) (hx : Fits x) (hy : Fits y) (w : World) : Calls Try.prog 69 #[.int .i64 17, .int .i64 x, .int .i64 y] w fun e w' => e = ret2 (two 17 x y) ∧ Gr w w' := by
  have hrun : ∀ w : World, Sem.run Try.prog (binOp .eql 98 (.func (.func 120) #[] #[]) .nilFunc) w = .ok (.bool false) w := fun w => by kernel_rfl
  go_enter Try.func69, Try.ntmps69
  go_wp2_with (first | (go_at_call 95; refine (two_17 _).mono ?_; rintro e w' ⟨rfl, hg⟩) | (go_at_call 120; refine (mul_any x y hx hy _).mono ?_; rintro e w' ⟨rfl, rfl⟩))
  go_ret2
  exact ⟨rfl, hg⟩
theorem Two_18 (x y : Int) (hx : Fits x) (hy : Fits y) (w : World) : Calls Try.prog 69 #[.int .i64 18, .int .i64 x, .int .i64 y] w fun e w' => e = ret2 (two 18 x y) ∧ Gr w w' := by
  have hrun : ∀ w : World, Sem.run Try.prog (binOp .eql 98 (.func (.func 121) #[] #[]) .nilFunc) w = .ok (.bool false) w := fun w => by kernel_rfl
  go_enter Try.func69, Try.ntmps69
  go_wp2_with (first | (go_at_call 95; refine (two_18 _).mono ?_; rintro e w' ⟨rfl, hg⟩) | (go_at_call 121; refine (div_all x y hx hy _).mono ?_; rintro e w' ⟨rfl, rfl⟩))
  go_ret2
  exact ⟨rfl, hg⟩
theorem Two_19 (x y : Int) (hx : Fits x) (hy : Fits y) (w : World) : Calls Try.prog 69 #[.int .i64 19, .int .i64 x, .int .i64 y] w fun e w' => e = ret2 (two 19 x y) ∧ Gr w w' := by
  have hrun : ∀ w : World, Sem.run Try.prog (binOp .eql 98 (.func (.func 122) #[] #[]) .nilFunc) w = .ok (.bool false) w := fun w => by kernel_rfl
  go_enter Try.func69, Try.ntmps69
  go_wp2_with (first | (go_at_call 95; refine (two_19 _).mono ?_; rintro e w' ⟨rfl, hg⟩) | (go_at_call 122; refine (mod_all x y hx hy _).mono ?_; rintro e w' ⟨rfl, rfl⟩))
  go_ret2
  exact ⟨rfl, hg⟩
theorem Two_20 (x y : Int) (hx : Fits x) (hy : Fits y) (w : World) : Calls Try.prog 69 #[.int .i64 20, .int .i64 x, .int .i64 y] w fun e w' => e = ret2 (two 20 x y) ∧ Gr w w' := by
  have hrun : ∀ w : World, Sem.run Try.prog (binOp .eql 98 (.func (.func 123) #[] #[]) .nilFunc) w = .ok (.bool false) w := fun w => by kernel_rfl
  go_enter Try.func69, Try.ntmps69
  go_wp2_with (first | (go_at_call 95; refine (two_20 _).mono ?_; rintro e w' ⟨rfl, hg⟩) | (go_at_call 123; refine (plus_any x y hx hy _).mono ?_; rintro e w' ⟨rfl, rfl⟩))
  go_ret2
  exact ⟨rfl, hg⟩
theorem Two_21 (x y : Int) (hx : Fits x) (hy : Fits y) (w : World) : Calls Try.prog 69 #[.int .i64 21, .int .i64 x, .int .i64 y] w fun e w' => e = ret2 (two 21 x y) ∧ Gr w w' := by
  have hrun : ∀ w : World, Sem.run Try.prog (binOp .eql 98 (.func (.func 124) #[] #[]) .nilFunc) w = .ok (.bool false) w := fun w => by kernel_rfl
  go_enter Try.func69, Try.ntmps69
  go_wp2_with (first | (go_at_call 95; refine (two_21 _).mono ?_; rintro e w' ⟨rfl, hg⟩) | (go_at_call 124; refine (minus_any x y hx hy _).mono ?_; rintro e w' ⟨rfl, rfl⟩))
  go_ret2
  exact ⟨rfl, hg⟩
theorem Two_22 (x y : Int) (hx : Fits x) (hy : Fits y) (w : World) : Calls Try.prog 69 #[.int .i64 22, .int .i64 x, .int .i64 y] w fun e w' => e = ret2 (two 22 x y) ∧ Gr w w' := by
  have hrun : ∀ w : World, Sem.run Try.prog (binOp .eql 98 (.func (.func 125) #[] #[]) .nilFunc) w = .ok (.bool false) w := fun w => by kernel_rfl
  go_enter Try.func69, Try.ntmps69
  go_wp2_with (first | (go_at_call 95; refine (two_22 _).mono ?_; rintro e w' ⟨rfl, hg⟩) | (go_at_call 125; refine (times_any x y hx hy _).mono ?_; rintro e w' ⟨rfl, rfl⟩))
  go_ret2
  exact ⟨rfl, hg⟩
theorem Two_23 (x y : Int) (hx : Fits x) (hy : Fits y) (w : World) : Calls Try.prog 69 #[.int .i64 23, .int .i64 x, .int .i64 y] w fun e w' => e = ret2 (two 23 x y) ∧ Gr w w' := by
  have hrun : ∀ w : World, Sem.run Try.prog (binOp .eql 98 (.func (.func 126) #[] #[]) .nilFunc) w = .ok (.bool false) w := fun w => by kernel_rfl
  go_enter Try.func69, Try.ntmps69
  go_wp2_with (first | (go_at_call 95; refine (two_23 _).mono ?_; rintro e w' ⟨rfl, hg⟩) | (go_at_call 126; refine (eq_any x y hx hy _).mono ?_; rintro e w' ⟨rfl, rfl⟩))
  go_ret2
  exact ⟨rfl, hg⟩
theorem Two_24 (x y : Int) (hx : Fits x) (hy : Fits y) (w : World) : Calls Try.prog 69 #[.int .i64 24, .int .i64 x, .int .i64 y] w fun e w' => e = ret2 (two 24 x y) ∧ Gr w w' := by
  have hrun : ∀ w : World, Sem.run Try.prog (binOp .eql 98 (.func (.func 127) #[] #[]) .nilFunc) w = .ok (.bool false) w := fun w => by kernel_rfl
  go_enter Try.func69, Try.ntmps69
  go_wp2_with (first | (go_at_call 95; refine (two_24 _).mono ?_; rintro e w' ⟨rfl, hg⟩) | (go_at_call 127; refine (ne_any x y hx hy _).mono ?_; rintro e w' ⟨rfl, rfl⟩))
  go_ret2
  exact ⟨rfl, hg⟩
theorem Two_25 (x y : Int) (hx : Fits x) (hy : Fits y) (w : World) : Calls Try.prog 69 #[.int .i64 25, .int .i64 x, .int .i64 y] w fun e w' => e = ret2 (two 25 x y) ∧ Gr w w' := by
  have hrun : ∀ w : World, Sem.run Try.prog (binOp .eql 98 (.func (.func 128) #[] #[]) .nilFunc) w = .ok (.bool false) w := fun w => by kernel_rfl
  go_enter Try.func69, Try.ntmps69
  go_wp2_with (first | (go_at_call 95; refine (two_25 _).mono ?_; rintro e w' ⟨rfl, hg⟩) | (go_at_call 128; refine (lt_any x y hx hy _).mono ?_; rintro e w' ⟨rfl, rfl⟩))
  go_ret2
  exact ⟨rfl, hg⟩
theorem Two_26 (x y : Int) (hx : Fits x) (hy : Fits y) (w : World) : Calls Try.prog 69 #[.int .i64 26, .int .i64 x, .int .i64 y] w fun e w' => e = ret2 (two 26 x y) ∧ Gr w w' := by
  have hrun : ∀ w : World, Sem.run Try.prog (binOp .eql 98 (.func (.func 129) #[] #[]) .nilFunc) w = .ok (.bool false) w := fun w => by kernel_rfl
  go_enter Try.func69, Try.ntmps69
  go_wp2_with (first | (go_at_call 95; refine (two_26 _).mono ?_; rintro e w' ⟨rfl, hg⟩) | (go_at_call 129; refine (le_any x y hx hy _).mono ?_; rintro e w' ⟨rfl, rfl⟩))
  go_ret2
  exact ⟨rfl, hg⟩
theorem Two_27 (x y : Int) (hx : Fits x) (hy : Fits y) (w : World) : Calls Try.prog 69 #[.int .i64 27, .int .i64 x, .int .i64 y] w fun e w' => e = ret2 (two 27 x y) ∧ Gr w w' := by
  have hrun : ∀ w : World, Sem.run Try.prog (binOp .eql 98 (.func (.func 130) #[] #[]) .nilFunc) w = .ok (.bool false) w := fun w => by kernel_rfl
  go_enter Try.func69, Try.ntmps69
  go_wp2_with (first | (go_at_call 95; refine (two_27 _).mono ?_; rintro e w' ⟨rfl, hg⟩) | (go_at_call 130; refine (gt_any x y hx hy _).mono ?_; rintro e w' ⟨rfl, rfl⟩))
  go_ret2
  exact ⟨rfl, hg⟩
theorem Two_28 (x y : Int) (hx : Fits x) (hy : Fits y) (w : World) : Calls Try.prog 69 #[.int .i64 28, .int .i64 x, .int .i64 y] w fun e w' => e = ret2 (two 28 x y) ∧ Gr w w' := by
  have hrun : ∀ w : World, Sem.run Try.prog (binOp .eql 98 (.func (.func 131) #[] #[]) .nilFunc) w = .ok (.bool false) w := fun w => by kernel_rfl
  go_enter Try.func69, Try.ntmps69
  go_wp2_with (first | (go_at_call 95; refine (two_28 _).mono ?_; rintro e w' ⟨rfl, hg⟩) | (go_at_call 131; refine (ge_any x y hx hy _).mono ?_; rintro e w' ⟨rfl, rfl⟩))
  go_ret2
  exact ⟨rfl, hg⟩
theorem Two_29 (x y : Int) (hx : Fits x) (hy : Fits y) (w : World) : Calls Try.prog 69 #[.int .i64 29, .int .i64 x, .int .i64 y] w fun e w' => e = ret2 (two 29 x y) ∧ Gr w w' := by
  have hrun : ∀ w : World, Sem.run Try.prog (binOp .eql 98 (.func (.func 132) #[] #[]) .nilFunc) w = .ok (.bool false) w := fun w => by kernel_rfl
  go_enter Try.func69, Try.ntmps69
  go_wp2_with (first | (go_at_call 95; refine (two_29 _).mono ?_; rintro e w' ⟨rfl, hg⟩) | (go_at_call 132; refine (and_any x y hx hy _).mono ?_; rintro e w' ⟨rfl, rfl⟩))
  go_ret2
  exact ⟨rfl, hg⟩
theorem Two_30 (x y : Int) (hx : Fits x) (hy : Fits y) (w : World) : Calls Try.prog 69 #[.int .i64 30, .int .i64 x, .int .i64 y] w fun e w' => e = ret2 (two 30 x y) ∧ Gr w w' := by
  have hrun : ∀ w : World, Sem.run Try.prog (binOp .eql 98 (.func (.func 133) #[] #[]) .nilFunc) w = .ok (.bool false) w := fun w => by kernel_rfl
  go_enter Try.func69, Try.ntmps69
  go_wp2_with (first | (go_at_call 95; refine (two_30 _).mono ?_; rintro e w' ⟨rfl, hg⟩) | (go_at_call 133; refine (or_any x y hx hy _).mono ?_; rintro e w' ⟨rfl, rfl⟩))
  go_ret2
  exact ⟨rfl, hg⟩
theorem Two_31 (x y : Int) (hx : Fits x) (hy : Fits y) (w : World) : Calls Try.prog 69 #[.int .i64 31, .int .i64 x, .int .i64 y] w fun e w' => e = ret2 (two 31 x y) ∧ Gr w w' := by
  have hrun : ∀ w : World, Sem.run Try.prog (binOp .eql 98 (.func (.func 134) #[] #[]) .nilFunc) w = .ok (.bool false) w := fun w => by kernel_rfl
  go_enter Try.func69, Try.ntmps69
  go_wp2_with (first | (go_at_call 95; refine (two_31 _).mono ?_; rintro e w' ⟨rfl, hg⟩) | (go_at_call 134; refine (min_any x y _).mono ?_; rintro e w' ⟨rfl, rfl⟩))
  go_ret2
  exact ⟨rfl, hg⟩
theorem Two_32 (x y : Int) (hx : Fits x) (hy : Fits y) (w : World) : Calls Try.prog 69 #[.int .i64 32, .int .i64 x, .int .i64 y] w fun e w' => e = ret2 (two 32 x y) ∧ Gr w w' := by
  have hrun : ∀ w : World, Sem.run Try.prog (binOp .eql 98 (.func (.func 135) #[] #[]) .nilFunc) w = .ok (.bool false) w := fun w => by kernel_rfl
  go_enter Try.func69, Try.ntmps69
  go_wp2_with (first | (go_at_call 95; refine (two_32 _).mono ?_; rintro e w' ⟨rfl, hg⟩) | (go_at_call 135; refine (max_any x y _).mono ?_; rintro e w' ⟨rfl, rfl⟩))
  go_ret2
  exact ⟨rfl, hg⟩
theorem Two_nil (p x y : Int) (hp : p < 15 ∨ 33 ≤ p) (w : World) : Calls Try.prog 69 #[.int .i64 p, .int .i64 x, .int .i64 y] w fun e w' => e = ret2 (0, 2) ∧ Gr w w' := by
  have hrun : ∀ w : World, Sem.run Try.prog (binOp .eql 98 .nilFunc .nilFunc) w = .ok (.bool true) w := fun w => by kernel_rfl
  go_enter Try.func69, Try.ntmps69
  go_wp2_with (go_at_call 95; refine (two_nil p hp _).mono ?_; rintro e w' ⟨rfl, hg⟩)
  go_ret2
  exact ⟨rfl, hg⟩
theorem Two_any (p x y : Int) (hx : Fits x) (hy : Fits y) (w : World) : Calls Try.prog 69 #[.int .i64 p, .int .i64 x, .int .i64 y] w fun e w' => e = ret2 (two p x y) ∧ Gr w w' := by
  by_cases hp : p < 15 ∨ 33 ≤ p
  · rw [two_none hp]; exact Two_nil p x y hp w
  by_cases e15 : p = 15
  · subst e15; exact Two_15 x y hx hy w
  by_cases e16 : p = 16
  · subst e16; exact Two_16 x y hx hy w
  by_cases e17 : p = 17
  · subst e17; exact Two_17 x y hx hy w
  by_cases e18 : p = 18
  · subst e18; exact Two_18 x y hx hy w
  by_cases e19 : p = 19
  · subst e19; exact Two_19 x y hx hy w
  by_cases e20 : p = 20
  · subst e20; exact Two_20 x y hx hy w
  by_cases e21 : p = 21
  · subst e21; exact Two_21 x y hx hy w
  by_cases e22 : p = 22
  · subst e22; exact Two_22 x y hx hy w
  by_cases e23 : p = 23
  · subst e23; exact Two_23 x y hx hy w
  by_cases e24 : p = 24
  · subst e24; exact Two_24 x y hx hy w
  by_cases e25 : p = 25
  · subst e25; exact Two_25 x y hx hy w
  by_cases e26 : p = 26
  · subst e26; exact Two_26 x y hx hy w
  by_cases e27 : p = 27
  · subst e27; exact Two_27 x y hx hy w
  by_cases e28 : p = 28
  · subst e28; exact Two_28 x y hx hy w
  by_cases e29 : p = 29
  · subst e29; exact Two_29 x y hx hy w
  by_cases e30 : p = 30
  · subst e30; exact Two_30 x y hx hy w
  by_cases e31 : p = 31
  · subst e31; exact Two_31 x y hx hy w
  by_cases e32 : p = 32
  · subst e32; exact Two_32 x y hx hy w
  omega
theorem One_1 (x : Int) (hx : Fits x) (w : World) : Calls Try.prog 62 #[.int .i64 1, .int .i64 x] w fun e w' => e = ret2 (one 1 x) ∧ Gr w w' := by
  have hrun : ∀ w : World, Sem.run Try.prog (binOp .eql 96 (.func (.func 115) #[] #[]) .nilFunc) w = .ok (.bool false) w := fun w => by kernel_rfl
  go_enter Try.func62, Try.ntmps62
  go_wp2_with (first | (go_at_call 94; refine (one_1 _).mono ?_; rintro e w' ⟨rfl, hg⟩) | (go_at_call 115; refine (neg_any x hx _).mono ?_; rintro e w' ⟨rfl, rfl⟩))
  go_ret2
  exact ⟨rfl, hg⟩
theorem One_2 (x : Int) (hx : Fits x) (w : World) : Calls Try.prog 62 #[.int .i64 2, .int .i64 x] w fun e w' => e = ret2 (one 2 x) ∧ Gr w w' := by
  have hrun : ∀ w : World, Sem.run Try.prog (binOp .eql 96 (.func (.func 116) #[] #[]) .nilFunc) w = .ok (.bool false) w := fun w => by kernel_rfl
  go_enter Try.func62, Try.ntmps62
  go_wp2_with (first | (go_at_call 94; refine (one_2 _).mono ?_; rintro e w' ⟨rfl, hg⟩) | (go_at_call 116; refine (abs_any x hx _).mono ?_; rintro e w' ⟨rfl, rfl⟩))
  go_ret2
  exact ⟨rfl, hg⟩
theorem One_3 (x : Int) (hx : Fits x) (w : World) : Calls Try.prog 62 #[.int .i64 3, .int .i64 x] w fun e w' => e = ret2 (one 3 x) ∧ Gr w w' := by
  have hrun : ∀ w : World, Sem.run Try.prog (binOp .eql 96 (.func (.func 117) #[] #[]) .nilFunc) w = .ok (.bool false) w := fun w => by kernel_rfl
  go_enter Try.func62, Try.ntmps62
  go_wp2_with (first | (go_at_call 94; refine (one_3 _).mono ?_; rintro e w' ⟨rfl, hg⟩) | (go_at_call 117; refine (not_any x _).mono ?_; rintro e w' ⟨rfl, rfl⟩))
  go_ret2
  exact ⟨rfl, hg⟩
theorem One_nil (p x : Int) (hp : p < 1 ∨ 4 ≤ p) (w : World) : Calls Try.prog 62 #[.int .i64 p, .int .i64 x] w fun e w' => e = ret2 (0, 2) ∧ Gr w w' := by
  have hrun : ∀ w : World, Sem.run Try.prog (binOp .eql 96 .nilFunc .nilFunc) w = .ok (.bool true) w := fun w => by kernel_rfl
  go_enter Try.func62, Try.ntmps62
  go_wp2_with (go_at_call 94; refine (one_nil p hp _).mono ?_; rintro e w' ⟨rfl, hg⟩)
  go_ret2
  exact ⟨rfl, hg⟩
theorem One_any (p x : Int) (hx : Fits x) (w : World) : Calls Try.prog 62 #[.int .i64 p, .int .i64 x] w fun e w' => e = ret2 (one p x) ∧ Gr w w' := by
  by_cases hp : p < 1 ∨ 4 ≤ p
  · rw [one_none hp]; exact One_nil p x hp w
  by_cases e1 : p = 1
  · subst e1; exact One_1 x hx w
  by_cases e2 : p = 2
  · subst e2; exact One_2 x hx w
  by_cases e3 : p = 3
  · subst e3; exact One_3 x hx w
  omega
end Sc
end Go.Proofs.Ytfpnafeildigaaa
