/-
What is wrong with a shape: contracts of Check and Cells, of the program and of the reference (chapter 5).
-/
import Derived.Test.YtfpnafeildigaaaArA
set_option linter.unusedSimpArgs false
set_option linter.unusedVariables false
namespace Go.Proofs.Ytfpnafeildigaaa
namespace Ar
open Go.RowKit Sc

theorem Below.dn {B : Nat} {w w' : World} (h : Below B w w') (n : Nat) : Below B w (w'.drewN n) := h.trans (below_drewN _ _ _)
theorem prod_bounds {a b : Int} (h1 : 0 ≤ a) (h2 : a ≤ 400) (h3 : 0 ≤ b) (h4 : b ≤ 400) : 0 ≤ a * b ∧ a * b ≤ 160000 :=
  ⟨Int.mul_nonneg h1 h3, by have := Int.mul_le_mul h2 h4 h3 (by omega : (0 : Int) ≤ 400); omega⟩
theorem check_out (r l0 l1 : Int) (h : r < 0 ∨ 2 < r) (w : World) : Calls Try.prog 136 #[.int .i64 r, .agg #[.int .i64 l0, .int .i64 l1]] w fun e w' => e = .returned (.int .i64 7) ∧ Below w.heap.size w w' := by
  by_cases a : r < 0
  all_goals
    go_enter Try.func136, Try.ntmps136
    go_wp2
    go_ret
    exact ⟨rfl, by (repeat (first | exact Below.refl _ _ | assumption | (refine bl_then ?_ (by assumption)) | (refine bl_alloc ?_ _) | (refine bl_dn ?_ _) | (refine bl_drew ?_)))⟩
theorem check_0f (l0 l1 : Int) (h : l0 ≠ 0 ∨ l1 ≠ 0) (w : World) : Calls Try.prog 136 #[.int .i64 0, .agg #[.int .i64 l0, .int .i64 l1]] w fun e w' => e = .returned (.int .i64 6) ∧ Below w.heap.size w w' := by
  have Bneg1 : Hid (([] : List Int).any neg1 = false) := rfl
  have Bnon0 : Hid (([l0, l1] : List Int).any non0 = true) := by simp [Hid, non0]; omega
  clear h
  go_enter Try.func136, Try.ntmps136
  go_wp2
  go_quiet (fail)
  go_wp2_with (first | (go_at_call 144; with_reducible (refine (has0_neg1 _ _  _ (Sl.nil _ _) _ Bneg1.out).mono ?_); rintro e w' ⟨rfl, rfl⟩) | (go_at_call 144; with_reducible (refine (has2_non0 _ _ l0  l1 _ (sl_box2 _ _ _ _ _) _ Bnon0.out).mono ?_); rintro e w' ⟨rfl, rfl⟩))
  go_ret
  exact ⟨rfl, by (repeat (first | exact Below.refl _ _ | assumption | (refine bl_then ?_ (by assumption)) | (refine bl_alloc ?_ _) | (refine bl_dn ?_ _) | (refine bl_drew ?_)))⟩
theorem check_0t (l0 l1 : Int) (h0 : l0 = 0) (h1 : l1 = 0) (w : World) : Calls Try.prog 136 #[.int .i64 0, .agg #[.int .i64 l0, .int .i64 l1]] w fun e w' => e = .returned (.int .i64 0) ∧ Below w.heap.size w w' := by
  have Bneg1 : Hid (([] : List Int).any neg1 = false) := rfl
  have Bnon0 : Hid (([l0, l1] : List Int).any non0 = false) := by simp [Hid, non0]; omega
  have Bover : Hid (([] : List Int).any over = false) := rfl
  clear h0 h1
  go_enter Try.func136, Try.ntmps136
  go_wp2
  go_quiet (fail)
  go_wp2_with (first | (go_at_call 144; with_reducible (refine (has0_neg1 _ _  _ (Sl.nil _ _) _ Bneg1.out).mono ?_); rintro e w' ⟨rfl, rfl⟩) | (go_at_call 144; with_reducible (refine (has2_non0 _ _ l0  l1 _ (sl_box2 _ _ _ _ _) _ Bnon0.out).mono ?_); rintro e w' ⟨rfl, rfl⟩) | (go_at_call 144; with_reducible (refine (has0_over _ _  _ (Sl.nil _ _) _ Bover.out).mono ?_); rintro e w' ⟨rfl, rfl⟩) | (go_at_call 137; refine (product_0 l0 l1  _).mono ?_; rintro e w' ⟨rfl, hg⟩))
  go_ret
  exact ⟨rfl, by (repeat (first | exact Below.refl _ _ | assumption | (refine bl_then ?_ (by assumption)) | (refine bl_alloc ?_ _) | (refine bl_dn ?_ _) | (refine bl_drew ?_)))⟩
theorem check_1n (l0 l1 : Int) (h : l0 < 0) (w : World) : Calls Try.prog 136 #[.int .i64 1, .agg #[.int .i64 l0, .int .i64 l1]] w fun e w' => e = .returned (.int .i64 7) ∧ Below w.heap.size w w' := by
  have Bneg1 : Hid (([l0] : List Int).any neg1 = true) := by simp [Hid, neg1]; omega
  clear h
  go_enter Try.func136, Try.ntmps136
  go_wp2
  go_quiet (fail)
  go_wp2_with (first | (go_at_call 144; with_reducible (refine (has1_neg1 _ _ l0 _ (sl_box1 _ _ _ _ _) _ Bneg1.out).mono ?_); rintro e w' ⟨rfl, rfl⟩))
  go_ret
  exact ⟨rfl, by (repeat (first | exact Below.refl _ _ | assumption | (refine bl_then ?_ (by assumption)) | (refine bl_alloc ?_ _) | (refine bl_dn ?_ _) | (refine bl_drew ?_)))⟩
theorem check_1f (l0 l1 : Int) (h : 0 ≤ l0) (h1 : l1 ≠ 0) (w : World) : Calls Try.prog 136 #[.int .i64 1, .agg #[.int .i64 l0, .int .i64 l1]] w fun e w' => e = .returned (.int .i64 6) ∧ Below w.heap.size w w' := by
  have Bneg1 : Hid (([l0] : List Int).any neg1 = false) := by simp [Hid, neg1]; omega
  have Bnon0 : Hid (([l1] : List Int).any non0 = true) := by simp [Hid, non0]; omega
  clear h h1
  go_enter Try.func136, Try.ntmps136
  go_wp2
  go_quiet (fail)
  go_wp2_with (first | (go_at_call 144; with_reducible (refine (has1_neg1 _ _ l0 _ (sl_box1 _ _ _ _ _) _ Bneg1.out).mono ?_); rintro e w' ⟨rfl, rfl⟩) | (go_at_call 144; with_reducible (refine (has1_non0 _ _ l1 _ (sl_box3 _ _ _ _ _) _ Bnon0.out).mono ?_); rintro e w' ⟨rfl, rfl⟩))
  go_ret
  exact ⟨rfl, by (repeat (first | exact Below.refl _ _ | assumption | (refine bl_then ?_ (by assumption)) | (refine bl_alloc ?_ _) | (refine bl_dn ?_ _) | (refine bl_drew ?_)))⟩
theorem check_1o (l0 l1 : Int) (h : 400 < l0) (h1 : l1 = 0) (w : World) : Calls Try.prog 136 #[.int .i64 1, .agg #[.int .i64 l0, .int .i64 l1]] w fun e w' => e = .returned (.int .i64 15) ∧ Below w.heap.size w w' := by
  have Bneg1 : Hid (([l0] : List Int).any neg1 = false) := by simp [Hid, neg1]; omega
  have Bnon0 : Hid (([l1] : List Int).any non0 = false) := by simp [Hid, non0]; omega
  have Bover : Hid (([l0] : List Int).any over = true) := by simp [Hid, over]; omega
  clear h h1
  go_enter Try.func136, Try.ntmps136
  go_wp2
  go_quiet (fail)
  go_wp2_with (first | (go_at_call 144; with_reducible (refine (has1_neg1 _ _ l0 _ (sl_box1 _ _ _ _ _) _ Bneg1.out).mono ?_); rintro e w' ⟨rfl, rfl⟩) | (go_at_call 144; with_reducible (refine (has1_non0 _ _ l1 _ (sl_box3 _ _ _ _ _) _ Bnon0.out).mono ?_); rintro e w' ⟨rfl, rfl⟩) | (go_at_call 144; with_reducible (refine (has1_over _ _ l0 _ (sl_box1 _ _ _ _ _) _ Bover.out).mono ?_); rintro e w' ⟨rfl, rfl⟩))
  go_ret
  exact ⟨rfl, by (repeat (first | exact Below.refl _ _ | assumption | (refine bl_then ?_ (by assumption)) | (refine bl_alloc ?_ _) | (refine bl_dn ?_ _) | (refine bl_drew ?_)))⟩
theorem check_1t (l0 l1 : Int) (h : 0 ≤ l0) (h2 : l0 ≤ 400) (h1 : l1 = 0) (w : World) : Calls Try.prog 136 #[.int .i64 1, .agg #[.int .i64 l0, .int .i64 l1]] w fun e w' => e = .returned (.int .i64 0) ∧ Below w.heap.size w w' := by
  have Bneg1 : Hid (([l0] : List Int).any neg1 = false) := by simp [Hid, neg1]; omega
  have Bnon0 : Hid (([l1] : List Int).any non0 = false) := by simp [Hid, non0]; omega
  have Bover : Hid (([l0] : List Int).any over = false) := by simp [Hid, over]; omega
  have hf := hide (show Fits l0 by unfold Fits; omega)
  have k1 : l0 ≤ 400 := by omega
  clear h h2 h1
  go_enter Try.func136, Try.ntmps136
  go_wp2
  go_quiet (fail)
  go_wp2_with (first | (go_at_call 144; with_reducible (refine (has1_neg1 _ _ l0 _ (sl_box1 _ _ _ _ _) _ Bneg1.out).mono ?_); rintro e w' ⟨rfl, rfl⟩) | (go_at_call 144; with_reducible (refine (has1_non0 _ _ l1 _ (sl_box3 _ _ _ _ _) _ Bnon0.out).mono ?_); rintro e w' ⟨rfl, rfl⟩) | (go_at_call 144; with_reducible (refine (has1_over _ _ l0 _ (sl_box1 _ _ _ _ _) _ Bover.out).mono ?_); rintro e w' ⟨rfl, rfl⟩) | (go_at_call 137; refine (product_1 l0 l1 hf.out _).mono ?_; rintro e w' ⟨rfl, hg⟩))
  go_ret
  exact ⟨rfl, by (repeat (first | exact Below.refl _ _ | assumption | (refine bl_then ?_ (by assumption)) | (refine bl_alloc ?_ _) | (refine bl_dn ?_ _) | (refine bl_drew ?_)))⟩
theorem check_2n (l0 l1 : Int) (h : l0 < 0 ∨ l1 < 0) (w : World) : Calls Try.prog 136 #[.int .i64 2, .agg #[.int .i64 l0, .int .i64 l1]] w fun e w' => e = .returned (.int .i64 7) ∧ Below w.heap.size w w' := by
  have Bneg1 : Hid (([l0, l1] : List Int).any neg1 = true) := by simp [Hid, neg1]; omega
  clear h
  go_enter Try.func136, Try.ntmps136
  go_wp2
  go_quiet (fail)
  go_wp2_with (first | (go_at_call 144; with_reducible (refine (has2_neg1 _ _ l0  l1 _ (sl_box2 _ _ _ _ _) _ Bneg1.out).mono ?_); rintro e w' ⟨rfl, rfl⟩))
  go_ret
  exact ⟨rfl, by (repeat (first | exact Below.refl _ _ | assumption | (refine bl_then ?_ (by assumption)) | (refine bl_alloc ?_ _) | (refine bl_dn ?_ _) | (refine bl_drew ?_)))⟩
theorem check_2o (l0 l1 : Int) (h0 : 0 ≤ l0) (h1 : 0 ≤ l1) (h : 400 < l0 ∨ 400 < l1) (w : World) : Calls Try.prog 136 #[.int .i64 2, .agg #[.int .i64 l0, .int .i64 l1]] w fun e w' => e = .returned (.int .i64 15) ∧ Below w.heap.size w w' := by
  have Bneg1 : Hid (([l0, l1] : List Int).any neg1 = false) := by simp [Hid, neg1]; omega
  have Bnon0 : Hid (([] : List Int).any non0 = false) := rfl
  have Bover : Hid (([l0, l1] : List Int).any over = true) := by simp [Hid, over]; omega
  clear h0 h1 h
  go_enter Try.func136, Try.ntmps136
  go_wp2
  go_quiet (fail)
  go_wp2_with (first | (go_at_call 144; with_reducible (refine (has2_neg1 _ _ l0  l1 _ (sl_box2 _ _ _ _ _) _ Bneg1.out).mono ?_); rintro e w' ⟨rfl, rfl⟩) | (go_at_call 144; with_reducible (refine (has0_non0 _ _  _ (Sl.nil _ _) _ Bnon0.out).mono ?_); rintro e w' ⟨rfl, rfl⟩) | (go_at_call 144; with_reducible (refine (has2_over _ _ l0  l1 _ (sl_box2 _ _ _ _ _) _ Bover.out).mono ?_); rintro e w' ⟨rfl, rfl⟩))
  go_ret
  exact ⟨rfl, by (repeat (first | exact Below.refl _ _ | assumption | (refine bl_then ?_ (by assumption)) | (refine bl_alloc ?_ _) | (refine bl_dn ?_ _) | (refine bl_drew ?_)))⟩
theorem check_2p (l0 l1 : Int) (hq : 400 < l0 * l1) (h0 : 0 ≤ l0) (k0 : l0 ≤ 400) (h1 : 0 ≤ l1) (k1 : l1 ≤ 400) (w : World) : Calls Try.prog 136 #[.int .i64 2, .agg #[.int .i64 l0, .int .i64 l1]] w fun e w' => e = .returned (.int .i64 15) ∧ Below w.heap.size w w' := by
  have Bneg1 : Hid (([l0, l1] : List Int).any neg1 = false) := by simp [Hid, neg1]; omega
  have Bnon0 : Hid (([] : List Int).any non0 = false) := rfl
  have Bover : Hid (([l0, l1] : List Int).any over = false) := by simp [Hid, over]; omega
  have hp := prod_bounds h0 k0 h1 k1
  have hf := hide (show Fits (l0 * l1) by unfold Fits; omega)
  have f0 := hide (show Fits l0 by unfold Fits; omega)
  have f1 := hide (show Fits l1 by unfold Fits; omega)
  clear hp
  clear h0 k0 h1 k1
  go_enter Try.func136, Try.ntmps136
  go_wp2
  go_quiet (fail)
  go_wp2_with (first | (go_at_call 144; with_reducible (refine (has2_neg1 _ _ l0  l1 _ (sl_box2 _ _ _ _ _) _ Bneg1.out).mono ?_); rintro e w' ⟨rfl, rfl⟩) | (go_at_call 144; with_reducible (refine (has0_non0 _ _  _ (Sl.nil _ _) _ Bnon0.out).mono ?_); rintro e w' ⟨rfl, rfl⟩) | (go_at_call 144; with_reducible (refine (has2_over _ _ l0  l1 _ (sl_box2 _ _ _ _ _) _ Bover.out).mono ?_); rintro e w' ⟨rfl, rfl⟩) | (go_at_call 137; refine (product_2 l0 l1 hf.out f0.out f1.out _).mono ?_; rintro e w' ⟨rfl, hg⟩))
  go_ret
  exact ⟨rfl, by (repeat (first | exact Below.refl _ _ | assumption | (refine bl_then ?_ (by assumption)) | (refine bl_alloc ?_ _) | (refine bl_dn ?_ _) | (refine bl_drew ?_)))⟩
theorem check_2t (l0 l1 : Int) (hq : l0 * l1 ≤ 400) (h0 : 0 ≤ l0) (k0 : l0 ≤ 400) (h1 : 0 ≤ l1) (k1 : l1 ≤ 400) (w : World) : Calls Try.prog 136 #[.int .i64 2, .agg #[.int .i64 l0, .int .i64 l1]] w fun e w' => e = .returned (.int .i64 0) ∧ Below w.heap.size w w' := by
  have Bneg1 : Hid (([l0, l1] : List Int).any neg1 = false) := by simp [Hid, neg1]; omega
  have Bnon0 : Hid (([] : List Int).any non0 = false) := rfl
  have Bover : Hid (([l0, l1] : List Int).any over = false) := by simp [Hid, over]; omega
  have hp := prod_bounds h0 k0 h1 k1
  have hf := hide (show Fits (l0 * l1) by unfold Fits; omega)
  have f0 := hide (show Fits l0 by unfold Fits; omega)
  have f1 := hide (show Fits l1 by unfold Fits; omega)
  clear hp
  clear h0 k0 h1 k1
  go_enter Try.func136, Try.ntmps136
  go_wp2
  go_quiet (fail)
  go_wp2_with (first | (go_at_call 144; with_reducible (refine (has2_neg1 _ _ l0  l1 _ (sl_box2 _ _ _ _ _) _ Bneg1.out).mono ?_); rintro e w' ⟨rfl, rfl⟩) | (go_at_call 144; with_reducible (refine (has0_non0 _ _  _ (Sl.nil _ _) _ Bnon0.out).mono ?_); rintro e w' ⟨rfl, rfl⟩) | (go_at_call 144; with_reducible (refine (has2_over _ _ l0  l1 _ (sl_box2 _ _ _ _ _) _ Bover.out).mono ?_); rintro e w' ⟨rfl, rfl⟩) | (go_at_call 137; refine (product_2 l0 l1 hf.out f0.out f1.out _).mono ?_; rintro e w' ⟨rfl, hg⟩))
  go_ret
  exact ⟨rfl, by (repeat (first | exact Below.refl _ _ | assumption | (refine bl_then ?_ (by assumption)) | (refine bl_alloc ?_ _) | (refine bl_dn ?_ _) | (refine bl_drew ?_)))⟩
/-- what Check says of a shape, of the program -/
theorem check_any (r l0 l1 : Int) (w : World) : Calls Try.prog 136 #[.int .i64 r, .agg #[.int .i64 l0, .int .i64 l1]] w fun e w' => e = .returned (.int .i64 (shCheck r l0 l1)) ∧ Below w.heap.size w w' := by
  by_cases a : r < 0 ∨ 2 < r
  · rw [show shCheck r l0 l1 = 7 from if_pos a]; exact check_out r l0 l1 a w
  obtain rfl | rfl | rfl : r = 0 ∨ r = 1 ∨ r = 2 := by omega
  · by_cases b : l0 ≠ 0 ∨ l1 ≠ 0
    · rw [sh_0f b]; exact check_0f l0 l1 b w
    · rw [sh_0t (by omega) (by omega)]; exact check_0t l0 l1 (by omega) (by omega) w
  · by_cases b : l0 < 0
    · rw [sh_1n b]; exact check_1n l0 l1 b w
    · by_cases c : l1 = 0
      · by_cases d : 400 < l0
        · rw [sh_1o d c]; exact check_1o l0 l1 d c w
        · rw [sh_1t (by omega) (by omega) c]; exact check_1t l0 l1 (by omega) (by omega) c w
      · rw [sh_1f (by omega) c]; exact check_1f l0 l1 (by omega) c w
  · by_cases b : l0 < 0 ∨ l1 < 0
    · rw [sh_2n b]; exact check_2n l0 l1 b w
    · by_cases c : 400 < l0 ∨ 400 < l1
      · rw [sh_2o (by omega) (by omega) c]; exact check_2o l0 l1 (by omega) (by omega) c w
      · by_cases d : 400 < l0 * l1
        · rw [sh_2p (by omega) (by omega) d]; exact check_2p l0 l1 d (by omega) (by omega) (by omega) (by omega) w
        · rw [sh_2t (by omega) (by omega) (by omega) (by omega) (by omega)]; exact check_2t l0 l1 (by omega) (by omega) (by omega) (by omega) (by omega) w
namespace Ref
theorem check_out (r l0 l1 : Int) (h : r < 0 ∨ 2 < r) (w : World) : Calls Try.prog 104 #[.int .i64 r, .agg #[.int .i64 l0, .int .i64 l1]] w fun e w' => e = .returned (.int .i64 7) ∧ Below w.heap.size w w' := by
  by_cases a : r < 0
  all_goals
    go_enter Try.func104, Try.ntmps104
    go_wp2
    go_ret
    exact ⟨rfl, by (repeat (first | exact Below.refl _ _ | assumption | (refine bl_then ?_ (by assumption)) | (refine bl_alloc ?_ _) | (refine bl_dn ?_ _) | (refine bl_drew ?_)))⟩
theorem check_0f0 (l0 l1 : Int) (h : l0 ≠ 0) (w : World) : Calls Try.prog 104 #[.int .i64 0, .agg #[.int .i64 l0, .int .i64 l1]] w fun e w' => e = .returned (.int .i64 6) ∧ Below w.heap.size w w' := by
  have nl0 : (l0 != 0) = true := by simp; omega
  go_enter Try.func104, Try.ntmps104
  go_wp2_with (fail)
  refine wp_loop_rounds 1 ?_
  repeat any_goals (rw [rounds_succ]; go_wp2_with (fail))
  refine wp_loop_rounds 1 ?_
  repeat any_goals (rw [rounds_succ]; go_wp2_with (fail))
  go_ret
  exact ⟨rfl, by (repeat (first | exact Below.refl _ _ | assumption | (refine bl_then ?_ (by assumption)) | (refine bl_alloc ?_ _) | (refine bl_dn ?_ _) | (refine bl_drew ?_)))⟩
theorem check_0f1 (l0 l1 : Int) (h : l0 = 0) (h1 : l1 ≠ 0) (w : World) : Calls Try.prog 104 #[.int .i64 0, .agg #[.int .i64 l0, .int .i64 l1]] w fun e w' => e = .returned (.int .i64 6) ∧ Below w.heap.size w w' := by
  subst h
  have nl1 : (l1 != 0) = true := by simp; omega
  go_enter Try.func104, Try.ntmps104
  go_wp2_with (fail)
  refine wp_loop_rounds 1 ?_
  repeat any_goals (rw [rounds_succ]; go_wp2_with (fail))
  refine wp_loop_rounds 2 ?_
  repeat any_goals (rw [rounds_succ]; go_wp2_with (fail))
  go_ret
  exact ⟨rfl, by (repeat (first | exact Below.refl _ _ | assumption | (refine bl_then ?_ (by assumption)) | (refine bl_alloc ?_ _) | (refine bl_dn ?_ _) | (refine bl_drew ?_)))⟩
theorem check_0t (l0 l1 : Int) (h : l0 = 0) (h1 : l1 = 0) (w : World) : Calls Try.prog 104 #[.int .i64 0, .agg #[.int .i64 l0, .int .i64 l1]] w fun e w' => e = .returned (.int .i64 0) ∧ Below w.heap.size w w' := by
  subst h; subst h1
  go_enter Try.func104, Try.ntmps104
  go_wp2_with ((go_at_call 105; refine (many_0 0 0  _).mono ?_; rintro e w' ⟨rfl, hg⟩))
  refine wp_loop_rounds 1 ?_
  repeat any_goals (rw [rounds_succ]; go_wp2_with ((go_at_call 105; refine (many_0 0 0  _).mono ?_; rintro e w' ⟨rfl, hg⟩)))
  refine wp_loop_rounds 3 ?_
  repeat any_goals (rw [rounds_succ]; go_wp2_with ((go_at_call 105; refine (many_0 0 0  _).mono ?_; rintro e w' ⟨rfl, hg⟩)))
  go_ret
  exact ⟨rfl, by (repeat (first | exact Below.refl _ _ | assumption | (refine bl_then ?_ (by assumption)) | (refine bl_alloc ?_ _) | (refine bl_dn ?_ _) | (refine bl_drew ?_)))⟩
theorem check_1n (l0 l1 : Int) (h : l0 < 0) (w : World) : Calls Try.prog 104 #[.int .i64 1, .agg #[.int .i64 l0, .int .i64 l1]] w fun e w' => e = .returned (.int .i64 7) ∧ Below w.heap.size w w' := by
  go_enter Try.func104, Try.ntmps104
  go_wp2_with (fail)
  refine wp_loop_rounds 1 ?_
  repeat any_goals (rw [rounds_succ]; go_wp2_with (fail))
  go_ret
  exact ⟨rfl, by (repeat (first | exact Below.refl _ _ | assumption | (refine bl_then ?_ (by assumption)) | (refine bl_alloc ?_ _) | (refine bl_dn ?_ _) | (refine bl_drew ?_)))⟩
theorem check_1f (l0 l1 : Int) (h : 0 ≤ l0) (h1 : l1 ≠ 0) (w : World) : Calls Try.prog 104 #[.int .i64 1, .agg #[.int .i64 l0, .int .i64 l1]] w fun e w' => e = .returned (.int .i64 6) ∧ Below w.heap.size w w' := by
  have nl1 : (l1 != 0) = true := by simp; omega
  go_enter Try.func104, Try.ntmps104
  go_wp2_with (fail)
  refine wp_loop_rounds 2 ?_
  repeat any_goals (rw [rounds_succ]; go_wp2_with (fail))
  refine wp_loop_rounds 1 ?_
  repeat any_goals (rw [rounds_succ]; go_wp2_with (fail))
  go_ret
  exact ⟨rfl, by (repeat (first | exact Below.refl _ _ | assumption | (refine bl_then ?_ (by assumption)) | (refine bl_alloc ?_ _) | (refine bl_dn ?_ _) | (refine bl_drew ?_)))⟩
theorem check_1o (l0 l1 : Int) (h : 400 < l0) (h1 : l1 = 0) (w : World) : Calls Try.prog 104 #[.int .i64 1, .agg #[.int .i64 l0, .int .i64 l1]] w fun e w' => e = .returned (.int .i64 15) ∧ Below w.heap.size w w' := by
  subst h1
  go_enter Try.func104, Try.ntmps104
  go_wp2_with (fail)
  refine wp_loop_rounds 2 ?_
  repeat any_goals (rw [rounds_succ]; go_wp2_with (fail))
  refine wp_loop_rounds 2 ?_
  repeat any_goals (rw [rounds_succ]; go_wp2_with (fail))
  go_ret
  exact ⟨rfl, by (repeat (first | exact Below.refl _ _ | assumption | (refine bl_then ?_ (by assumption)) | (refine bl_alloc ?_ _) | (refine bl_dn ?_ _) | (refine bl_drew ?_)))⟩
theorem check_1t (l0 l1 : Int) (h : 0 ≤ l0) (h2 : l0 ≤ 400) (h1 : l1 = 0) (w : World) : Calls Try.prog 104 #[.int .i64 1, .agg #[.int .i64 l0, .int .i64 l1]] w fun e w' => e = .returned (.int .i64 0) ∧ Below w.heap.size w w' := by
  subst h1
  have hf := hide (show Fits l0 by unfold Fits; omega)
  go_enter Try.func104, Try.ntmps104
  go_wp2_with ((go_at_call 105; refine (many_1 l0 0 hf.out _).mono ?_; rintro e w' ⟨rfl, hg⟩))
  refine wp_loop_rounds 2 ?_
  repeat any_goals (rw [rounds_succ]; go_wp2_with ((go_at_call 105; refine (many_1 l0 0 hf.out _).mono ?_; rintro e w' ⟨rfl, hg⟩)))
  refine wp_loop_rounds 2 ?_
  repeat any_goals (rw [rounds_succ]; go_wp2_with ((go_at_call 105; refine (many_1 l0 0 hf.out _).mono ?_; rintro e w' ⟨rfl, hg⟩)))
  go_ret
  exact ⟨rfl, by (repeat (first | exact Below.refl _ _ | assumption | (refine bl_then ?_ (by assumption)) | (refine bl_alloc ?_ _) | (refine bl_dn ?_ _) | (refine bl_drew ?_)))⟩
theorem check_2n0 (l0 l1 : Int) (h : l0 < 0) (w : World) : Calls Try.prog 104 #[.int .i64 2, .agg #[.int .i64 l0, .int .i64 l1]] w fun e w' => e = .returned (.int .i64 7) ∧ Below w.heap.size w w' := by
  go_enter Try.func104, Try.ntmps104
  go_wp2_with (fail)
  refine wp_loop_rounds 1 ?_
  repeat any_goals (rw [rounds_succ]; go_wp2_with (fail))
  go_ret
  exact ⟨rfl, by (repeat (first | exact Below.refl _ _ | assumption | (refine bl_then ?_ (by assumption)) | (refine bl_alloc ?_ _) | (refine bl_dn ?_ _) | (refine bl_drew ?_)))⟩
theorem check_2n1 (l0 l1 : Int) (h : 0 ≤ l0) (h1 : l1 < 0) (w : World) : Calls Try.prog 104 #[.int .i64 2, .agg #[.int .i64 l0, .int .i64 l1]] w fun e w' => e = .returned (.int .i64 7) ∧ Below w.heap.size w w' := by
  go_enter Try.func104, Try.ntmps104
  go_wp2_with (fail)
  refine wp_loop_rounds 2 ?_
  repeat any_goals (rw [rounds_succ]; go_wp2_with (fail))
  go_ret
  exact ⟨rfl, by (repeat (first | exact Below.refl _ _ | assumption | (refine bl_then ?_ (by assumption)) | (refine bl_alloc ?_ _) | (refine bl_dn ?_ _) | (refine bl_drew ?_)))⟩
theorem check_2o0 (l0 l1 : Int) (h0 : 0 ≤ l0) (h1 : 0 ≤ l1) (h : 400 < l0) (w : World) : Calls Try.prog 104 #[.int .i64 2, .agg #[.int .i64 l0, .int .i64 l1]] w fun e w' => e = .returned (.int .i64 15) ∧ Below w.heap.size w w' := by
  go_enter Try.func104, Try.ntmps104
  go_wp2_with (fail)
  refine wp_loop_rounds 3 ?_
  repeat any_goals (rw [rounds_succ]; go_wp2_with (fail))
  refine wp_loop_rounds 1 ?_
  repeat any_goals (rw [rounds_succ]; go_wp2_with (fail))
  go_ret
  exact ⟨rfl, by (repeat (first | exact Below.refl _ _ | assumption | (refine bl_then ?_ (by assumption)) | (refine bl_alloc ?_ _) | (refine bl_dn ?_ _) | (refine bl_drew ?_)))⟩
theorem check_2o1 (l0 l1 : Int) (h0 : 0 ≤ l0) (h1 : 0 ≤ l1) (h2 : l0 ≤ 400) (h : 400 < l1) (w : World) : Calls Try.prog 104 #[.int .i64 2, .agg #[.int .i64 l0, .int .i64 l1]] w fun e w' => e = .returned (.int .i64 15) ∧ Below w.heap.size w w' := by
  go_enter Try.func104, Try.ntmps104
  go_wp2_with (fail)
  refine wp_loop_rounds 3 ?_
  repeat any_goals (rw [rounds_succ]; go_wp2_with (fail))
  refine wp_loop_rounds 1 ?_
  repeat any_goals (rw [rounds_succ]; go_wp2_with (fail))
  go_ret
  exact ⟨rfl, by (repeat (first | exact Below.refl _ _ | assumption | (refine bl_then ?_ (by assumption)) | (refine bl_alloc ?_ _) | (refine bl_dn ?_ _) | (refine bl_drew ?_)))⟩
theorem check_2p (l0 l1 : Int) (hq : 400 < l0 * l1) (h0 : 0 ≤ l0) (k0 : l0 ≤ 400) (h1 : 0 ≤ l1) (k1 : l1 ≤ 400) (w : World) : Calls Try.prog 104 #[.int .i64 2, .agg #[.int .i64 l0, .int .i64 l1]] w fun e w' => e = .returned (.int .i64 15) ∧ Below w.heap.size w w' := by
  have hp := prod_bounds h0 k0 h1 k1
  have hf := hide (show Fits (l0 * l1) by unfold Fits; omega)
  have f0 := hide (show Fits l0 by unfold Fits; omega)
  have f1 := hide (show Fits l1 by unfold Fits; omega)
  clear hp
  go_enter Try.func104, Try.ntmps104
  go_wp2_with ((go_at_call 105; refine (many_2 l0 l1 hf.out f0.out f1.out _).mono ?_; rintro e w' ⟨rfl, hg⟩))
  refine wp_loop_rounds 3 ?_
  repeat any_goals (rw [rounds_succ]; go_wp2_with ((go_at_call 105; refine (many_2 l0 l1 hf.out f0.out f1.out _).mono ?_; rintro e w' ⟨rfl, hg⟩)))
  refine wp_loop_rounds 1 ?_
  repeat any_goals (rw [rounds_succ]; go_wp2_with ((go_at_call 105; refine (many_2 l0 l1 hf.out f0.out f1.out _).mono ?_; rintro e w' ⟨rfl, hg⟩)))
  go_ret
  exact ⟨rfl, by (repeat (first | exact Below.refl _ _ | assumption | (refine bl_then ?_ (by assumption)) | (refine bl_alloc ?_ _) | (refine bl_dn ?_ _) | (refine bl_drew ?_)))⟩
theorem check_2t (l0 l1 : Int) (hq : l0 * l1 ≤ 400) (h0 : 0 ≤ l0) (k0 : l0 ≤ 400) (h1 : 0 ≤ l1) (k1 : l1 ≤ 400) (w : World) : Calls Try.prog 104 #[.int .i64 2, .agg #[.int .i64 l0, .int .i64 l1]] w fun e w' => e = .returned (.int .i64 0) ∧ Below w.heap.size w w' := by
  have hp := prod_bounds h0 k0 h1 k1
  have hf := hide (show Fits (l0 * l1) by unfold Fits; omega)
  have f0 := hide (show Fits l0 by unfold Fits; omega)
  have f1 := hide (show Fits l1 by unfold Fits; omega)
  clear hp
  go_enter Try.func104, Try.ntmps104
  go_wp2_with ((go_at_call 105; refine (many_2 l0 l1 hf.out f0.out f1.out _).mono ?_; rintro e w' ⟨rfl, hg⟩))
  refine wp_loop_rounds 3 ?_
  repeat any_goals (rw [rounds_succ]; go_wp2_with ((go_at_call 105; refine (many_2 l0 l1 hf.out f0.out f1.out _).mono ?_; rintro e w' ⟨rfl, hg⟩)))
  refine wp_loop_rounds 1 ?_
  repeat any_goals (rw [rounds_succ]; go_wp2_with ((go_at_call 105; refine (many_2 l0 l1 hf.out f0.out f1.out _).mono ?_; rintro e w' ⟨rfl, hg⟩)))
  go_ret
  exact ⟨rfl, by (repeat (first | exact Below.refl _ _ | assumption | (refine bl_then ?_ (by assumption)) | (refine bl_alloc ?_ _) | (refine bl_dn ?_ _) | (refine bl_drew ?_)))⟩
/-- what Check says of a shape, of the reference -/
theorem check_any (r l0 l1 : Int) (w : World) : Calls Try.prog 104 #[.int .i64 r, .agg #[.int .i64 l0, .int .i64 l1]] w fun e w' => e = .returned (.int .i64 (shCheck r l0 l1)) ∧ Below w.heap.size w w' := by
  by_cases a : r < 0 ∨ 2 < r
  · rw [show shCheck r l0 l1 = 7 from if_pos a]; exact check_out r l0 l1 a w
  obtain rfl | rfl | rfl : r = 0 ∨ r = 1 ∨ r = 2 := by omega
  · by_cases b : l0 = 0
    · by_cases c : l1 = 0
      · rw [sh_0t b c]; exact check_0t l0 l1 b c w
      · rw [sh_0f (Or.inr c)]; exact check_0f1 l0 l1 b c w
    · rw [sh_0f (Or.inl b)]; exact check_0f0 l0 l1 b w
  · by_cases b : l0 < 0
    · rw [sh_1n b]; exact check_1n l0 l1 b w
    · by_cases c : l1 = 0
      · by_cases d : 400 < l0
        · rw [sh_1o d c]; exact check_1o l0 l1 d c w
        · rw [sh_1t (by omega) (by omega) c]; exact check_1t l0 l1 (by omega) (by omega) c w
      · rw [sh_1f (by omega) c]; exact check_1f l0 l1 (by omega) c w
  · by_cases b : l0 < 0
    · rw [sh_2n (Or.inl b)]; exact check_2n0 l0 l1 b w
    by_cases b' : l1 < 0
    · rw [sh_2n (Or.inr b')]; exact check_2n1 l0 l1 (by omega) b' w
    · by_cases c : 400 < l0
      · rw [sh_2o (by omega) (by omega) (Or.inl c)]; exact check_2o0 l0 l1 (by omega) (by omega) c w
      by_cases c' : 400 < l1
      · rw [sh_2o (by omega) (by omega) (Or.inr c')]; exact check_2o1 l0 l1 (by omega) (by omega) (by omega) c' w
      · by_cases d : 400 < l0 * l1
        · rw [sh_2p (by omega) (by omega) d]; exact check_2p l0 l1 d (by omega) (by omega) (by omega) (by omega) w
        · rw [sh_2t (by omega) (by omega) (by omega) (by omega) (by omega)]; exact check_2t l0 l1 (by omega) (by omega) (by omega) (by omega) (by omega) w
end Ref
theorem cells_bad (r l0 l1 : Int) (h : shCheck r l0 l1 ≠ 0) (w : World) : Calls Try.prog 96 #[.int .i64 r, .agg #[.int .i64 l0, .int .i64 l1]] w fun e w' => e = ret2 (0, shCheck r l0 l1) ∧ Below w.heap.size w w' := by
  have c0 : (shCheck r l0 l1 != 0) = true := by simpa using h
  have c1 : (shCheck r l0 l1 == 0) = false := by simpa using h
  clear h
  go_enter Try.func96, Try.ntmps96
  go_wp2_with (go_at_call 136; refine (check_any r l0 l1 _).mono ?_; rintro e w' ⟨rfl, hg⟩; obtain ⟨hc, hf, hz⟩ := bcell hg)
  go_ret2
  exact ⟨rfl, by (repeat (first | exact Below.refl _ _ | assumption | (refine bl_then ?_ (by assumption)) | (refine bl_alloc ?_ _) | (refine bl_dn ?_ _) | (refine bl_drew ?_)))⟩
theorem cells_0 (l0 l1 : Int) (h : shCheck 0 l0 l1 = 0) (w : World) : Calls Try.prog 96 #[.int .i64 0, .agg #[.int .i64 l0, .int .i64 l1]] w fun e w' => e = ret2 (1, 0) ∧ Below w.heap.size w w' := by
  go_enter Try.func96, Try.ntmps96
  go_wp2_with (first | (go_at_call 136; refine (check_any 0 l0 l1 _).mono ?_; rintro e w' ⟨rfl, hg⟩; obtain ⟨hc, hf, hz⟩ := bcell hg) | (go_at_call 137; refine (product_0 l0 l1  _).mono ?_; rintro e w' ⟨rfl, hg⟩; obtain ⟨hc, hf, hz⟩ := bcell hg))
  go_ret2
  exact ⟨rfl, by (repeat (first | exact Below.refl _ _ | assumption | (refine bl_then ?_ (by assumption)) | (refine bl_alloc ?_ _) | (refine bl_dn ?_ _) | (refine bl_drew ?_)))⟩
theorem cells_1 (l0 l1 : Int) (h : shCheck 1 l0 l1 = 0) (f0 : Fits l0) (w : World) : Calls Try.prog 96 #[.int .i64 1, .agg #[.int .i64 l0, .int .i64 l1]] w fun e w' => e = ret2 (l0, 0) ∧ Below w.heap.size w w' := by
  have f0' := hide f0
  clear f0
  go_enter Try.func96, Try.ntmps96
  go_wp2_with (first | (go_at_call 136; refine (check_any 1 l0 l1 _).mono ?_; rintro e w' ⟨rfl, hg⟩; obtain ⟨hc, hf, hz⟩ := bcell hg) | (go_at_call 137; refine (product_1 l0 l1 f0'.out _).mono ?_; rintro e w' ⟨rfl, hg⟩; obtain ⟨hc, hf, hz⟩ := bcell hg))
  go_ret2
  exact ⟨rfl, by (repeat (first | exact Below.refl _ _ | assumption | (refine bl_then ?_ (by assumption)) | (refine bl_alloc ?_ _) | (refine bl_dn ?_ _) | (refine bl_drew ?_)))⟩
theorem cells_2 (l0 l1 : Int) (h : shCheck 2 l0 l1 = 0) (f0 : Fits l0) (f1 : Fits l1) (f : Fits (l0 * l1)) (w : World) : Calls Try.prog 96 #[.int .i64 2, .agg #[.int .i64 l0, .int .i64 l1]] w fun e w' => e = ret2 (l0 * l1, 0) ∧ Below w.heap.size w w' := by
  have f0' := hide f0
  clear f0
  have f1' := hide f1
  clear f1
  have f' := hide f
  clear f
  go_enter Try.func96, Try.ntmps96
  go_wp2_with (first | (go_at_call 136; refine (check_any 2 l0 l1 _).mono ?_; rintro e w' ⟨rfl, hg⟩; obtain ⟨hc, hf, hz⟩ := bcell hg) | (go_at_call 137; refine (product_2 l0 l1 f'.out f0'.out f1'.out _).mono ?_; rintro e w' ⟨rfl, hg⟩; obtain ⟨hc, hf, hz⟩ := bcell hg))
  go_ret2
  exact ⟨rfl, by (repeat (first | exact Below.refl _ _ | assumption | (refine bl_then ?_ (by assumption)) | (refine bl_alloc ?_ _) | (refine bl_dn ?_ _) | (refine bl_drew ?_)))⟩
theorem cells_any (r l0 l1 : Int) (f0 : Fits l0) (f1 : Fits l1) (w : World) : Calls Try.prog 96 #[.int .i64 r, .agg #[.int .i64 l0, .int .i64 l1]] w fun e w' => e = ret2 (cellsOf r l0 l1) ∧ Below w.heap.size w w' := by
  by_cases h : shCheck r l0 l1 = 0
  · rw [show cellsOf r l0 l1 = (prod r l0 l1, 0) from if_neg (by simpa using h)]
    obtain ⟨hr, hp⟩ := sh_ok h
    obtain rfl | rfl | rfl := hr
    · exact cells_0 l0 l1 h w
    · exact cells_1 l0 l1 h f0 w
    · exact cells_2 l0 l1 h f0 f1 (by unfold Fits; rw [prod_2] at hp; omega) w
  · rw [show cellsOf r l0 l1 = (0, shCheck r l0 l1) from if_pos h]; exact cells_bad r l0 l1 h w
theorem Ref.cells_bad (r l0 l1 : Int) (h : shCheck r l0 l1 ≠ 0) (w : World) : Calls Try.prog 72 #[.int .i64 r, .agg #[.int .i64 l0, .int .i64 l1]] w fun e w' => e = ret2 (0, shCheck r l0 l1) ∧ Below w.heap.size w w' := by
  have c0 : (shCheck r l0 l1 != 0) = true := by simpa using h
  have c1 : (shCheck r l0 l1 == 0) = false := by simpa using h
  clear h
  go_enter Try.func72, Try.ntmps72
  go_wp2_with (go_at_call 104; refine (Ref.check_any r l0 l1 _).mono ?_; rintro e w' ⟨rfl, hg⟩; obtain ⟨hc, hf, hz⟩ := bcell hg)
  go_ret2
  exact ⟨rfl, by (repeat (first | exact Below.refl _ _ | assumption | (refine bl_then ?_ (by assumption)) | (refine bl_alloc ?_ _) | (refine bl_dn ?_ _) | (refine bl_drew ?_)))⟩
theorem Ref.cells_0 (l0 l1 : Int) (h : shCheck 0 l0 l1 = 0) (w : World) : Calls Try.prog 72 #[.int .i64 0, .agg #[.int .i64 l0, .int .i64 l1]] w fun e w' => e = ret2 (1, 0) ∧ Below w.heap.size w w' := by
  go_enter Try.func72, Try.ntmps72
  go_wp2_with (first | (go_at_call 104; refine (Ref.check_any 0 l0 l1 _).mono ?_; rintro e w' ⟨rfl, hg⟩; obtain ⟨hc, hf, hz⟩ := bcell hg) | (go_at_call 105; refine (many_0 l0 l1  _).mono ?_; rintro e w' ⟨rfl, hg⟩; obtain ⟨hc, hf, hz⟩ := bcell hg))
  go_ret2
  exact ⟨rfl, by (repeat (first | exact Below.refl _ _ | assumption | (refine bl_then ?_ (by assumption)) | (refine bl_alloc ?_ _) | (refine bl_dn ?_ _) | (refine bl_drew ?_)))⟩
theorem Ref.cells_1 (l0 l1 : Int) (h : shCheck 1 l0 l1 = 0) (f0 : Fits l0) (w : World) : Calls Try.prog 72 #[.int .i64 1, .agg #[.int .i64 l0, .int .i64 l1]] w fun e w' => e = ret2 (l0, 0) ∧ Below w.heap.size w w' := by
  have f0' := hide f0
  clear f0
  go_enter Try.func72, Try.ntmps72
  go_wp2_with (first | (go_at_call 104; refine (Ref.check_any 1 l0 l1 _).mono ?_; rintro e w' ⟨rfl, hg⟩; obtain ⟨hc, hf, hz⟩ := bcell hg) | (go_at_call 105; refine (many_1 l0 l1 f0'.out _).mono ?_; rintro e w' ⟨rfl, hg⟩; obtain ⟨hc, hf, hz⟩ := bcell hg))
  go_ret2
  exact ⟨rfl, by (repeat (first | exact Below.refl _ _ | assumption | (refine bl_then ?_ (by assumption)) | (refine bl_alloc ?_ _) | (refine bl_dn ?_ _) | (refine bl_drew ?_)))⟩
theorem Ref.cells_2 (l0 l1 : Int) (h : shCheck 2 l0 l1 = 0) (f0 : Fits l0) (f1 : Fits l1) (f : Fits (l0 * l1)) (w : World) : Calls Try.prog 72 #[.int .i64 2, .agg #[.int .i64 l0, .int .i64 l1]] w fun e w' => e = ret2 (l0 * l1, 0) ∧ Below w.heap.size w w' := by
  have f0' := hide f0
  clear f0
  have f1' := hide f1
  clear f1
  have f' := hide f
  clear f
  go_enter Try.func72, Try.ntmps72
  go_wp2_with (first | (go_at_call 104; refine (Ref.check_any 2 l0 l1 _).mono ?_; rintro e w' ⟨rfl, hg⟩; obtain ⟨hc, hf, hz⟩ := bcell hg) | (go_at_call 105; refine (many_2 l0 l1 f'.out f0'.out f1'.out _).mono ?_; rintro e w' ⟨rfl, hg⟩; obtain ⟨hc, hf, hz⟩ := bcell hg))
  go_ret2
  exact ⟨rfl, by (repeat (first | exact Below.refl _ _ | assumption | (refine bl_then ?_ (by assumption)) | (refine bl_alloc ?_ _) | (refine bl_dn ?_ _) | (refine bl_drew ?_)))⟩
theorem Ref.cells_any (r l0 l1 : Int) (f0 : Fits l0) (f1 : Fits l1) (w : World) : Calls Try.prog 72 #[.int .i64 r, .agg #[.int .i64 l0, .int .i64 l1]] w fun e w' => e = ret2 (cellsOf r l0 l1) ∧ Below w.heap.size w w' := by
  by_cases h : shCheck r l0 l1 = 0
  · rw [show cellsOf r l0 l1 = (prod r l0 l1, 0) from if_neg (by simpa using h)]
    obtain ⟨hr, hp⟩ := sh_ok h
    obtain rfl | rfl | rfl := hr
    · exact Ref.cells_0 l0 l1 h w
    · exact Ref.cells_1 l0 l1 h f0 w
    · exact Ref.cells_2 l0 l1 h f0 f1 (by unfold Fits; rw [prod_2] at hp; omega) w
  · rw [show cellsOf r l0 l1 = (0, shCheck r l0 l1) from if_pos h]; exact Ref.cells_bad r l0 l1 h w
end Ar
end Go.Proofs.Ytfpnafeildigaaa
