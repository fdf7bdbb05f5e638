/-
neg, abs, add, sub and mul overflow exactly where the signs, and what wraps, say so: for every input, without a condition.
-/
import Derived.Test.YtdpeaimnbgdkeaaRows
import Derived.Test.YtdpeaimnbgdkeaaScL
import Derived.Test.YtdpeaimnbgdkeaaScE
import Derived.Test.YtdpeaimnbgdkeaaScLaws
import Derived.WalkKit
import Derived.ProofKit
import Derived.OpenShut
import Derived.Deep.DeepCutAuto
set_option linter.unusedSimpArgs false
namespace Go.Proofs.Ytdpeaimnbgdkeaa.scalarsOverflow
open Go.ChangeShapes Go.WideShapes Go.ChangeAt Go.RowKit
set_option linter.unusedVariables false      -- a walk need not use every 'w<i>' (that an integer argument fits its kind)

open Go.Proofs.Ytdpeaimnbgdkeaa.Sc
theorem own : ownKnob Try.prog.godebug = none := by kernel_rfl

set_option maxRecDepth 100000 in
set_option maxHeartbeats 1000000 in
theorem walkx (x y : Int) (hx : Fits x) (hy : Fits y) (w : World) : Calls Try.prog 5 #[.int .i64 x, .int .i64 y] w fun e w' => e = .returned (.bool true) ∧ Grown w w' := by
  have h1 := hide hx; have h2 := hide hy
  clear hx hy
  go_enter Try.func5, Try.ntmps5
  go_upto_region 3 with ((go_at_call 16; refine (One_any _ _ h1.out _).mono ?_; rintro e w' ⟨rfl, hg⟩))
  go_cut [5, 6, 7, 8, 71] (fun _ _ _ _ s wx => s = .bool false ∧ Grown w wx)
  case first => as_aux_lemma =>
    by_cases hm : x = -9223372036854775808
    · subst hm
      have e1 : one 1 (-9223372036854775808) = (0, 12) := rfl
      have e2 : one 2 (-9223372036854775808) = (0, 12) := rfl
      go_wp2_with fail
      go_meet
      case rel => exact ⟨rfl, by (repeat (first | exact Grown.refl _ | assumption | refine grown_trans ?_ (by assumption)))⟩
    · have c0 : (x == -9223372036854775808) = false := by simpa using hm
      have hn : Fits (-x) := by have := h1.out; unfold Fits at *; omega
      have e1 : one 1 x = (-x, 0) := chk_in hn
      have e0 : IntKind.i64.wrap (-x) = -x := IntWalk.i64_in _ hn
      by_cases a : x < 0
      · have e2 : one 2 x = (-x, 0) := by show chk (ab x) = _; rw [show ab x = -x from if_pos a]; exact chk_in hn
        have c1 : (-x != x) = true := by simp; omega
        have c2 : decide (0 < x) = false := by simp; omega
        clear hm hn
        go_wp2_with fail
        go_meet
        case rel => exact ⟨rfl, by (repeat (first | exact Grown.refl _ | assumption | refine grown_trans ?_ (by assumption)))⟩
      · have e2 : one 2 x = (x, 0) := by show chk (ab x) = _; rw [show ab x = x from if_neg a]; exact chk_in h1.out
        clear hm hn
        go_wp2_with fail
        go_meet
        case rel => exact ⟨rfl, by (repeat (first | exact Grown.refl _ | assumption | refine grown_trans ?_ (by assumption)))⟩
  case rest =>
  obtain ⟨rfl, hgc⟩ := hcut
  go_upto_region 6 with ((go_at_call 11; refine (Two_any _ _ _ h1.out h2.out _).mono ?_; rintro e w' ⟨rfl, hg⟩))
  go_cut [10] (fun s wx => s = .bool (nofit (x + y)) ∧ Grown w wx)
  case first => as_aux_lemma =>
    by_cases a : x < 0 <;> by_cases b : y < 0 <;> by_cases c : wrap64 (x + y) < 0
    · have H : Hid (nofit (x + y) = false) := by
        have := h1.out; have := h2.out
        refine nofit_f ?_
        unfold Fits wrap64 at *; omega
      go_wp2_with fail
      go_meet
      case rel => exact ⟨by rw [H.out], by (repeat (first | exact Grown.refl _ | assumption | refine grown_trans ?_ (by assumption)))⟩
    · have H : Hid (nofit (x + y) = true) := by
        have := h1.out; have := h2.out
        refine nofit_t ?_
        unfold Fits wrap64 at *; omega
      go_wp2_with fail
      go_meet
      case rel => exact ⟨by rw [H.out], by (repeat (first | exact Grown.refl _ | assumption | refine grown_trans ?_ (by assumption)))⟩
    · have H : Hid (nofit (x + y) = false) := by
        have := h1.out; have := h2.out
        refine nofit_f ?_
        unfold Fits wrap64 at *; omega
      go_wp2_with fail
      go_meet
      case rel => exact ⟨by rw [H.out], by (repeat (first | exact Grown.refl _ | assumption | refine grown_trans ?_ (by assumption)))⟩
    · have H : Hid (nofit (x + y) = false) := by
        have := h1.out; have := h2.out
        refine nofit_f ?_
        unfold Fits wrap64 at *; omega
      go_wp2_with fail
      go_meet
      case rel => exact ⟨by rw [H.out], by (repeat (first | exact Grown.refl _ | assumption | refine grown_trans ?_ (by assumption)))⟩
    · have H : Hid (nofit (x + y) = false) := by
        have := h1.out; have := h2.out
        refine nofit_f ?_
        unfold Fits wrap64 at *; omega
      go_wp2_with fail
      go_meet
      case rel => exact ⟨by rw [H.out], by (repeat (first | exact Grown.refl _ | assumption | refine grown_trans ?_ (by assumption)))⟩
    · have H : Hid (nofit (x + y) = false) := by
        have := h1.out; have := h2.out
        refine nofit_f ?_
        unfold Fits wrap64 at *; omega
      go_wp2_with fail
      go_meet
      case rel => exact ⟨by rw [H.out], by (repeat (first | exact Grown.refl _ | assumption | refine grown_trans ?_ (by assumption)))⟩
    · have H : Hid (nofit (x + y) = true) := by
        have := h1.out; have := h2.out
        refine nofit_t ?_
        unfold Fits wrap64 at *; omega
      go_wp2_with fail
      go_meet
      case rel => exact ⟨by rw [H.out], by (repeat (first | exact Grown.refl _ | assumption | refine grown_trans ?_ (by assumption)))⟩
    · have H : Hid (nofit (x + y) = false) := by
        have := h1.out; have := h2.out
        refine nofit_f ?_
        unfold Fits wrap64 at *; omega
      go_wp2_with fail
      go_meet
      case rel => exact ⟨by rw [H.out], by (repeat (first | exact Grown.refl _ | assumption | refine grown_trans ?_ (by assumption)))⟩
  case rest =>
  obtain ⟨rfl, hgc⟩ := hcut
  go_upto_region 9 with ((go_at_call 11; refine (Two_any _ _ _ h1.out h2.out _).mono ?_; rintro e w' ⟨rfl, hg⟩))
  go_cut [14] (fun s wx => s = .bool (nofit (x - y)) ∧ Grown w wx)
  case first => as_aux_lemma =>
    by_cases a : x < 0 <;> by_cases b : y < 0 <;> by_cases c : wrap64 (x - y) < 0
    · have H : Hid (nofit (x - y) = false) := by
        have := h1.out; have := h2.out
        refine nofit_f ?_
        unfold Fits wrap64 at *; omega
      go_wp2_with fail
      go_meet
      case rel => exact ⟨by rw [H.out], by (repeat (first | exact Grown.refl _ | assumption | refine grown_trans ?_ (by assumption)))⟩
    · have H : Hid (nofit (x - y) = false) := by
        have := h1.out; have := h2.out
        refine nofit_f ?_
        unfold Fits wrap64 at *; omega
      go_wp2_with fail
      go_meet
      case rel => exact ⟨by rw [H.out], by (repeat (first | exact Grown.refl _ | assumption | refine grown_trans ?_ (by assumption)))⟩
    · have H : Hid (nofit (x - y) = false) := by
        have := h1.out; have := h2.out
        refine nofit_f ?_
        unfold Fits wrap64 at *; omega
      go_wp2_with fail
      go_meet
      case rel => exact ⟨by rw [H.out], by (repeat (first | exact Grown.refl _ | assumption | refine grown_trans ?_ (by assumption)))⟩
    · have H : Hid (nofit (x - y) = true) := by
        have := h1.out; have := h2.out
        refine nofit_t ?_
        unfold Fits wrap64 at *; omega
      go_wp2_with fail
      go_meet
      case rel => exact ⟨by rw [H.out], by (repeat (first | exact Grown.refl _ | assumption | refine grown_trans ?_ (by assumption)))⟩
    · have H : Hid (nofit (x - y) = true) := by
        have := h1.out; have := h2.out
        refine nofit_t ?_
        unfold Fits wrap64 at *; omega
      go_wp2_with fail
      go_meet
      case rel => exact ⟨by rw [H.out], by (repeat (first | exact Grown.refl _ | assumption | refine grown_trans ?_ (by assumption)))⟩
    · have H : Hid (nofit (x - y) = false) := by
        have := h1.out; have := h2.out
        refine nofit_f ?_
        unfold Fits wrap64 at *; omega
      go_wp2_with fail
      go_meet
      case rel => exact ⟨by rw [H.out], by (repeat (first | exact Grown.refl _ | assumption | refine grown_trans ?_ (by assumption)))⟩
    · have H : Hid (nofit (x - y) = false) := by
        have := h1.out; have := h2.out
        refine nofit_f ?_
        unfold Fits wrap64 at *; omega
      go_wp2_with fail
      go_meet
      case rel => exact ⟨by rw [H.out], by (repeat (first | exact Grown.refl _ | assumption | refine grown_trans ?_ (by assumption)))⟩
    · have H : Hid (nofit (x - y) = false) := by
        have := h1.out; have := h2.out
        refine nofit_f ?_
        unfold Fits wrap64 at *; omega
      go_wp2_with fail
      go_meet
      case rel => exact ⟨by rw [H.out], by (repeat (first | exact Grown.refl _ | assumption | refine grown_trans ?_ (by assumption)))⟩
  case rest =>
  obtain ⟨rfl, hgc⟩ := hcut
  go_upto_region 11 with ((go_at_call 11; refine (Two_any _ _ _ h1.out h2.out _).mono ?_; rintro e w' ⟨rfl, hg⟩))
  go_cut [11, 12, 15, 16, 10, 14, 123] (fun _ _ _ _ _ _ s wx => s = .bool false ∧ Grown w wx)
  case first => as_aux_lemma =>
    by_cases f1 : Fits (x + y) <;> by_cases f2 : Fits (x - y)
    · have e1 : two 15 x y = (x + y, 0) := chk_in f1
      have e2 : two 16 x y = (x - y, 0) := chk_in f2
      have n1 : nofit (x + y) = false := by unfold nofit; simp [f1]
      have n2 : nofit (x - y) = false := by unfold nofit; simp [f2]
      clear f1 f2
      go_wp2_with fail
      go_meet
      case rel => exact ⟨rfl, by (repeat (first | exact Grown.refl _ | assumption | refine grown_trans ?_ (by assumption)))⟩
    · have e1 : two 15 x y = (x + y, 0) := chk_in f1
      have e2 : two 16 x y = (0, 12) := chk_out f2
      have n1 : nofit (x + y) = false := by unfold nofit; simp [f1]
      have n2 : nofit (x - y) = true := by unfold nofit; simp [f2]
      clear f1 f2
      go_wp2_with fail
      go_meet
      case rel => exact ⟨rfl, by (repeat (first | exact Grown.refl _ | assumption | refine grown_trans ?_ (by assumption)))⟩
    · have e1 : two 15 x y = (0, 12) := chk_out f1
      have e2 : two 16 x y = (x - y, 0) := chk_in f2
      have n1 : nofit (x + y) = true := by unfold nofit; simp [f1]
      have n2 : nofit (x - y) = false := by unfold nofit; simp [f2]
      clear f1 f2
      go_wp2_with fail
      go_meet
      case rel => exact ⟨rfl, by (repeat (first | exact Grown.refl _ | assumption | refine grown_trans ?_ (by assumption)))⟩
    · have e1 : two 15 x y = (0, 12) := chk_out f1
      have e2 : two 16 x y = (0, 12) := chk_out f2
      have n1 : nofit (x + y) = true := by unfold nofit; simp [f1]
      have n2 : nofit (x - y) = true := by unfold nofit; simp [f2]
      clear f1 f2
      go_wp2_with fail
      go_meet
      case rel => exact ⟨rfl, by (repeat (first | exact Grown.refl _ | assumption | refine grown_trans ?_ (by assumption)))⟩
  case rest =>
  obtain ⟨rfl, hgc⟩ := hcut
  by_cases f : Fits (x * y)
  · have e1 : two 17 x y = (x * y, 0) := chk_in f
    by_cases x0 : x = 0
    · subst x0
      clear f
      go_wp2_with (first | (go_at_call 11; refine (Two_any _ _ _ h1.out h2.out _).mono ?_; rintro e w' ⟨rfl, hg⟩) | (go_at_call 13; refine (Law.awake_any _).mono ?_; rintro e w' ⟨rfl, hg⟩))
      go_ret
      exact ⟨rfl, by (repeat (first | exact Grown.refl _ | assumption | refine grown_trans ?_ (by assumption)))⟩
    by_cases y0 : y = 0
    · subst y0
      have n1 : (x != 0) = true := by simpa using x0
      clear f
      go_wp2_with (first | (go_at_call 11; refine (Two_any _ _ _ h1.out h2.out _).mono ?_; rintro e w' ⟨rfl, hg⟩) | (go_at_call 13; refine (Law.awake_any _).mono ?_; rintro e w' ⟨rfl, hg⟩))
      go_ret
      exact ⟨rfl, by (repeat (first | exact Grown.refl _ | assumption | refine grown_trans ?_ (by assumption)))⟩
    have n1 : (x != 0) = true := by simpa using x0
    have n2 : (y != 0) = true := by simpa using y0
    have e3 : IntKind.i64.wrap (x * y) = x * y := IntWalk.i64_in _ f
    have e4 : IntKind.i64.wrap ((x * y).tdiv y) = x := by rw [Int.mul_tdiv_cancel _ y0]; exact IntWalk.i64_in _ h1.out
    have e5 : (x != x) = false := by simp
    have e6 : wrap64 x = x := IntWalk.wrap64_in _ h1.out
    have w1 : ((x == -1) = true ∧ (y == -9223372036854775808) = false) ∨ (x == -1) = false := by
      obtain ⟨a, b, c⟩ | ⟨a, b, c⟩ | ⟨a, b⟩ := min_ways h1.out h2.out f
      · right; rw [beq_iff_eq] at a; rw [beq_eq_false_iff_ne]; omega
      · right; exact c
      · cases hq : (x == -1)
        · right; rfl
        · left; exact ⟨rfl, b⟩
    have w2 : ((y == -1) = true ∧ (x == -9223372036854775808) = false) ∨ (y == -1) = false := by
      obtain ⟨a, b, c⟩ | ⟨a, b, c⟩ | ⟨a, b⟩ := min_ways h1.out h2.out f
      · right; exact b
      · right; rw [beq_iff_eq] at b; rw [beq_eq_false_iff_ne]; omega
      · cases hq : (y == -1)
        · right; rfl
        · left; exact ⟨rfl, a⟩
    have x0' : ¬ x = 0 := x0
    have y0' : ¬ y = 0 := y0
    clear f x0 y0
    obtain ⟨k1, k2⟩ | k1 := w1 <;> obtain ⟨k3, k4⟩ | k3 := w2
    all_goals as_aux_lemma =>
      go_wp2_with (first | (go_at_call 11; refine (Two_any _ _ _ h1.out h2.out _).mono ?_; rintro e w' ⟨rfl, hg⟩) | (go_at_call 13; refine (Law.awake_any _).mono ?_; rintro e w' ⟨rfl, hg⟩))
      go_ret
      exact ⟨rfl, by (repeat (first | exact Grown.refl _ | assumption | refine grown_trans ?_ (by assumption)))⟩
  · have e1 : two 17 x y = (0, 12) := chk_out f
    have x0 : ¬ x = 0 := by rintro rfl; exact f (by unfold Fits; omega)
    have y0 : ¬ y = 0 := by rintro rfl; exact f (by unfold Fits; omega)
    have n1 : (x != 0) = true := by simpa using x0
    have n2 : (y != 0) = true := by simpa using y0
    by_cases c1 : x = -1 ∧ y = -9223372036854775808
    · obtain ⟨rfl, rfl⟩ := c1
      clear f
      go_wp2_with (first | (go_at_call 11; refine (Two_any _ _ _ h1.out h2.out _).mono ?_; rintro e w' ⟨rfl, hg⟩) | (go_at_call 13; refine (Law.awake_any _).mono ?_; rintro e w' ⟨rfl, hg⟩))
      go_ret
      exact ⟨rfl, by (repeat (first | exact Grown.refl _ | assumption | refine grown_trans ?_ (by assumption)))⟩
    by_cases c2 : y = -1 ∧ x = -9223372036854775808
    · obtain ⟨rfl, rfl⟩ := c2
      clear f
      go_wp2_with (first | (go_at_call 11; refine (Two_any _ _ _ h1.out h2.out _).mono ?_; rintro e w' ⟨rfl, hg⟩) | (go_at_call 13; refine (Law.awake_any _).mono ?_; rintro e w' ⟨rfl, hg⟩))
      go_ret
      exact ⟨rfl, by (repeat (first | exact Grown.refl _ | assumption | refine grown_trans ?_ (by assumption)))⟩
    have hq := prod_quo h1.out h2.out f (by omega)
    have hq1 : (wrap64 ((wrap64 (x * y)).tdiv y) != x) = true := by simpa using hq
    have w1 : ((x == -1) = true ∧ (y == -9223372036854775808) = false) ∨ (x == -1) = false := by
      simp only [beq_eq_false_iff_ne, beq_iff_eq]; omega
    have w2 : ((y == -1) = true ∧ (x == -9223372036854775808) = false) ∨ (y == -1) = false := by
      simp only [beq_eq_false_iff_ne, beq_iff_eq]; omega
    clear f c1 c2 hq
    obtain ⟨k1, k2⟩ | k1 := w1 <;> obtain ⟨k3, k4⟩ | k3 := w2
    all_goals as_aux_lemma =>
      go_wp2_with (first | (go_at_call 11; refine (Two_any _ _ _ h1.out h2.out _).mono ?_; rintro e w' ⟨rfl, hg⟩) | (go_at_call 13; refine (Law.awake_any _).mono ?_; rintro e w' ⟨rfl, hg⟩))
      go_ret
      exact ⟨rfl, by (repeat (first | exact Grown.refl _ | assumption | refine grown_trans ?_ (by assumption)))⟩
/-! ### The walk -/
theorem walk (a0 : Int) (a1 : Int) (w0 : (Lit.int .i64 a0).wf = true) (w1 : (Lit.int .i64 a1).wf = true) (w : World) :
    Calls Try.prog 5 #[.int .i64 a0, .int .i64 a1] w fun e w' => e = .returned (.bool true) ∧ Grown w w' := by
  exact walkx a0 a1 (wf_fits w0) (wf_fits w1) w

/-! ### THE ROW's STEP: WRITTEN OUT: LEAVE IT -/
set_option maxRecDepth 100000 in
theorem lifted (os : Os) (started : os.Started) (H : Type) (enc : TypeId × Value → H) :
    ReturnsInHanded {} Try.checked os 5 .any (Rows.scalarsOverflowSpec.pre6 enc Try.prog Try.f5 Rows.scalarsOverflowRow.domain false) (Rows.scalarsOverflowSpec.post enc Try.prog Try.f5 false true false false) := by
  refine returnsInHanded_of_change (C := Try.checked) own started (by kernel_rfl) Try.func5
    (ChangeSpec.witness6 (enc := enc) (C := Try.checked) false ⟨#[], #[.int .i64 0, .int .i64 0], []⟩ 8 (by kernel_rfl) (by kernel_rfl) (by kernel_rfl) (by kernel_rfl)) ?_
  intro W base args ds gs before hval0 hW hcnd _
  have hval : ∀ (j : Nat) t v, Try.f5.params[j]? = some t → args[j]? = some v → Value.okWide Try.prog W .any base t v := hval0
  have hW' := hW
  obtain ⟨p, q, hA0, hV, rfl, hfz, hnd⟩ := hW
  have hA : DataW.TrodAll enc Try.prog W 0 (fun _ => true) true Try.f5.params.toList args.toList ds p := hA0
  rw [Try.params5] at hA hval
  obtain ⟨v0, vs0, d0, ds0, p0, q0, hargs, rfl, rfl, h0, r0⟩ := trodAll_cons hA
  obtain ⟨v1, vs1, d1, ds1, p1, q1, rfl, rfl, rfl, h1, r1⟩ := trodAll_cons r0
  obtain ⟨rfl, rfl, rfl⟩ := trodAll_nil r1
  obtain rfl : args = #[v0, v1] := by cases args; simp_all
  obtain ⟨rfl, rfl⟩ := trodVars_none hV
  obtain ⟨a0, rfl, rfl, rfl, w0⟩ := open_int Try.underlying2 (hval 0 2 v0 rfl rfl) h0
  obtain ⟨a1, rfl, rfl, rfl, w1⟩ := open_int Try.underlying2 (hval 1 2 v1 rfl rfl) h1
  clear hA0 hval0
  simp only [List.append_nil] at hW'
  refine (walk a0 a1 w0 w1 W).mono fun e W' ⟨he, hg⟩ => ?_
  subst he
  exact ⟨_, rfl, post_of_same (pa := []) (pv := []) hW' (fun _ _ _ => (trodAll_cons_mk (shut_bool Try.underlying4 _) trodAll_mk0)) (fun sp _ => (trodAll_cons_mk (shut_int Try.underlying2 w0) (trodAll_cons_mk (shut_int Try.underlying2 w1) trodAll_mk0))) (fun _ _ => rfl) rfl
    (hg.frame _) hg.2.1 (ok_one (by kernel_rfl) rfl (okWide_bool_mk Try.underlying4 _))⟩

theorem over : Rows.scalarsOverflowRow.holds Try.pinned (OpenSpec.ofChange Rows.scalarsOverflowSpec) :=
  OpenClaim.holds_of_wide 5 Try.f5 rfl rfl rfl rfl rfl rfl rfl ⟨rfl, rfl, rfl, rfl, rfl⟩ rfl rfl rfl rfl rfl (by kernel_rfl) Try.func5 (by kernel_rfl)
    (of_decide_eq_true (by kernel_rfl)) (by unfold Func.isWrapper; first | (rw [if_pos (by decide +kernel)]; kernel_rfl) | (rw [if_neg (by decide +kernel)]; exact ⟨rfl, rfl⟩))
    (fun os started H enc _ => lifted os started H enc)

/-- the statement -/
theorem proved : Rows.ScalarsOverflowSaid :=
  over
#print axioms proved
end Go.Proofs.Ytdpeaimnbgdkeaa.scalarsOverflow
