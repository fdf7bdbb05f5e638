/-
plus, minus and times are add, sub and mul, or the end of the numbers: for every input, without a condition.
-/
import Derived.Test.YtdpeaimnbgdkeaaRows
import Derived.Test.YtdpeaimnbgdkeaaScL
import Derived.Test.YtdpeaimnbgdkeaaScE
import Derived.Test.YtdpeaimnbgdkeaaScLaws
import Derived.WalkKit
import Derived.ProofKit
import Derived.OpenShut
import Derived.Deep.DeepCutAuto
set_option linter.unusedSimpArgs false
namespace Go.Proofs.Ytdpeaimnbgdkeaa.scalarsLimits
open Go.ChangeShapes Go.WideShapes Go.ChangeAt Go.RowKit
set_option linter.unusedVariables false      -- a walk need not use every 'w<i>' (that an integer argument fits its kind)

open Go.Proofs.Ytdpeaimnbgdkeaa.Sc
theorem own : ownKnob Try.prog.godebug = none := by kernel_rfl

set_option maxRecDepth 100000 in
set_option maxHeartbeats 1000000 in
theorem walkx (x y : Int) (hx : Fits x) (hy : Fits y) (w : World) : Calls Try.prog 6 #[.int .i64 x, .int .i64 y] w fun e w' => e = .returned (.bool true) ∧ Grown w w' := by
  have h1 := hide hx; have h2 := hide hy
  clear hx hy
  go_enter Try.func6, Try.ntmps6
  go_wp2_with fail
  go_loopw [5] (fun i wr => ∃ k : Nat, k ≤ 3 ∧ i = .int .i64 k ∧ Grown w wr) (fun i _ => (3 - intOf i).toNat)
  case atStart => exact ⟨0, by omega, rfl, Grown.refl _⟩
  case round =>
    obtain ⟨k, hk, rfl, hgr⟩ := hrel
    obtain rfl | rfl | rfl | rfl : k = 0 ∨ k = 1 ∨ k = 2 ∨ k = 3 := by omega
    · by_cases f : Fits (x + y)
      · have e1 : two 15 x y = (x + y, 0) := chk_in f
        have e2 : two 20 x y = (x + y, 0) := by show (clamp (x + y), (0 : Int)) = _; rw [clamp_in f]
        clear f
        go_wp2_with (first | (go_at_call 11; refine (Two_any _ _ _ h1.out h2.out _).mono ?_; rintro e w' ⟨rfl, hg⟩))
        go_roundw
        case rel => exact ⟨1, by omega, rfl, by (repeat (first | exact Grown.refl _ | assumption | refine grown_trans ?_ (by assumption)))⟩
        case measure => simp [intOf]
      · by_cases a : x < 0 <;> by_cases b : y < 0
        · have e1 : two 15 x y = (0, 12) := chk_out f
          have e2 : two 20 x y = (-9223372036854775808, 0) := by show (clamp (x + y), (0 : Int)) = _; rw [clamp_plus_below h1.out h2.out f (by omega)]
          have d1 : decide (x < 0) = true := by simp; omega
          have d2 : decide (y < 0) = true := by simp; omega
          clear f
          go_wp2_with (first | (go_at_call 11; refine (Two_any _ _ _ h1.out h2.out _).mono ?_; rintro e w' ⟨rfl, hg⟩))
          go_roundw
          case rel => exact ⟨1, by omega, rfl, by (repeat (first | exact Grown.refl _ | assumption | refine grown_trans ?_ (by assumption)))⟩
          case measure => simp [intOf]
        · have e1 : two 15 x y = (0, 12) := chk_out f
          have e2 : two 20 x y = (-9223372036854775808, 0) := by show (clamp (x + y), (0 : Int)) = _; rw [clamp_plus_below h1.out h2.out f (by omega)]
          have d1 : decide (x < 0) = true := by simp; omega
          have d2 : decide (y < 0) = false := by simp; omega
          clear f
          go_wp2_with (first | (go_at_call 11; refine (Two_any _ _ _ h1.out h2.out _).mono ?_; rintro e w' ⟨rfl, hg⟩))
          go_roundw
          case rel => exact ⟨1, by omega, rfl, by (repeat (first | exact Grown.refl _ | assumption | refine grown_trans ?_ (by assumption)))⟩
          case measure => simp [intOf]
        · have e1 : two 15 x y = (0, 12) := chk_out f
          have e2 : two 20 x y = (9223372036854775807, 0) := by show (clamp (x + y), (0 : Int)) = _; rw [clamp_plus_above h1.out h2.out f (by omega)]
          have d1 : decide (x < 0) = false := by simp; omega
          have d2 : decide (y < 0) = true := by simp; omega
          clear f
          go_wp2_with (first | (go_at_call 11; refine (Two_any _ _ _ h1.out h2.out _).mono ?_; rintro e w' ⟨rfl, hg⟩))
          go_roundw
          case rel => exact ⟨1, by omega, rfl, by (repeat (first | exact Grown.refl _ | assumption | refine grown_trans ?_ (by assumption)))⟩
          case measure => simp [intOf]
        · have e1 : two 15 x y = (0, 12) := chk_out f
          have e2 : two 20 x y = (9223372036854775807, 0) := by show (clamp (x + y), (0 : Int)) = _; rw [clamp_plus_above h1.out h2.out f (by omega)]
          have d1 : decide (x < 0) = false := by simp; omega
          have d2 : decide (y < 0) = false := by simp; omega
          clear f
          go_wp2_with (first | (go_at_call 11; refine (Two_any _ _ _ h1.out h2.out _).mono ?_; rintro e w' ⟨rfl, hg⟩))
          go_roundw
          case rel => exact ⟨1, by omega, rfl, by (repeat (first | exact Grown.refl _ | assumption | refine grown_trans ?_ (by assumption)))⟩
          case measure => simp [intOf]
    · by_cases f : Fits (x - y)
      · have e1 : two 16 x y = (x - y, 0) := chk_in f
        have e2 : two 21 x y = (x - y, 0) := by show (clamp (x - y), (0 : Int)) = _; rw [clamp_in f]
        clear f
        go_wp2_with (first | (go_at_call 11; refine (Two_any _ _ _ h1.out h2.out _).mono ?_; rintro e w' ⟨rfl, hg⟩))
        go_roundw
        case rel => exact ⟨2, by omega, rfl, by (repeat (first | exact Grown.refl _ | assumption | refine grown_trans ?_ (by assumption)))⟩
        case measure => simp [intOf]
      · by_cases a : x < 0 <;> by_cases b : y < 0
        · have e1 : two 16 x y = (0, 12) := chk_out f
          have e2 : two 21 x y = (-9223372036854775808, 0) := by show (clamp (x - y), (0 : Int)) = _; rw [clamp_minus_below h1.out h2.out f (by omega)]
          have d1 : decide (x < 0) = true := by simp; omega
          have d2 : decide (y < 0) = true := by simp; omega
          clear f
          go_wp2_with (first | (go_at_call 11; refine (Two_any _ _ _ h1.out h2.out _).mono ?_; rintro e w' ⟨rfl, hg⟩))
          go_roundw
          case rel => exact ⟨2, by omega, rfl, by (repeat (first | exact Grown.refl _ | assumption | refine grown_trans ?_ (by assumption)))⟩
          case measure => simp [intOf]
        · have e1 : two 16 x y = (0, 12) := chk_out f
          have e2 : two 21 x y = (-9223372036854775808, 0) := by show (clamp (x - y), (0 : Int)) = _; rw [clamp_minus_below h1.out h2.out f (by omega)]
          have d1 : decide (x < 0) = true := by simp; omega
          have d2 : decide (y < 0) = false := by simp; omega
          clear f
          go_wp2_with (first | (go_at_call 11; refine (Two_any _ _ _ h1.out h2.out _).mono ?_; rintro e w' ⟨rfl, hg⟩))
          go_roundw
          case rel => exact ⟨2, by omega, rfl, by (repeat (first | exact Grown.refl _ | assumption | refine grown_trans ?_ (by assumption)))⟩
          case measure => simp [intOf]
        · have e1 : two 16 x y = (0, 12) := chk_out f
          have e2 : two 21 x y = (9223372036854775807, 0) := by show (clamp (x - y), (0 : Int)) = _; rw [clamp_minus_above h1.out h2.out f (by omega)]
          have d1 : decide (x < 0) = false := by simp; omega
          have d2 : decide (y < 0) = true := by simp; omega
          clear f
          go_wp2_with (first | (go_at_call 11; refine (Two_any _ _ _ h1.out h2.out _).mono ?_; rintro e w' ⟨rfl, hg⟩))
          go_roundw
          case rel => exact ⟨2, by omega, rfl, by (repeat (first | exact Grown.refl _ | assumption | refine grown_trans ?_ (by assumption)))⟩
          case measure => simp [intOf]
        · have e1 : two 16 x y = (0, 12) := chk_out f
          have e2 : two 21 x y = (9223372036854775807, 0) := by show (clamp (x - y), (0 : Int)) = _; rw [clamp_minus_above h1.out h2.out f (by omega)]
          have d1 : decide (x < 0) = false := by simp; omega
          have d2 : decide (y < 0) = false := by simp; omega
          clear f
          go_wp2_with (first | (go_at_call 11; refine (Two_any _ _ _ h1.out h2.out _).mono ?_; rintro e w' ⟨rfl, hg⟩))
          go_roundw
          case rel => exact ⟨2, by omega, rfl, by (repeat (first | exact Grown.refl _ | assumption | refine grown_trans ?_ (by assumption)))⟩
          case measure => simp [intOf]
    · by_cases f : Fits (x * y)
      · have e1 : two 17 x y = (x * y, 0) := chk_in f
        have e2 : two 22 x y = (x * y, 0) := by show (clamp (x * y), (0 : Int)) = _; rw [clamp_in f]
        clear f
        go_wp2_with (first | (go_at_call 11; refine (Two_any _ _ _ h1.out h2.out _).mono ?_; rintro e w' ⟨rfl, hg⟩))
        go_roundw
        case rel => exact ⟨3, by omega, rfl, by (repeat (first | exact Grown.refl _ | assumption | refine grown_trans ?_ (by assumption)))⟩
        case measure => simp [intOf]
      · by_cases a : x < 0 <;> by_cases b : y < 0
        · have e1 : two 17 x y = (0, 12) := chk_out f
          have e2 : two 22 x y = (9223372036854775807, 0) := by show (clamp (x * y), (0 : Int)) = _; rw [clamp_times_above h1.out h2.out f (by omega)]
          have d1 : decide (x < 0) = true := by simp; omega
          have d2 : decide (y < 0) = true := by simp; omega
          clear f
          go_wp2_with (first | (go_at_call 11; refine (Two_any _ _ _ h1.out h2.out _).mono ?_; rintro e w' ⟨rfl, hg⟩))
          go_roundw
          case rel => exact ⟨3, by omega, rfl, by (repeat (first | exact Grown.refl _ | assumption | refine grown_trans ?_ (by assumption)))⟩
          case measure => simp [intOf]
        · have e1 : two 17 x y = (0, 12) := chk_out f
          have e2 : two 22 x y = (-9223372036854775808, 0) := by show (clamp (x * y), (0 : Int)) = _; rw [clamp_times_below h1.out h2.out f (by omega)]
          have d1 : decide (x < 0) = true := by simp; omega
          have d2 : decide (y < 0) = false := by simp; omega
          clear f
          go_wp2_with (first | (go_at_call 11; refine (Two_any _ _ _ h1.out h2.out _).mono ?_; rintro e w' ⟨rfl, hg⟩))
          go_roundw
          case rel => exact ⟨3, by omega, rfl, by (repeat (first | exact Grown.refl _ | assumption | refine grown_trans ?_ (by assumption)))⟩
          case measure => simp [intOf]
        · have e1 : two 17 x y = (0, 12) := chk_out f
          have e2 : two 22 x y = (-9223372036854775808, 0) := by show (clamp (x * y), (0 : Int)) = _; rw [clamp_times_below h1.out h2.out f (by omega)]
          have d1 : decide (x < 0) = false := by simp; omega
          have d2 : decide (y < 0) = true := by simp; omega
          clear f
          go_wp2_with (first | (go_at_call 11; refine (Two_any _ _ _ h1.out h2.out _).mono ?_; rintro e w' ⟨rfl, hg⟩))
          go_roundw
          case rel => exact ⟨3, by omega, rfl, by (repeat (first | exact Grown.refl _ | assumption | refine grown_trans ?_ (by assumption)))⟩
          case measure => simp [intOf]
        · have e1 : two 17 x y = (0, 12) := chk_out f
          have e2 : two 22 x y = (9223372036854775807, 0) := by show (clamp (x * y), (0 : Int)) = _; rw [clamp_times_above h1.out h2.out f (by omega)]
          have d1 : decide (x < 0) = false := by simp; omega
          have d2 : decide (y < 0) = false := by simp; omega
          clear f
          go_wp2_with (first | (go_at_call 11; refine (Two_any _ _ _ h1.out h2.out _).mono ?_; rintro e w' ⟨rfl, hg⟩))
          go_roundw
          case rel => exact ⟨3, by omega, rfl, by (repeat (first | exact Grown.refl _ | assumption | refine grown_trans ?_ (by assumption)))⟩
          case measure => simp [intOf]
    · go_wp2_with (first | (go_at_call 13; refine (Law.awake_any _).mono ?_; rintro e w' ⟨rfl, hg⟩))
      go_ret
      exact ⟨rfl, by (repeat (first | exact Grown.refl _ | assumption | refine grown_trans ?_ (by assumption)))⟩
/-! ### The walk -/
theorem walk (a0 : Int) (a1 : Int) (w0 : (Lit.int .i64 a0).wf = true) (w1 : (Lit.int .i64 a1).wf = true) (w : World) :
    Calls Try.prog 6 #[.int .i64 a0, .int .i64 a1] w fun e w' => e = .returned (.bool true) ∧ Grown w w' := by
  exact walkx a0 a1 (wf_fits w0) (wf_fits w1) w

/-! ### THE ROW's STEP: WRITTEN OUT: LEAVE IT -/
set_option maxRecDepth 100000 in
theorem lifted (os : Os) (started : os.Started) (H : Type) (enc : TypeId × Value → H) :
    ReturnsInHanded {} Try.checked os 6 .any (Rows.scalarsLimitsSpec.pre6 enc Try.prog Try.f6 Rows.scalarsLimitsRow.domain false) (Rows.scalarsLimitsSpec.post enc Try.prog Try.f6 false true false false) := by
  refine returnsInHanded_of_change (C := Try.checked) own started (by kernel_rfl) Try.func6
    (ChangeSpec.witness6 (enc := enc) (C := Try.checked) false ⟨#[], #[.int .i64 0, .int .i64 0], []⟩ 8 (by kernel_rfl) (by kernel_rfl) (by kernel_rfl) (by kernel_rfl)) ?_
  intro W base args ds gs before hval0 hW hcnd _
  have hval : ∀ (j : Nat) t v, Try.f6.params[j]? = some t → args[j]? = some v → Value.okWide Try.prog W .any base t v := hval0
  have hW' := hW
  obtain ⟨p, q, hA0, hV, rfl, hfz, hnd⟩ := hW
  have hA : DataW.TrodAll enc Try.prog W 0 (fun _ => true) true Try.f6.params.toList args.toList ds p := hA0
  rw [Try.params6] at hA hval
  obtain ⟨v0, vs0, d0, ds0, p0, q0, hargs, rfl, rfl, h0, r0⟩ := trodAll_cons hA
  obtain ⟨v1, vs1, d1, ds1, p1, q1, rfl, rfl, rfl, h1, r1⟩ := trodAll_cons r0
  obtain ⟨rfl, rfl, rfl⟩ := trodAll_nil r1
  obtain rfl : args = #[v0, v1] := by cases args; simp_all
  obtain ⟨rfl, rfl⟩ := trodVars_none hV
  obtain ⟨a0, rfl, rfl, rfl, w0⟩ := open_int Try.underlying2 (hval 0 2 v0 rfl rfl) h0
  obtain ⟨a1, rfl, rfl, rfl, w1⟩ := open_int Try.underlying2 (hval 1 2 v1 rfl rfl) h1
  clear hA0 hval0
  simp only [List.append_nil] at hW'
  refine (walk a0 a1 w0 w1 W).mono fun e W' ⟨he, hg⟩ => ?_
  subst he
  exact ⟨_, rfl, post_of_same (pa := []) (pv := []) hW' (fun _ _ _ => (trodAll_cons_mk (shut_bool Try.underlying4 _) trodAll_mk0)) (fun sp _ => (trodAll_cons_mk (shut_int Try.underlying2 w0) (trodAll_cons_mk (shut_int Try.underlying2 w1) trodAll_mk0))) (fun _ _ => rfl) rfl
    (hg.frame _) hg.2.1 (ok_one (by kernel_rfl) rfl (okWide_bool_mk Try.underlying4 _))⟩

theorem over : Rows.scalarsLimitsRow.holds Try.pinned (OpenSpec.ofChange Rows.scalarsLimitsSpec) :=
  OpenClaim.holds_of_wide 6 Try.f6 rfl rfl rfl rfl rfl rfl rfl ⟨rfl, rfl, rfl, rfl, rfl⟩ rfl rfl rfl rfl rfl (by kernel_rfl) Try.func6 (by kernel_rfl)
    (of_decide_eq_true (by kernel_rfl)) (by unfold Func.isWrapper; first | (rw [if_pos (by decide +kernel)]; kernel_rfl) | (rw [if_neg (by decide +kernel)]; exact ⟨rfl, rfl⟩))
    (fun os started H enc _ => lifted os started H enc)

/-- the statement -/
theorem proved : Rows.ScalarsLimitsSaid :=
  over
#print axioms proved
end Go.Proofs.Ytdpeaimnbgdkeaa.scalarsLimits
