/-
add and sub undo each other, div and mod make up x, mul divided gives the other factor: for every input, without a condition.
-/
import Derived.Test.YtdpeaimnbgdkeaaRows
import Derived.Test.YtdpeaimnbgdkeaaScL
import Derived.Test.YtdpeaimnbgdkeaaScLaws
import Derived.WalkKit
import Derived.ProofKit
import Derived.OpenShut
import Derived.Deep.DeepCutAuto
set_option linter.unusedSimpArgs false
namespace Go.Proofs.Ytdpeaimnbgdkeaa.scalarsExact
open Go.ChangeShapes Go.WideShapes Go.ChangeAt Go.RowKit
set_option linter.unusedVariables false      -- a walk need not use every 'w<i>' (that an integer argument fits its kind)

open Go.Proofs.Ytdpeaimnbgdkeaa.Sc
theorem own : ownKnob Try.prog.godebug = none := by kernel_rfl

set_option maxRecDepth 100000 in
theorem walkx (x y : Int) (hx : Fits x) (hy : Fits y) (w : World) : Calls Try.prog 4 #[.int .i64 x, .int .i64 y] w fun e w' => e = .returned (.bool true) ∧ Grown w w' := by
  have h1 := hide hx; have h2 := hide hy
  clear hx hy
  go_enter Try.func4, Try.ntmps4
  go_upto_region 2 with ((go_at_call 14; refine (Law.two_any _ _ _ h1.out h2.out _).mono ?_; rintro e w' ⟨rfl, hg⟩))
  go_cut [5, 6, 42] (fun _ _ s wx => s = .bool false ∧ Grown w wx)
  case first =>
    by_cases hf : Fits (x + y)
    · have e : two 15 x y = (x + y, 0) := chk_in hf
      have f1 := hide hf
      have K1 : Hid (two 16 (x + y) y = (x, 0)) := chk_eq (by omega) h1.out
      have K2 : Hid (two 16 (x + y) x = (y, 0)) := chk_eq (by omega) h2.out
      have K3 : Hid (two 15 y x = (x + y, 0)) := chk_eq (by omega) hf
      clear hf
      go_wp2_with (first | (go_at_call 15; with_reducible (refine (Law.is_true 16 (x + y) y f1.out h2.out x K1.out _).mono ?_); rintro e w' ⟨rfl, hg⟩) | (go_at_call 15; with_reducible (refine (Law.is_true 16 (x + y) x f1.out h1.out y K2.out _).mono ?_); rintro e w' ⟨rfl, hg⟩) | (go_at_call 15; with_reducible (refine (Law.is_true 15 y x h2.out h1.out (x + y) K3.out _).mono ?_); rintro e w' ⟨rfl, hg⟩))
      go_meet
      case rel => exact ⟨rfl, by (repeat (first | exact Grown.refl _ | assumption | refine grown_trans ?_ (by assumption)))⟩
    · have e : two 15 x y = (0, 12) := chk_out hf
      clear hf
      go_wp2_with (fail)
      go_meet
      case rel => exact ⟨rfl, by (repeat (first | exact Grown.refl _ | assumption | refine grown_trans ?_ (by assumption)))⟩
  case rest =>
  obtain ⟨rfl, hgc⟩ := hcut
  go_upto_region 5 with ((go_at_call 14; refine (Law.two_any _ _ _ h1.out h2.out _).mono ?_; rintro e w' ⟨rfl, hg⟩))
  go_cut [7, 8, 56] (fun _ _ s wx => s = .bool false ∧ Grown w wx)
  case first =>
    by_cases hf : Fits (x - y)
    · have e : two 16 x y = (x - y, 0) := chk_in hf
      have f2 := hide hf
      have K4 : Hid (two 15 (x - y) y = (x, 0)) := chk_eq (by omega) h1.out
      clear hf
      go_wp2_with (first | (go_at_call 15; with_reducible (refine (Law.is_true 15 (x - y) y f2.out h2.out x K4.out _).mono ?_); rintro e w' ⟨rfl, hg⟩))
      go_meet
      case rel => exact ⟨rfl, by (repeat (first | exact Grown.refl _ | assumption | refine grown_trans ?_ (by assumption)))⟩
    · have e : two 16 x y = (0, 12) := chk_out hf
      clear hf
      go_wp2_with (fail)
      go_meet
      case rel => exact ⟨rfl, by (repeat (first | exact Grown.refl _ | assumption | refine grown_trans ?_ (by assumption)))⟩
  case rest =>
  obtain ⟨rfl, hgc⟩ := hcut
  go_upto_region 8 with ((go_at_call 14; refine (Law.two_any _ _ _ h1.out h2.out _).mono ?_; rintro e w' ⟨rfl, hg⟩))
  go_cut [9, 10, 87] (fun _ _ s wx => s = .bool false ∧ Grown w wx)
  case first =>
    by_cases hf : Fits (x * y)
    by_cases h0 : y = 0
    · have e : two 17 x y = (x * y, 0) := chk_in hf
      have f3 := hide hf
      have K5 : Hid (two 17 y x = (x * y, 0)) := chk_eq (Int.mul_comm _ _) hf
      have c0 : (y != 0) = false := by simpa using h0
      clear hf h0
      go_wp2_with (first | (go_at_call 15; with_reducible (refine (Law.is_true 17 y x h2.out h1.out (x * y) K5.out _).mono ?_); rintro e w' ⟨rfl, hg⟩))
      go_meet
      case rel => exact ⟨rfl, by (repeat (first | exact Grown.refl _ | assumption | refine grown_trans ?_ (by assumption)))⟩
    · have e : two 17 x y = (x * y, 0) := chk_in hf
      have f3 := hide hf
      have K5 : Hid (two 17 y x = (x * y, 0)) := chk_eq (Int.mul_comm _ _) hf
      have K6 : Hid (two 18 (x * y) y = (x, 0)) := mul_div h1.out h2.out hf h0
      have K7 : Hid (two 19 (x * y) y = (0, 0)) := mul_mod h0
      have c0 : (y != 0) = true := by simpa using h0
      clear hf h0
      go_wp2_with (first | (go_at_call 15; with_reducible (refine (Law.is_true 17 y x h2.out h1.out (x * y) K5.out _).mono ?_); rintro e w' ⟨rfl, hg⟩) | (go_at_call 15; with_reducible (refine (Law.is_true 18 (x * y) y f3.out h2.out x K6.out _).mono ?_); rintro e w' ⟨rfl, hg⟩) | (go_at_call 15; with_reducible (refine (Law.is_true 19 (x * y) y f3.out h2.out 0 K7.out _).mono ?_); rintro e w' ⟨rfl, hg⟩))
      go_meet
      case rel => exact ⟨rfl, by (repeat (first | exact Grown.refl _ | assumption | refine grown_trans ?_ (by assumption)))⟩
    · have e : two 17 x y = (0, 12) := chk_out hf
      clear hf
      go_wp2_with (fail)
      go_meet
      case rel => exact ⟨rfl, by (repeat (first | exact Grown.refl _ | assumption | refine grown_trans ?_ (by assumption)))⟩
  case rest =>
  obtain ⟨rfl, hgc⟩ := hcut
  by_cases h0 : y = 0
  · subst h0
    have e1 : two 18 x 0 = (0, 13) := rfl
    have e2 : two 19 x 0 = (0, 13) := rfl
    go_wp2_with (first | (go_at_call 14; refine (Law.two_any _ _ _ h1.out h2.out _).mono ?_; rintro e w' ⟨rfl, hg⟩) | (go_at_call 13; refine (Law.awake_any _).mono ?_; rintro e w' ⟨rfl, hg⟩))
    go_ret
    exact ⟨rfl, by (repeat (first | exact Grown.refl _ | assumption | refine grown_trans ?_ (by assumption)))⟩
  by_cases hs : x = -9223372036854775808 ∧ y = -1
  · obtain ⟨rfl, rfl⟩ := hs
    have e1 : two 18 (-9223372036854775808) (-1) = (0, 12) := rfl
    have e2 : two 19 (-9223372036854775808) (-1) = (0, 0) := rfl
    go_wp2_with (first | (go_at_call 14; refine (Law.two_any _ _ _ h1.out h2.out _).mono ?_; rintro e w' ⟨rfl, hg⟩) | (go_at_call 13; refine (Law.awake_any _).mono ?_; rintro e w' ⟨rfl, hg⟩))
    go_ret
    exact ⟨rfl, by (repeat (first | exact Grown.refl _ | assumption | refine grown_trans ?_ (by assumption)))⟩
  have e1 : two 18 x y = (x.fdiv y, 0) := m_two_18 h1.out h2.out h0 hs
  have e2 : two 19 x y = (x.fmod y, 0) := m_two_19 h0
  have e3 : wrap64 (wrap64 (y * x.fdiv y) + x.fmod y) = x := fdiv_back h1.out
  have hw := fmod_ways (x := x) h0
  have c0 : (y != 0) = true := by simpa using h0
  have c0' : (y == 0) = false := by simpa using h0
  clear h0 hs
  generalize x.fdiv y = q at *
  generalize x.fmod y = r at *
  have c1 : (r != 0) = false ∨ (r != 0) = true := by cases (r != 0) <;> simp
  have c3 : (r != 0) = true → ¬ r = 0 := by simp
  obtain ⟨k1, k2, k3⟩ | ⟨k1, k2, k3⟩ := hw <;> obtain c2 | c2 := c1
  · clear c3
    go_wp2_with (first | (go_at_call 14; refine (Law.two_any _ _ _ h1.out h2.out _).mono ?_; rintro e w' ⟨rfl, hg⟩) | (go_at_call 13; refine (Law.awake_any _).mono ?_; rintro e w' ⟨rfl, hg⟩))
    go_ret
    exact ⟨rfl, by (repeat (first | exact Grown.refl _ | assumption | refine grown_trans ?_ (by assumption)))⟩
  · have := c3 c2
    clear c3
    go_wp2_with (first | (go_at_call 14; refine (Law.two_any _ _ _ h1.out h2.out _).mono ?_; rintro e w' ⟨rfl, hg⟩) | (go_at_call 13; refine (Law.awake_any _).mono ?_; rintro e w' ⟨rfl, hg⟩))
    go_ret
    exact ⟨rfl, by (repeat (first | exact Grown.refl _ | assumption | refine grown_trans ?_ (by assumption)))⟩
  · clear c3
    go_wp2_with (first | (go_at_call 14; refine (Law.two_any _ _ _ h1.out h2.out _).mono ?_; rintro e w' ⟨rfl, hg⟩) | (go_at_call 13; refine (Law.awake_any _).mono ?_; rintro e w' ⟨rfl, hg⟩))
    go_ret
    exact ⟨rfl, by (repeat (first | exact Grown.refl _ | assumption | refine grown_trans ?_ (by assumption)))⟩
  · have := c3 c2
    clear c3
    go_wp2_with (first | (go_at_call 14; refine (Law.two_any _ _ _ h1.out h2.out _).mono ?_; rintro e w' ⟨rfl, hg⟩) | (go_at_call 13; refine (Law.awake_any _).mono ?_; rintro e w' ⟨rfl, hg⟩))
    go_ret
    exact ⟨rfl, by (repeat (first | exact Grown.refl _ | assumption | refine grown_trans ?_ (by assumption)))⟩
/-! ### The walk -/
theorem walk (a0 : Int) (a1 : Int) (w0 : (Lit.int .i64 a0).wf = true) (w1 : (Lit.int .i64 a1).wf = true) (w : World) :
    Calls Try.prog 4 #[.int .i64 a0, .int .i64 a1] w fun e w' => e = .returned (.bool true) ∧ Grown w w' := by
  exact walkx a0 a1 (wf_fits w0) (wf_fits w1) w

/-! ### THE ROW's STEP: WRITTEN OUT: LEAVE IT -/
set_option maxRecDepth 100000 in
theorem lifted (os : Os) (started : os.Started) (H : Type) (enc : TypeId × Value → H) :
    ReturnsInHanded {} Try.checked os 4 .any (Rows.scalarsExactSpec.pre6 enc Try.prog Try.f4 Rows.scalarsExactRow.domain false) (Rows.scalarsExactSpec.post enc Try.prog Try.f4 false true false false) := by
  refine returnsInHanded_of_change (C := Try.checked) own started (by kernel_rfl) Try.func4
    (ChangeSpec.witness6 (enc := enc) (C := Try.checked) false ⟨#[], #[.int .i64 0, .int .i64 0], []⟩ 8 (by kernel_rfl) (by kernel_rfl) (by kernel_rfl) (by kernel_rfl)) ?_
  intro W base args ds gs before hval0 hW hcnd _
  have hval : ∀ (j : Nat) t v, Try.f4.params[j]? = some t → args[j]? = some v → Value.okWide Try.prog W .any base t v := hval0
  have hW' := hW
  obtain ⟨p, q, hA0, hV, rfl, hfz, hnd⟩ := hW
  have hA : DataW.TrodAll enc Try.prog W 0 (fun _ => true) true Try.f4.params.toList args.toList ds p := hA0
  rw [Try.params4] at hA hval
  obtain ⟨v0, vs0, d0, ds0, p0, q0, hargs, rfl, rfl, h0, r0⟩ := trodAll_cons hA
  obtain ⟨v1, vs1, d1, ds1, p1, q1, rfl, rfl, rfl, h1, r1⟩ := trodAll_cons r0
  obtain ⟨rfl, rfl, rfl⟩ := trodAll_nil r1
  obtain rfl : args = #[v0, v1] := by cases args; simp_all
  obtain ⟨rfl, rfl⟩ := trodVars_none hV
  obtain ⟨a0, rfl, rfl, rfl, w0⟩ := open_int Try.underlying2 (hval 0 2 v0 rfl rfl) h0
  obtain ⟨a1, rfl, rfl, rfl, w1⟩ := open_int Try.underlying2 (hval 1 2 v1 rfl rfl) h1
  clear hA0 hval0
  simp only [List.append_nil] at hW'
  refine (walk a0 a1 w0 w1 W).mono fun e W' ⟨he, hg⟩ => ?_
  subst he
  exact ⟨_, rfl, post_of_same (pa := []) (pv := []) hW' (fun _ _ _ => (trodAll_cons_mk (shut_bool Try.underlying4 _) trodAll_mk0)) (fun sp _ => (trodAll_cons_mk (shut_int Try.underlying2 w0) (trodAll_cons_mk (shut_int Try.underlying2 w1) trodAll_mk0))) (fun _ _ => rfl) rfl
    (hg.frame _) hg.2.1 (ok_one (by kernel_rfl) rfl (okWide_bool_mk Try.underlying4 _))⟩

theorem over : Rows.scalarsExactRow.holds Try.pinned (OpenSpec.ofChange Rows.scalarsExactSpec) :=
  OpenClaim.holds_of_wide 4 Try.f4 rfl rfl rfl rfl rfl rfl rfl ⟨rfl, rfl, rfl, rfl, rfl⟩ rfl rfl rfl rfl rfl (by kernel_rfl) Try.func4 (by kernel_rfl)
    (of_decide_eq_true (by kernel_rfl)) (by unfold Func.isWrapper; first | (rw [if_pos (by decide +kernel)]; kernel_rfl) | (rw [if_neg (by decide +kernel)]; exact ⟨rfl, rfl⟩))
    (fun os started H enc _ => lifted os started H enc)

/-- the statement -/
theorem proved : Rows.ScalarsExactSaid :=
  over
#print axioms proved
end Go.Proofs.Ytdpeaimnbgdkeaa.scalarsExact
