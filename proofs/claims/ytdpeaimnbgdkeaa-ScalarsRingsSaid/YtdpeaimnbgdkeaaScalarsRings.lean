/-
where there are no errors add and mul are associative, mul distributes over add, and mod does not change if the divisor is added: for every input, without a condition.
-/
import Derived.Test.YtdpeaimnbgdkeaaRows
import Derived.Test.YtdpeaimnbgdkeaaScL
import Derived.Test.YtdpeaimnbgdkeaaScE
import Derived.Test.YtdpeaimnbgdkeaaScLaws
import Derived.WalkKit
import Derived.ProofKit
import Derived.OpenShut
import Derived.Deep.DeepCutAuto
set_option linter.unusedSimpArgs false
namespace Go.Proofs.Ytdpeaimnbgdkeaa.scalarsRings
open Go.ChangeShapes Go.WideShapes Go.ChangeAt Go.RowKit
set_option linter.unusedVariables false      -- a walk need not use every 'w<i>' (that an integer argument fits its kind)

open Go.Proofs.Ytdpeaimnbgdkeaa.Sc
theorem own : ownKnob Try.prog.godebug = none := by kernel_rfl

set_option maxRecDepth 100000 in
set_option maxHeartbeats 6000000 in
theorem walkx (x y z : Int) (hx : Fits x) (hy : Fits y) (hz : Fits z) (w : World) : Calls Try.prog 9 #[.int .i64 x, .int .i64 y, .int .i64 z] w fun e w' => e = .returned (.bool true) ∧ Grown w w' := by
  have h1 := hide hx; have h2 := hide hy; have h3 := hide hz
  clear hx hy hz
  go_enter Try.func9, Try.ntmps9
  go_upto_region 5 with (first | (go_at_call 14; with_reducible (refine (Law.two_any 15 x y h1.out h2.out _).mono ?_); rintro e w' ⟨rfl, hg⟩) | (go_at_call 14; with_reducible (refine (Law.two_any 15 y z h2.out h3.out _).mono ?_); rintro e w' ⟨rfl, hg⟩) | (go_at_call 14; with_reducible (refine (Law.two_any 15 (two 15 x y).1 z (two_fits h1.out h2.out) h3.out _).mono ?_); rintro e w' ⟨rfl, hg⟩) | (go_at_call 14; with_reducible (refine (Law.two_any 15 x (two 15 y z).1 h1.out (two_fits h2.out h3.out) _).mono ?_); rintro e w' ⟨rfl, hg⟩))
  go_cut [7, 8, 9, 10, 11, 12, 13, 14, 73] (fun s7 s8 s9 s10 _ _ _ _ s wx => s7 = .int .i64 (two 15 x y).1 ∧ s8 = .bool ((two 15 x y).2 == 0) ∧ s9 = .int .i64 (two 15 y z).1 ∧ s10 = .bool ((two 15 y z).2 == 0) ∧ s = .bool false ∧ Grown w wx)
  case first =>
    by_cases a : Fits (x + y) <;> by_cases b : Fits (y + z)
    · have e1 : two 15 x y = (x + y, 0) := chk_in a
      have e2 : two 15 y z = (y + z, 0) := chk_in b
      by_cases c : Fits (x + y + z)
      · have e3 : two 15 (x + y) z = (x + y + z, 0) := chk_in c
        have e4 : two 15 x (y + z) = (x + y + z, 0) := chk_eq (by omega) c
        clear a b c
        go_wp2_with fail
        go_meet
        case rel => exact ⟨by rw [e1], by rw [e1]; rfl, by rw [e2], by rw [e2]; rfl, rfl, by (repeat (first | exact Grown.refl _ | assumption | refine grown_trans ?_ (by assumption)))⟩
      · have e3 : two 15 (x + y) z = (0, 12) := chk_out c
        have e4 : two 15 x (y + z) = (0, 12) := chk_out (by rw [show x + (y + z) = x + y + z from by omega]; exact c)
        clear a b c
        go_wp2_with fail
        go_meet
        case rel => exact ⟨by rw [e1], by rw [e1]; rfl, by rw [e2], by rw [e2]; rfl, rfl, by (repeat (first | exact Grown.refl _ | assumption | refine grown_trans ?_ (by assumption)))⟩
    · have e1 : two 15 x y = (x + y, 0) := chk_in a
      have e2 : two 15 y z = (0, 12) := chk_out b
      clear a b
      go_wp2_with fail
      go_meet
      case rel => exact ⟨by rw [e1], by rw [e1]; rfl, by rw [e2], by rw [e2]; rfl, rfl, by (repeat (first | exact Grown.refl _ | assumption | refine grown_trans ?_ (by assumption)))⟩
    · have e1 : two 15 x y = (0, 12) := chk_out a
      clear a b
      go_wp2_with fail
      go_meet
      case rel => exact ⟨by rw [e1], by rw [e1]; rfl, rfl, rfl, rfl, by (repeat (first | exact Grown.refl _ | assumption | refine grown_trans ?_ (by assumption)))⟩
    · have e1 : two 15 x y = (0, 12) := chk_out a
      clear a b
      go_wp2_with fail
      go_meet
      case rel => exact ⟨by rw [e1], by rw [e1]; rfl, rfl, rfl, rfl, by (repeat (first | exact Grown.refl _ | assumption | refine grown_trans ?_ (by assumption)))⟩
  case rest =>
  obtain ⟨rfl, rfl, rfl, rfl, rfl, hgc⟩ := hcut
  go_upto_region 11 with (first | (go_at_call 14; with_reducible (refine (Law.two_any 17 x y h1.out h2.out _).mono ?_); rintro e w' ⟨rfl, hg⟩) | (go_at_call 14; with_reducible (refine (Law.two_any 17 x z h1.out h3.out _).mono ?_); rintro e w' ⟨rfl, hg⟩) | (go_at_call 14; with_reducible (refine (Law.two_any 15 (two 17 x y).1 (two 17 x z).1 (two_fits h1.out h2.out) (two_fits h1.out h3.out) _).mono ?_); rintro e w' ⟨rfl, hg⟩) | (go_at_call 14; with_reducible (refine (Law.two_any 17 x (two 15 y z).1 h1.out (two_fits h2.out h3.out) _).mono ?_); rintro e w' ⟨rfl, hg⟩))
  go_cut [9, 10, 15, 16, 17, 18, 19, 20, 21, 22, 117] (fun _ _ s15 s16 _ _ _ _ _ _ s wx => s15 = .int .i64 (two 17 x y).1 ∧ s16 = .bool ((two 17 x y).2 == 0) ∧ s = .bool false ∧ Grown w wx)
  case first =>
    by_cases a : Fits (y + z)
    · have e2 : two 15 y z = (y + z, 0) := chk_in a
      by_cases b : Fits (x * y)
      · have e3 : two 17 x y = (x * y, 0) := chk_in b
        by_cases c : Fits (x * z)
        · have e4 : two 17 x z = (x * z, 0) := chk_in c
          by_cases d : Fits (x * y + x * z)
          · have e5 : two 15 (x * y) (x * z) = (x * y + x * z, 0) := chk_in d
            have e6 : two 17 x (y + z) = (x * y + x * z, 0) := chk_eq (Int.mul_add _ _ _) d
            clear a b c d
            go_wp2_with fail
            go_meet
            case rel => exact ⟨by rw [e3], by rw [e3]; rfl, rfl, by (repeat (first | exact Grown.refl _ | assumption | refine grown_trans ?_ (by assumption)))⟩
          · have e5 : two 15 (x * y) (x * z) = (0, 12) := chk_out d
            have e6 : two 17 x (y + z) = (0, 12) := chk_out (by rw [Int.mul_add]; exact d)
            clear a b c d
            go_wp2_with fail
            go_meet
            case rel => exact ⟨by rw [e3], by rw [e3]; rfl, rfl, by (repeat (first | exact Grown.refl _ | assumption | refine grown_trans ?_ (by assumption)))⟩
        · have e4 : two 17 x z = (0, 12) := chk_out c
          clear a b c
          go_wp2_with fail
          go_meet
          case rel => exact ⟨by rw [e3], by rw [e3]; rfl, rfl, by (repeat (first | exact Grown.refl _ | assumption | refine grown_trans ?_ (by assumption)))⟩
      · have e3 : two 17 x y = (0, 12) := chk_out b
        clear a b
        go_wp2_with fail
        go_meet
        case rel => exact ⟨by rw [e3], by rw [e3]; rfl, rfl, by (repeat (first | exact Grown.refl _ | assumption | refine grown_trans ?_ (by assumption)))⟩
    · have e2 : two 15 y z = (0, 12) := chk_out a
      clear a
      go_wp2_with fail
      go_meet
      case rel => exact ⟨rfl, rfl, rfl, by (repeat (first | exact Grown.refl _ | assumption | refine grown_trans ?_ (by assumption)))⟩
  case rest =>
  obtain ⟨rfl, rfl, rfl, hgc⟩ := hcut
  go_upto_region 15 with (first | (go_at_call 14; with_reducible (refine (Law.two_any 19 x y h1.out h2.out _).mono ?_); rintro e w' ⟨rfl, hg⟩) | (go_at_call 14; with_reducible (refine (Law.two_any 19 (two 15 x y).1 y (two_fits h1.out h2.out) h2.out _).mono ?_); rintro e w' ⟨rfl, hg⟩))
  go_cut [7, 8, 23, 24, 25, 26, 142] (fun _ _ _ _ _ _ s wx => s = .bool false ∧ Grown w wx)
  case first =>
    by_cases a : Fits (x + y)
    · have e1 : two 15 x y = (x + y, 0) := chk_in a
      by_cases b : y = 0
      · subst b
        have e2 : two 19 x 0 = (0, 13) := rfl
        clear a
        go_wp2_with fail
        go_meet
        case rel => exact ⟨rfl, by (repeat (first | exact Grown.refl _ | assumption | refine grown_trans ?_ (by assumption)))⟩
      · have e2 : two 19 x y = (x.fmod y, 0) := m_two_19 b
        have e3 : two 19 (x + y) y = (x.fmod y, 0) := by rw [m_two_19 b, mod_add b]
        clear a b
        go_wp2_with fail
        go_meet
        case rel => exact ⟨rfl, by (repeat (first | exact Grown.refl _ | assumption | refine grown_trans ?_ (by assumption)))⟩
    · have e1 : two 15 x y = (0, 12) := chk_out a
      clear a
      go_wp2_with fail
      go_meet
      case rel => exact ⟨rfl, by (repeat (first | exact Grown.refl _ | assumption | refine grown_trans ?_ (by assumption)))⟩
  case rest =>
  obtain ⟨rfl, hgc⟩ := hcut
  go_upto_region 20 with (first | (go_at_call 14; with_reducible (refine (Law.two_any 17 y z h2.out h3.out _).mono ?_); rintro e w' ⟨rfl, hg⟩) | (go_at_call 14; with_reducible (refine (Law.two_any 17 (two 17 x y).1 z (two_fits h1.out h2.out) h3.out _).mono ?_); rintro e w' ⟨rfl, hg⟩) | (go_at_call 14; with_reducible (refine (Law.two_any 17 x (two 17 y z).1 h1.out (two_fits h2.out h3.out) _).mono ?_); rintro e w' ⟨rfl, hg⟩))
  go_cut [15, 16, 27, 28, 29, 30, 31, 32, 177] (fun _ _ _ _ _ _ _ _ s wx => s = .bool false ∧ Grown w wx)
  case first =>
    by_cases a : Fits (x * y)
    · have e1 : two 17 x y = (x * y, 0) := chk_in a
      by_cases b : Fits (y * z)
      · have e2 : two 17 y z = (y * z, 0) := chk_in b
        by_cases c : Fits (x * y * z)
        · have e3 : two 17 (x * y) z = (x * y * z, 0) := chk_in c
          have e4 : two 17 x (y * z) = (x * y * z, 0) := chk_eq (Int.mul_assoc _ _ _).symm c
          clear a b c
          go_wp2_with fail
          go_meet
          case rel => exact ⟨rfl, by (repeat (first | exact Grown.refl _ | assumption | refine grown_trans ?_ (by assumption)))⟩
        · have e3 : two 17 (x * y) z = (0, 12) := chk_out c
          have e4 : two 17 x (y * z) = (0, 12) := chk_out (by rw [← Int.mul_assoc]; exact c)
          clear a b c
          go_wp2_with fail
          go_meet
          case rel => exact ⟨rfl, by (repeat (first | exact Grown.refl _ | assumption | refine grown_trans ?_ (by assumption)))⟩
      · have e2 : two 17 y z = (0, 12) := chk_out b
        clear a b
        go_wp2_with fail
        go_meet
        case rel => exact ⟨rfl, by (repeat (first | exact Grown.refl _ | assumption | refine grown_trans ?_ (by assumption)))⟩
    · have e1 : two 17 x y = (0, 12) := chk_out a
      clear a
      go_wp2_with fail
      go_meet
      case rel => exact ⟨rfl, by (repeat (first | exact Grown.refl _ | assumption | refine grown_trans ?_ (by assumption)))⟩
  case rest =>
  obtain ⟨rfl, hgc⟩ := hcut
  go_wp2_with (first | (go_at_call 13; refine (Law.awake_any _).mono ?_; rintro e w' ⟨rfl, hg⟩))
  go_ret
  exact ⟨rfl, by (repeat (first | exact Grown.refl _ | assumption | refine grown_trans ?_ (by assumption)))⟩
/-! ### The walk -/
theorem walk (a0 : Int) (a1 : Int) (a2 : Int) (w0 : (Lit.int .i64 a0).wf = true) (w1 : (Lit.int .i64 a1).wf = true) (w2 : (Lit.int .i64 a2).wf = true) (w : World) :
    Calls Try.prog 9 #[.int .i64 a0, .int .i64 a1, .int .i64 a2] w fun e w' => e = .returned (.bool true) ∧ Grown w w' := by
  exact walkx a0 a1 a2 (wf_fits w0) (wf_fits w1) (wf_fits w2) w

/-! ### THE ROW's STEP: WRITTEN OUT: LEAVE IT -/
set_option maxRecDepth 100000 in
theorem lifted (os : Os) (started : os.Started) (H : Type) (enc : TypeId × Value → H) :
    ReturnsInHanded {} Try.checked os 9 .any (Rows.scalarsRingsSpec.pre6 enc Try.prog Try.f9 Rows.scalarsRingsRow.domain false) (Rows.scalarsRingsSpec.post enc Try.prog Try.f9 false true false false) := by
  refine returnsInHanded_of_change (C := Try.checked) own started (by kernel_rfl) Try.func9
    (ChangeSpec.witness6 (enc := enc) (C := Try.checked) false ⟨#[], #[.int .i64 0, .int .i64 0, .int .i64 0], []⟩ 8 (by kernel_rfl) (by kernel_rfl) (by kernel_rfl) (by kernel_rfl)) ?_
  intro W base args ds gs before hval0 hW hcnd _
  have hval : ∀ (j : Nat) t v, Try.f9.params[j]? = some t → args[j]? = some v → Value.okWide Try.prog W .any base t v := hval0
  have hW' := hW
  obtain ⟨p, q, hA0, hV, rfl, hfz, hnd⟩ := hW
  have hA : DataW.TrodAll enc Try.prog W 0 (fun _ => true) true Try.f9.params.toList args.toList ds p := hA0
  rw [Try.params9] at hA hval
  obtain ⟨v0, vs0, d0, ds0, p0, q0, hargs, rfl, rfl, h0, r0⟩ := trodAll_cons hA
  obtain ⟨v1, vs1, d1, ds1, p1, q1, rfl, rfl, rfl, h1, r1⟩ := trodAll_cons r0
  obtain ⟨v2, vs2, d2, ds2, p2, q2, rfl, rfl, rfl, h2, r2⟩ := trodAll_cons r1
  obtain ⟨rfl, rfl, rfl⟩ := trodAll_nil r2
  obtain rfl : args = #[v0, v1, v2] := by cases args; simp_all
  obtain ⟨rfl, rfl⟩ := trodVars_none hV
  obtain ⟨a0, rfl, rfl, rfl, w0⟩ := open_int Try.underlying2 (hval 0 2 v0 rfl rfl) h0
  obtain ⟨a1, rfl, rfl, rfl, w1⟩ := open_int Try.underlying2 (hval 1 2 v1 rfl rfl) h1
  obtain ⟨a2, rfl, rfl, rfl, w2⟩ := open_int Try.underlying2 (hval 2 2 v2 rfl rfl) h2
  clear hA0 hval0
  simp only [List.append_nil] at hW'
  refine (walk a0 a1 a2 w0 w1 w2 W).mono fun e W' ⟨he, hg⟩ => ?_
  subst he
  exact ⟨_, rfl, post_of_same (pa := []) (pv := []) hW' (fun _ _ _ => (trodAll_cons_mk (shut_bool Try.underlying4 _) trodAll_mk0)) (fun sp _ => (trodAll_cons_mk (shut_int Try.underlying2 w0) (trodAll_cons_mk (shut_int Try.underlying2 w1) (trodAll_cons_mk (shut_int Try.underlying2 w2) trodAll_mk0)))) (fun _ _ => rfl) rfl
    (hg.frame _) hg.2.1 (ok_one (by kernel_rfl) rfl (okWide_bool_mk Try.underlying4 _))⟩

theorem over : Rows.scalarsRingsRow.holds Try.pinned (OpenSpec.ofChange Rows.scalarsRingsSpec) :=
  OpenClaim.holds_of_wide 9 Try.f9 rfl rfl rfl rfl rfl rfl rfl ⟨rfl, rfl, rfl, rfl, rfl⟩ rfl rfl rfl rfl rfl (by kernel_rfl) Try.func9 (by kernel_rfl)
    (of_decide_eq_true (by kernel_rfl)) (by unfold Func.isWrapper; first | (rw [if_pos (by decide +kernel)]; kernel_rfl) | (rw [if_neg (by decide +kernel)]; exact ⟨rfl, rfl⟩))
    (fun os started H enc _ => lifted os started H enc)

/-- the statement -/
theorem proved : Rows.ScalarsRingsSaid :=
  over
#print axioms proved
end Go.Proofs.Ytdpeaimnbgdkeaa.scalarsRings
