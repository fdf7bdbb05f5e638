/-
the comparisons, min and max are those of an order: for every input, without a condition.
-/
import Derived.Test.YtdpeaimnbgdkeaaRows
import Derived.Test.YtdpeaimnbgdkeaaScL
import Derived.Test.YtdpeaimnbgdkeaaScE
import Derived.Test.YtdpeaimnbgdkeaaScLaws
import Derived.WalkKit
import Derived.ProofKit
import Derived.OpenShut
import Derived.Deep.DeepCutAuto
set_option linter.unusedSimpArgs false
namespace Go.Proofs.Ytdpeaimnbgdkeaa.scalarsOrders
open Go.ChangeShapes Go.WideShapes Go.ChangeAt Go.RowKit
set_option linter.unusedVariables false      -- a walk need not use every 'w<i>' (that an integer argument fits its kind)

open Go.Proofs.Ytdpeaimnbgdkeaa.Sc
theorem own : ownKnob Try.prog.godebug = none := by kernel_rfl

set_option maxRecDepth 100000 in
set_option maxHeartbeats 6000000 in
theorem walkx (x y z : Int) (hx : Fits x) (hy : Fits y) (hz : Fits z) (w : World) : Calls Try.prog 7 #[.int .i64 x, .int .i64 y, .int .i64 z] w fun e w' => e = .returned (.bool true) ∧ Grown w w' := by
  have h1 := hide hx; have h2 := hide hy; have h3 := hide hz
  clear hx hy hz
  go_enter Try.func7, Try.ntmps7
  go_upto_region 7 with ((go_at_call 14; refine (Law.two_any _ _ _ (by first | exact h1.out | exact h2.out | exact h3.out) (by first | exact h1.out | exact h2.out | exact h3.out) _).mono ?_; rintro e w' ⟨rfl, hg⟩))
  go_cut [7, 8, 9, 10, 11, 12, 13, 14, 15, 16, 17, 18, 128] (fun s7 _ _ _ _ _ _ _ _ _ _ _ s wx => s7 = .int .i64 (two 25 x y).1 ∧ s = .bool false ∧ Grown w wx)
  case first =>
    obtain hxy | hxy | hxy : x < y ∨ x = y ∨ y < x := by omega
    · have e25 : two 25 x y = (1, 0) := val_t (b := decide (x < y)) (by simp; try omega)
      have e26 : two 26 x y = (1, 0) := val_t (b := decide (x ≤ y)) (by simp; try omega)
      have e27 : two 27 x y = (0, 0) := val_f (b := decide (y < x)) (by simp; try omega)
      have e28 : two 28 x y = (0, 0) := val_f (b := decide (y ≤ x)) (by simp; try omega)
      have e23 : two 23 x y = (0, 0) := val_f (b := (x == y)) (by simp; try omega)
      have e24 : two 24 x y = (1, 0) := val_t (b := (x != y)) (by simp; try omega)
      clear hxy
      go_wp2_with fail
      go_meet
      case rel => exact ⟨by rw [e25], rfl, by (repeat (first | exact Grown.refl _ | assumption | refine grown_trans ?_ (by assumption)))⟩
    · have e25 : two 25 x y = (0, 0) := val_f (b := decide (x < y)) (by simp; try omega)
      have e26 : two 26 x y = (1, 0) := val_t (b := decide (x ≤ y)) (by simp; try omega)
      have e27 : two 27 x y = (0, 0) := val_f (b := decide (y < x)) (by simp; try omega)
      have e28 : two 28 x y = (1, 0) := val_t (b := decide (y ≤ x)) (by simp; try omega)
      have e23 : two 23 x y = (1, 0) := val_t (b := (x == y)) (by simp; try omega)
      have e24 : two 24 x y = (0, 0) := val_f (b := (x != y)) (by simp; try omega)
      clear hxy
      go_wp2_with fail
      go_meet
      case rel => exact ⟨by rw [e25], rfl, by (repeat (first | exact Grown.refl _ | assumption | refine grown_trans ?_ (by assumption)))⟩
    · have e25 : two 25 x y = (0, 0) := val_f (b := decide (x < y)) (by simp; try omega)
      have e26 : two 26 x y = (0, 0) := val_f (b := decide (x ≤ y)) (by simp; try omega)
      have e27 : two 27 x y = (1, 0) := val_t (b := decide (y < x)) (by simp; try omega)
      have e28 : two 28 x y = (1, 0) := val_t (b := decide (y ≤ x)) (by simp; try omega)
      have e23 : two 23 x y = (0, 0) := val_f (b := (x == y)) (by simp; try omega)
      have e24 : two 24 x y = (1, 0) := val_t (b := (x != y)) (by simp; try omega)
      clear hxy
      go_wp2_with fail
      go_meet
      case rel => exact ⟨by rw [e25], rfl, by (repeat (first | exact Grown.refl _ | assumption | refine grown_trans ?_ (by assumption)))⟩
  case rest =>
  obtain ⟨rfl, rfl, hgc⟩ := hcut
  go_upto_region 11 with ((go_at_call 14; refine (Law.two_any _ _ _ (by first | exact h1.out | exact h2.out | exact h3.out) (by first | exact h1.out | exact h2.out | exact h3.out) _).mono ?_; rintro e w' ⟨rfl, hg⟩))
  go_cut [19, 20, 21, 22, 191] (fun _ _ _ _ s wx => s = .bool false ∧ Grown w wx)
  case first =>
    obtain hxy | hxy | hxy : x < y ∨ x = y ∨ y < x := by omega
    · have e31 : two 31 x y = (x, 0) := by show (min x y, (0 : Int)) = _; rw [show min x y = x from by omega]
      have e32 : two 32 x y = (y, 0) := by show (max x y, (0 : Int)) = _; rw [show max x y = y from by omega]
      have n1 : (x != y) = true := by simp; omega
      have n2 : (y != x) = true := by simp; omega
      have n3 : (x == y) = false := by simp; omega
      have n4 : (y == x) = false := by simp; omega
      have d1 : decide (y < x) = false := by simp; omega
      go_wp2_with fail
      go_meet
      case rel => exact ⟨rfl, by (repeat (first | exact Grown.refl _ | assumption | refine grown_trans ?_ (by assumption)))⟩
    · have e31 : two 31 x y = (x, 0) := by show (min x y, (0 : Int)) = _; rw [show min x y = x from by omega]
      have e32 : two 32 x y = (x, 0) := by show (max x y, (0 : Int)) = _; rw [show max x y = x from by omega]
      have n1 : (x != y) = false := by simp; omega
      have n3 : (x == y) = true := by simp; omega
      clear hxy
      go_wp2_with fail
      go_meet
      case rel => exact ⟨rfl, by (repeat (first | exact Grown.refl _ | assumption | refine grown_trans ?_ (by assumption)))⟩
    · have e31 : two 31 x y = (y, 0) := by show (min x y, (0 : Int)) = _; rw [show min x y = y from by omega]
      have e32 : two 32 x y = (x, 0) := by show (max x y, (0 : Int)) = _; rw [show max x y = x from by omega]
      have n1 : (x != y) = true := by simp; omega
      have n2 : (y != x) = true := by simp; omega
      have n3 : (x == y) = false := by simp; omega
      have n4 : (y == x) = false := by simp; omega
      have d1 : decide (x < y) = false := by simp; omega
      go_wp2_with fail
      go_meet
      case rel => exact ⟨rfl, by (repeat (first | exact Grown.refl _ | assumption | refine grown_trans ?_ (by assumption)))⟩
  case rest =>
  obtain ⟨rfl, hgc⟩ := hcut
  by_cases a : x < y <;> by_cases b : y < z <;> by_cases c : x < z
  · have e1 : two 25 x y = (1, 0) := val_t (b := decide (x < y)) (by simp; omega)
    have e2 : two 25 y z = (1, 0) := val_t (b := decide (y < z)) (by simp; omega)
    have e3 : two 25 x z = (1, 0) := val_t (b := decide (x < z)) (by simp; omega)
    clear a b c
    go_wp2_with (first | (go_at_call 14; refine (Law.two_any _ _ _ (by first | exact h1.out | exact h2.out | exact h3.out) (by first | exact h1.out | exact h2.out | exact h3.out) _).mono ?_; rintro e w' ⟨rfl, hg⟩) | (go_at_call 13; refine (Law.awake_any _).mono ?_; rintro e w' ⟨rfl, hg⟩))
    go_ret
    exact ⟨rfl, by (repeat (first | exact Grown.refl _ | assumption | refine grown_trans ?_ (by assumption)))⟩
  · omega
  · have e1 : two 25 x y = (1, 0) := val_t (b := decide (x < y)) (by simp; omega)
    have e2 : two 25 y z = (0, 0) := val_f (b := decide (y < z)) (by simp; omega)
    have e3 : two 25 x z = (1, 0) := val_t (b := decide (x < z)) (by simp; omega)
    clear a b c
    go_wp2_with (first | (go_at_call 14; refine (Law.two_any _ _ _ (by first | exact h1.out | exact h2.out | exact h3.out) (by first | exact h1.out | exact h2.out | exact h3.out) _).mono ?_; rintro e w' ⟨rfl, hg⟩) | (go_at_call 13; refine (Law.awake_any _).mono ?_; rintro e w' ⟨rfl, hg⟩))
    go_ret
    exact ⟨rfl, by (repeat (first | exact Grown.refl _ | assumption | refine grown_trans ?_ (by assumption)))⟩
  · have e1 : two 25 x y = (1, 0) := val_t (b := decide (x < y)) (by simp; omega)
    have e2 : two 25 y z = (0, 0) := val_f (b := decide (y < z)) (by simp; omega)
    have e3 : two 25 x z = (0, 0) := val_f (b := decide (x < z)) (by simp; omega)
    clear a b c
    go_wp2_with (first | (go_at_call 14; refine (Law.two_any _ _ _ (by first | exact h1.out | exact h2.out | exact h3.out) (by first | exact h1.out | exact h2.out | exact h3.out) _).mono ?_; rintro e w' ⟨rfl, hg⟩) | (go_at_call 13; refine (Law.awake_any _).mono ?_; rintro e w' ⟨rfl, hg⟩))
    go_ret
    exact ⟨rfl, by (repeat (first | exact Grown.refl _ | assumption | refine grown_trans ?_ (by assumption)))⟩
  · have e1 : two 25 x y = (0, 0) := val_f (b := decide (x < y)) (by simp; omega)
    have e2 : two 25 y z = (1, 0) := val_t (b := decide (y < z)) (by simp; omega)
    have e3 : two 25 x z = (1, 0) := val_t (b := decide (x < z)) (by simp; omega)
    clear a b c
    go_wp2_with (first | (go_at_call 14; refine (Law.two_any _ _ _ (by first | exact h1.out | exact h2.out | exact h3.out) (by first | exact h1.out | exact h2.out | exact h3.out) _).mono ?_; rintro e w' ⟨rfl, hg⟩) | (go_at_call 13; refine (Law.awake_any _).mono ?_; rintro e w' ⟨rfl, hg⟩))
    go_ret
    exact ⟨rfl, by (repeat (first | exact Grown.refl _ | assumption | refine grown_trans ?_ (by assumption)))⟩
  · have e1 : two 25 x y = (0, 0) := val_f (b := decide (x < y)) (by simp; omega)
    have e2 : two 25 y z = (1, 0) := val_t (b := decide (y < z)) (by simp; omega)
    have e3 : two 25 x z = (0, 0) := val_f (b := decide (x < z)) (by simp; omega)
    clear a b c
    go_wp2_with (first | (go_at_call 14; refine (Law.two_any _ _ _ (by first | exact h1.out | exact h2.out | exact h3.out) (by first | exact h1.out | exact h2.out | exact h3.out) _).mono ?_; rintro e w' ⟨rfl, hg⟩) | (go_at_call 13; refine (Law.awake_any _).mono ?_; rintro e w' ⟨rfl, hg⟩))
    go_ret
    exact ⟨rfl, by (repeat (first | exact Grown.refl _ | assumption | refine grown_trans ?_ (by assumption)))⟩
  · have e1 : two 25 x y = (0, 0) := val_f (b := decide (x < y)) (by simp; omega)
    have e2 : two 25 y z = (0, 0) := val_f (b := decide (y < z)) (by simp; omega)
    have e3 : two 25 x z = (1, 0) := val_t (b := decide (x < z)) (by simp; omega)
    clear a b c
    go_wp2_with (first | (go_at_call 14; refine (Law.two_any _ _ _ (by first | exact h1.out | exact h2.out | exact h3.out) (by first | exact h1.out | exact h2.out | exact h3.out) _).mono ?_; rintro e w' ⟨rfl, hg⟩) | (go_at_call 13; refine (Law.awake_any _).mono ?_; rintro e w' ⟨rfl, hg⟩))
    go_ret
    exact ⟨rfl, by (repeat (first | exact Grown.refl _ | assumption | refine grown_trans ?_ (by assumption)))⟩
  · have e1 : two 25 x y = (0, 0) := val_f (b := decide (x < y)) (by simp; omega)
    have e2 : two 25 y z = (0, 0) := val_f (b := decide (y < z)) (by simp; omega)
    have e3 : two 25 x z = (0, 0) := val_f (b := decide (x < z)) (by simp; omega)
    clear a b c
    go_wp2_with (first | (go_at_call 14; refine (Law.two_any _ _ _ (by first | exact h1.out | exact h2.out | exact h3.out) (by first | exact h1.out | exact h2.out | exact h3.out) _).mono ?_; rintro e w' ⟨rfl, hg⟩) | (go_at_call 13; refine (Law.awake_any _).mono ?_; rintro e w' ⟨rfl, hg⟩))
    go_ret
    exact ⟨rfl, by (repeat (first | exact Grown.refl _ | assumption | refine grown_trans ?_ (by assumption)))⟩
/-! ### The walk -/
theorem walk (a0 : Int) (a1 : Int) (a2 : Int) (w0 : (Lit.int .i64 a0).wf = true) (w1 : (Lit.int .i64 a1).wf = true) (w2 : (Lit.int .i64 a2).wf = true) (w : World) :
    Calls Try.prog 7 #[.int .i64 a0, .int .i64 a1, .int .i64 a2] w fun e w' => e = .returned (.bool true) ∧ Grown w w' := by
  exact walkx a0 a1 a2 (wf_fits w0) (wf_fits w1) (wf_fits w2) w

/-! ### THE ROW's STEP: WRITTEN OUT: LEAVE IT -/
set_option maxRecDepth 100000 in
theorem lifted (os : Os) (started : os.Started) (H : Type) (enc : TypeId × Value → H) :
    ReturnsInHanded {} Try.checked os 7 .any (Rows.scalarsOrdersSpec.pre6 enc Try.prog Try.f7 Rows.scalarsOrdersRow.domain false) (Rows.scalarsOrdersSpec.post enc Try.prog Try.f7 false true false false) := by
  refine returnsInHanded_of_change (C := Try.checked) own started (by kernel_rfl) Try.func7
    (ChangeSpec.witness6 (enc := enc) (C := Try.checked) false ⟨#[], #[.int .i64 0, .int .i64 0, .int .i64 0], []⟩ 8 (by kernel_rfl) (by kernel_rfl) (by kernel_rfl) (by kernel_rfl)) ?_
  intro W base args ds gs before hval0 hW hcnd _
  have hval : ∀ (j : Nat) t v, Try.f7.params[j]? = some t → args[j]? = some v → Value.okWide Try.prog W .any base t v := hval0
  have hW' := hW
  obtain ⟨p, q, hA0, hV, rfl, hfz, hnd⟩ := hW
  have hA : DataW.TrodAll enc Try.prog W 0 (fun _ => true) true Try.f7.params.toList args.toList ds p := hA0
  rw [Try.params7] at hA hval
  obtain ⟨v0, vs0, d0, ds0, p0, q0, hargs, rfl, rfl, h0, r0⟩ := trodAll_cons hA
  obtain ⟨v1, vs1, d1, ds1, p1, q1, rfl, rfl, rfl, h1, r1⟩ := trodAll_cons r0
  obtain ⟨v2, vs2, d2, ds2, p2, q2, rfl, rfl, rfl, h2, r2⟩ := trodAll_cons r1
  obtain ⟨rfl, rfl, rfl⟩ := trodAll_nil r2
  obtain rfl : args = #[v0, v1, v2] := by cases args; simp_all
  obtain ⟨rfl, rfl⟩ := trodVars_none hV
  obtain ⟨a0, rfl, rfl, rfl, w0⟩ := open_int Try.underlying2 (hval 0 2 v0 rfl rfl) h0
  obtain ⟨a1, rfl, rfl, rfl, w1⟩ := open_int Try.underlying2 (hval 1 2 v1 rfl rfl) h1
  obtain ⟨a2, rfl, rfl, rfl, w2⟩ := open_int Try.underlying2 (hval 2 2 v2 rfl rfl) h2
  clear hA0 hval0
  simp only [List.append_nil] at hW'
  refine (walk a0 a1 a2 w0 w1 w2 W).mono fun e W' ⟨he, hg⟩ => ?_
  subst he
  exact ⟨_, rfl, post_of_same (pa := []) (pv := []) hW' (fun _ _ _ => (trodAll_cons_mk (shut_bool Try.underlying4 _) trodAll_mk0)) (fun sp _ => (trodAll_cons_mk (shut_int Try.underlying2 w0) (trodAll_cons_mk (shut_int Try.underlying2 w1) (trodAll_cons_mk (shut_int Try.underlying2 w2) trodAll_mk0)))) (fun _ _ => rfl) rfl
    (hg.frame _) hg.2.1 (ok_one (by kernel_rfl) rfl (okWide_bool_mk Try.underlying4 _))⟩

theorem over : Rows.scalarsOrdersRow.holds Try.pinned (OpenSpec.ofChange Rows.scalarsOrdersSpec) :=
  OpenClaim.holds_of_wide 7 Try.f7 rfl rfl rfl rfl rfl rfl rfl ⟨rfl, rfl, rfl, rfl, rfl⟩ rfl rfl rfl rfl rfl (by kernel_rfl) Try.func7 (by kernel_rfl)
    (of_decide_eq_true (by kernel_rfl)) (by unfold Func.isWrapper; first | (rw [if_pos (by decide +kernel)]; kernel_rfl) | (rw [if_neg (by decide +kernel)]; exact ⟨rfl, rfl⟩))
    (fun os started H enc _ => lifted os started H enc)

/-- the statement -/
theorem proved : Rows.ScalarsOrdersSaid :=
  over
#print axioms proved
end Go.Proofs.Ytdpeaimnbgdkeaa.scalarsOrders
