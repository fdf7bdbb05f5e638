/-
and, or and not obey the rules of truth: for every input, without a condition.
-/
import Derived.Test.YtdpeaimnbgdkeaaRows
import Derived.Test.YtdpeaimnbgdkeaaScL
import Derived.Test.YtdpeaimnbgdkeaaScE
import Derived.Test.YtdpeaimnbgdkeaaScLaws
import Derived.WalkKit
import Derived.ProofKit
import Derived.OpenShut
import Derived.Deep.DeepCutAuto
set_option linter.unusedSimpArgs false
namespace Go.Proofs.Ytdpeaimnbgdkeaa.scalarsTruth
open Go.ChangeShapes Go.WideShapes Go.ChangeAt Go.RowKit
set_option linter.unusedVariables false      -- a walk need not use every 'w<i>' (that an integer argument fits its kind)

open Go.Proofs.Ytdpeaimnbgdkeaa.Sc
theorem own : ownKnob Try.prog.godebug = none := by kernel_rfl

set_option maxRecDepth 100000 in
set_option maxHeartbeats 1000000 in
theorem walkx (x y z : Int) (hx : Fits x) (hy : Fits y) (hz : Fits z) (w : World) : Calls Try.prog 8 #[.int .i64 x, .int .i64 y, .int .i64 z] w fun e w' => e = .returned (.bool true) ∧ Grown w w' := by
  have h1 := hide hx; have h2 := hide hy; have h3 := hide hz
  clear hx hy hz
  go_enter Try.func8, Try.ntmps8
  by_cases bx : x = 0 <;> by_cases by' : y = 0 <;> by_cases bz : z = 0
  · subst bx
    subst by'
    subst bz
    have e1 : one 3 0 = (1, 0) := rfl
    have e2 : one 3 1 = (0, 0) := rfl
    have e3 : two 29 0 0 = (0, 0) := rfl
    have e4 : two 29 0 1 = (0, 0) := rfl
    have e5 : two 29 1 0 = (0, 0) := rfl
    have e6 : two 29 1 1 = (1, 0) := rfl
    have e7 : two 30 0 0 = (0, 0) := rfl
    have e8 : two 30 0 1 = (1, 0) := rfl
    have e9 : two 30 1 0 = (1, 0) := rfl
    have e10 : two 30 1 1 = (1, 0) := rfl
    go_wp2_with (first | (go_at_call 16; refine (One_any _ _ (by first | exact h1.out | exact h2.out | exact h3.out | decide) _).mono ?_; rintro e w' ⟨rfl, hg⟩) | (go_at_call 14; refine (Law.two_any _ _ _ (by first | exact h1.out | exact h2.out | exact h3.out | decide) (by first | exact h1.out | exact h2.out | exact h3.out | decide) _).mono ?_; rintro e w' ⟨rfl, hg⟩) | (go_at_call 15; refine (Law.is_true _ _ _ (by first | exact h1.out | exact h2.out | exact h3.out | decide) (by first | exact h1.out | exact h2.out | exact h3.out | decide) _ (by first | assumption | decide) _).mono ?_; rintro e w' ⟨rfl, hg⟩) | (go_at_call 13; refine (Law.awake_any _).mono ?_; rintro e w' ⟨rfl, hg⟩))
    go_ret
    exact ⟨rfl, by (repeat (first | exact Grown.refl _ | assumption | refine grown_trans ?_ (by assumption)))⟩
  · subst bx
    subst by'
    have nz : (z != 0) = true := by simpa using bz
    have mz : (z == 0) = false := by simpa using bz
    clear bz
    have e1 : two 29 0 z = (0, 0) := val_f (by simp [nz])
    have e2 : one 3 0 = (1, 0) := rfl
    have e3 : one 3 1 = (0, 0) := rfl
    have e4 : two 29 0 0 = (0, 0) := rfl
    have e5 : two 29 0 1 = (0, 0) := rfl
    have e6 : two 29 1 0 = (0, 0) := rfl
    have e7 : two 29 1 1 = (1, 0) := rfl
    have e8 : two 30 0 0 = (0, 0) := rfl
    have e9 : two 30 0 1 = (1, 0) := rfl
    have e10 : two 30 1 0 = (1, 0) := rfl
    have e11 : two 30 1 1 = (1, 0) := rfl
    clear nz mz
    go_wp2_with (first | (go_at_call 16; refine (One_any _ _ (by first | exact h1.out | exact h2.out | exact h3.out | decide) _).mono ?_; rintro e w' ⟨rfl, hg⟩) | (go_at_call 14; refine (Law.two_any _ _ _ (by first | exact h1.out | exact h2.out | exact h3.out | decide) (by first | exact h1.out | exact h2.out | exact h3.out | decide) _).mono ?_; rintro e w' ⟨rfl, hg⟩) | (go_at_call 15; refine (Law.is_true _ _ _ (by first | exact h1.out | exact h2.out | exact h3.out | decide) (by first | exact h1.out | exact h2.out | exact h3.out | decide) _ (by first | assumption | decide) _).mono ?_; rintro e w' ⟨rfl, hg⟩) | (go_at_call 13; refine (Law.awake_any _).mono ?_; rintro e w' ⟨rfl, hg⟩))
    go_ret
    exact ⟨rfl, by (repeat (first | exact Grown.refl _ | assumption | refine grown_trans ?_ (by assumption)))⟩
  · subst bx
    have ny : (y != 0) = true := by simpa using by'
    have my : (y == 0) = false := by simpa using by'
    clear by'
    subst bz
    have e1 : two 29 0 y = (0, 0) := val_f (by simp [ny])
    have e2 : two 30 0 y = (1, 0) := val_t (by simp [ny])
    have e3 : two 29 y 0 = (0, 0) := val_f (by simp [ny])
    have e4 : two 30 y 0 = (1, 0) := val_t (by simp [ny])
    have e5y : one 3 y = (0, 0) := val_f my
    have e6 : one 3 0 = (1, 0) := rfl
    have e7 : one 3 1 = (0, 0) := rfl
    have e8 : two 29 0 0 = (0, 0) := rfl
    have e9 : two 29 0 1 = (0, 0) := rfl
    have e10 : two 29 1 0 = (0, 0) := rfl
    have e11 : two 29 1 1 = (1, 0) := rfl
    have e12 : two 30 0 0 = (0, 0) := rfl
    have e13 : two 30 0 1 = (1, 0) := rfl
    have e14 : two 30 1 0 = (1, 0) := rfl
    have e15 : two 30 1 1 = (1, 0) := rfl
    clear ny my
    go_wp2_with (first | (go_at_call 16; refine (One_any _ _ (by first | exact h1.out | exact h2.out | exact h3.out | decide) _).mono ?_; rintro e w' ⟨rfl, hg⟩) | (go_at_call 14; refine (Law.two_any _ _ _ (by first | exact h1.out | exact h2.out | exact h3.out | decide) (by first | exact h1.out | exact h2.out | exact h3.out | decide) _).mono ?_; rintro e w' ⟨rfl, hg⟩) | (go_at_call 15; refine (Law.is_true _ _ _ (by first | exact h1.out | exact h2.out | exact h3.out | decide) (by first | exact h1.out | exact h2.out | exact h3.out | decide) _ (by first | assumption | decide) _).mono ?_; rintro e w' ⟨rfl, hg⟩) | (go_at_call 13; refine (Law.awake_any _).mono ?_; rintro e w' ⟨rfl, hg⟩))
    go_ret
    exact ⟨rfl, by (repeat (first | exact Grown.refl _ | assumption | refine grown_trans ?_ (by assumption)))⟩
  · subst bx
    have ny : (y != 0) = true := by simpa using by'
    have my : (y == 0) = false := by simpa using by'
    clear by'
    have nz : (z != 0) = true := by simpa using bz
    have mz : (z == 0) = false := by simpa using bz
    clear bz
    have e1 : two 29 0 y = (0, 0) := val_f (by simp [ny, nz])
    have e2 : two 30 0 y = (1, 0) := val_t (by simp [ny, nz])
    have e3 : two 29 0 z = (0, 0) := val_f (by simp [ny, nz])
    have e4 : two 29 y z = (1, 0) := val_t (by simp [ny, nz])
    have e5 : two 29 y 0 = (0, 0) := val_f (by simp [ny, nz])
    have e6 : two 30 y 0 = (1, 0) := val_t (by simp [ny, nz])
    have e7y : one 3 y = (0, 0) := val_f my
    have e8 : one 3 0 = (1, 0) := rfl
    have e9 : one 3 1 = (0, 0) := rfl
    have e10 : two 29 0 0 = (0, 0) := rfl
    have e11 : two 29 0 1 = (0, 0) := rfl
    have e12 : two 29 1 0 = (0, 0) := rfl
    have e13 : two 29 1 1 = (1, 0) := rfl
    have e14 : two 30 0 0 = (0, 0) := rfl
    have e15 : two 30 0 1 = (1, 0) := rfl
    have e16 : two 30 1 0 = (1, 0) := rfl
    have e17 : two 30 1 1 = (1, 0) := rfl
    clear ny my
    clear nz mz
    go_wp2_with (first | (go_at_call 16; refine (One_any _ _ (by first | exact h1.out | exact h2.out | exact h3.out | decide) _).mono ?_; rintro e w' ⟨rfl, hg⟩) | (go_at_call 14; refine (Law.two_any _ _ _ (by first | exact h1.out | exact h2.out | exact h3.out | decide) (by first | exact h1.out | exact h2.out | exact h3.out | decide) _).mono ?_; rintro e w' ⟨rfl, hg⟩) | (go_at_call 15; refine (Law.is_true _ _ _ (by first | exact h1.out | exact h2.out | exact h3.out | decide) (by first | exact h1.out | exact h2.out | exact h3.out | decide) _ (by first | assumption | decide) _).mono ?_; rintro e w' ⟨rfl, hg⟩) | (go_at_call 13; refine (Law.awake_any _).mono ?_; rintro e w' ⟨rfl, hg⟩))
    go_ret
    exact ⟨rfl, by (repeat (first | exact Grown.refl _ | assumption | refine grown_trans ?_ (by assumption)))⟩
  · have nx : (x != 0) = true := by simpa using bx
    have mx : (x == 0) = false := by simpa using bx
    clear bx
    subst by'
    subst bz
    have e1 : two 29 x 0 = (0, 0) := val_f (by simp [nx])
    have e2 : two 30 x 0 = (1, 0) := val_t (by simp [nx])
    have e3 : two 29 0 x = (0, 0) := val_f (by simp [nx])
    have e4 : two 30 0 x = (1, 0) := val_t (by simp [nx])
    have e5 : two 29 x x = (1, 0) := val_t (by simp [nx])
    have e6x : one 3 x = (0, 0) := val_f mx
    have e7 : one 3 0 = (1, 0) := rfl
    have e8 : one 3 1 = (0, 0) := rfl
    have e9 : two 29 0 0 = (0, 0) := rfl
    have e10 : two 29 0 1 = (0, 0) := rfl
    have e11 : two 29 1 0 = (0, 0) := rfl
    have e12 : two 29 1 1 = (1, 0) := rfl
    have e13 : two 30 0 0 = (0, 0) := rfl
    have e14 : two 30 0 1 = (1, 0) := rfl
    have e15 : two 30 1 0 = (1, 0) := rfl
    have e16 : two 30 1 1 = (1, 0) := rfl
    go_wp2_with (first | (go_at_call 16; refine (One_any _ _ (by first | exact h1.out | exact h2.out | exact h3.out | decide) _).mono ?_; rintro e w' ⟨rfl, hg⟩) | (go_at_call 14; refine (Law.two_any _ _ _ (by first | exact h1.out | exact h2.out | exact h3.out | decide) (by first | exact h1.out | exact h2.out | exact h3.out | decide) _).mono ?_; rintro e w' ⟨rfl, hg⟩) | (go_at_call 15; refine (Law.is_true _ _ _ (by first | exact h1.out | exact h2.out | exact h3.out | decide) (by first | exact h1.out | exact h2.out | exact h3.out | decide) _ (by first | assumption | decide) _).mono ?_; rintro e w' ⟨rfl, hg⟩) | (go_at_call 13; refine (Law.awake_any _).mono ?_; rintro e w' ⟨rfl, hg⟩))
    go_ret
    exact ⟨rfl, by (repeat (first | exact Grown.refl _ | assumption | refine grown_trans ?_ (by assumption)))⟩
  · have nx : (x != 0) = true := by simpa using bx
    have mx : (x == 0) = false := by simpa using bx
    clear bx
    subst by'
    have nz : (z != 0) = true := by simpa using bz
    have mz : (z == 0) = false := by simpa using bz
    clear bz
    have e1 : two 29 x 0 = (0, 0) := val_f (by simp [nx, nz])
    have e2 : two 30 x 0 = (1, 0) := val_t (by simp [nx, nz])
    have e3 : two 29 0 z = (0, 0) := val_f (by simp [nx, nz])
    have e4 : two 29 0 x = (0, 0) := val_f (by simp [nx, nz])
    have e5 : two 30 0 x = (1, 0) := val_t (by simp [nx, nz])
    have e6 : two 29 x x = (1, 0) := val_t (by simp [nx, nz])
    have e7x : one 3 x = (0, 0) := val_f mx
    have e8 : one 3 0 = (1, 0) := rfl
    have e9 : one 3 1 = (0, 0) := rfl
    have e10 : two 29 0 0 = (0, 0) := rfl
    have e11 : two 29 0 1 = (0, 0) := rfl
    have e12 : two 29 1 0 = (0, 0) := rfl
    have e13 : two 29 1 1 = (1, 0) := rfl
    have e14 : two 30 0 0 = (0, 0) := rfl
    have e15 : two 30 0 1 = (1, 0) := rfl
    have e16 : two 30 1 0 = (1, 0) := rfl
    have e17 : two 30 1 1 = (1, 0) := rfl
    clear nz mz
    go_wp2_with (first | (go_at_call 16; refine (One_any _ _ (by first | exact h1.out | exact h2.out | exact h3.out | decide) _).mono ?_; rintro e w' ⟨rfl, hg⟩) | (go_at_call 14; refine (Law.two_any _ _ _ (by first | exact h1.out | exact h2.out | exact h3.out | decide) (by first | exact h1.out | exact h2.out | exact h3.out | decide) _).mono ?_; rintro e w' ⟨rfl, hg⟩) | (go_at_call 15; refine (Law.is_true _ _ _ (by first | exact h1.out | exact h2.out | exact h3.out | decide) (by first | exact h1.out | exact h2.out | exact h3.out | decide) _ (by first | assumption | decide) _).mono ?_; rintro e w' ⟨rfl, hg⟩) | (go_at_call 13; refine (Law.awake_any _).mono ?_; rintro e w' ⟨rfl, hg⟩))
    go_ret
    exact ⟨rfl, by (repeat (first | exact Grown.refl _ | assumption | refine grown_trans ?_ (by assumption)))⟩
  · have nx : (x != 0) = true := by simpa using bx
    have mx : (x == 0) = false := by simpa using bx
    clear bx
    have ny : (y != 0) = true := by simpa using by'
    have my : (y == 0) = false := by simpa using by'
    clear by'
    subst bz
    have e1 : two 29 x y = (1, 0) := val_t (by simp [nx, ny])
    have e2 : two 30 x y = (1, 0) := val_t (by simp [nx, ny])
    have e3 : two 29 y 0 = (0, 0) := val_f (by simp [nx, ny])
    have e4 : two 29 x 0 = (0, 0) := val_f (by simp [nx, ny])
    have e5 : two 29 y x = (1, 0) := val_t (by simp [nx, ny])
    have e6 : two 30 y x = (1, 0) := val_t (by simp [nx, ny])
    have e7 : two 29 x x = (1, 0) := val_t (by simp [nx, ny])
    have e8 : two 30 x 0 = (1, 0) := val_t (by simp [nx, ny])
    have e9x : one 3 x = (0, 0) := val_f mx
    have e10y : one 3 y = (0, 0) := val_f my
    have e11 : one 3 0 = (1, 0) := rfl
    have e12 : one 3 1 = (0, 0) := rfl
    have e13 : two 29 0 0 = (0, 0) := rfl
    have e14 : two 29 0 1 = (0, 0) := rfl
    have e15 : two 29 1 0 = (0, 0) := rfl
    have e16 : two 29 1 1 = (1, 0) := rfl
    have e17 : two 30 0 0 = (0, 0) := rfl
    have e18 : two 30 0 1 = (1, 0) := rfl
    have e19 : two 30 1 0 = (1, 0) := rfl
    have e20 : two 30 1 1 = (1, 0) := rfl
    clear ny my
    go_wp2_with (first | (go_at_call 16; refine (One_any _ _ (by first | exact h1.out | exact h2.out | exact h3.out | decide) _).mono ?_; rintro e w' ⟨rfl, hg⟩) | (go_at_call 14; refine (Law.two_any _ _ _ (by first | exact h1.out | exact h2.out | exact h3.out | decide) (by first | exact h1.out | exact h2.out | exact h3.out | decide) _).mono ?_; rintro e w' ⟨rfl, hg⟩) | (go_at_call 15; refine (Law.is_true _ _ _ (by first | exact h1.out | exact h2.out | exact h3.out | decide) (by first | exact h1.out | exact h2.out | exact h3.out | decide) _ (by first | assumption | decide) _).mono ?_; rintro e w' ⟨rfl, hg⟩) | (go_at_call 13; refine (Law.awake_any _).mono ?_; rintro e w' ⟨rfl, hg⟩))
    go_ret
    exact ⟨rfl, by (repeat (first | exact Grown.refl _ | assumption | refine grown_trans ?_ (by assumption)))⟩
  · have nx : (x != 0) = true := by simpa using bx
    have mx : (x == 0) = false := by simpa using bx
    clear bx
    have ny : (y != 0) = true := by simpa using by'
    have my : (y == 0) = false := by simpa using by'
    clear by'
    have nz : (z != 0) = true := by simpa using bz
    have mz : (z == 0) = false := by simpa using bz
    clear bz
    have e1 : two 29 x y = (1, 0) := val_t (by simp [nx, ny, nz])
    have e2 : two 30 x y = (1, 0) := val_t (by simp [nx, ny, nz])
    have e3 : two 29 1 z = (1, 0) := val_t (by simp [nx, ny, nz])
    have e4 : two 29 y z = (1, 0) := val_t (by simp [nx, ny, nz])
    have e5 : two 29 x 1 = (1, 0) := val_t (by simp [nx, ny, nz])
    have e6 : two 29 y x = (1, 0) := val_t (by simp [nx, ny, nz])
    have e7 : two 30 y x = (1, 0) := val_t (by simp [nx, ny, nz])
    have e8 : two 29 x x = (1, 0) := val_t (by simp [nx, ny, nz])
    have e9 : two 30 x 0 = (1, 0) := val_t (by simp [nx, ny, nz])
    have e10x : one 3 x = (0, 0) := val_f mx
    have e11y : one 3 y = (0, 0) := val_f my
    have e12 : one 3 0 = (1, 0) := rfl
    have e13 : one 3 1 = (0, 0) := rfl
    have e14 : two 29 0 0 = (0, 0) := rfl
    have e15 : two 29 0 1 = (0, 0) := rfl
    have e16 : two 29 1 0 = (0, 0) := rfl
    have e17 : two 29 1 1 = (1, 0) := rfl
    have e18 : two 30 0 0 = (0, 0) := rfl
    have e19 : two 30 0 1 = (1, 0) := rfl
    have e20 : two 30 1 0 = (1, 0) := rfl
    have e21 : two 30 1 1 = (1, 0) := rfl
    clear ny my
    clear nz mz
    go_wp2_with (first | (go_at_call 16; refine (One_any _ _ (by first | exact h1.out | exact h2.out | exact h3.out | decide) _).mono ?_; rintro e w' ⟨rfl, hg⟩) | (go_at_call 14; refine (Law.two_any _ _ _ (by first | exact h1.out | exact h2.out | exact h3.out | decide) (by first | exact h1.out | exact h2.out | exact h3.out | decide) _).mono ?_; rintro e w' ⟨rfl, hg⟩) | (go_at_call 15; refine (Law.is_true _ _ _ (by first | exact h1.out | exact h2.out | exact h3.out | decide) (by first | exact h1.out | exact h2.out | exact h3.out | decide) _ (by first | assumption | decide) _).mono ?_; rintro e w' ⟨rfl, hg⟩) | (go_at_call 13; refine (Law.awake_any _).mono ?_; rintro e w' ⟨rfl, hg⟩))
    go_ret
    exact ⟨rfl, by (repeat (first | exact Grown.refl _ | assumption | refine grown_trans ?_ (by assumption)))⟩
/-! ### The walk -/
theorem walk (a0 : Int) (a1 : Int) (a2 : Int) (w0 : (Lit.int .i64 a0).wf = true) (w1 : (Lit.int .i64 a1).wf = true) (w2 : (Lit.int .i64 a2).wf = true) (w : World) :
    Calls Try.prog 8 #[.int .i64 a0, .int .i64 a1, .int .i64 a2] w fun e w' => e = .returned (.bool true) ∧ Grown w w' := by
  exact walkx a0 a1 a2 (wf_fits w0) (wf_fits w1) (wf_fits w2) w

/-! ### THE ROW's STEP: WRITTEN OUT: LEAVE IT -/
set_option maxRecDepth 100000 in
theorem lifted (os : Os) (started : os.Started) (H : Type) (enc : TypeId × Value → H) :
    ReturnsInHanded {} Try.checked os 8 .any (Rows.scalarsTruthSpec.pre6 enc Try.prog Try.f8 Rows.scalarsTruthRow.domain false) (Rows.scalarsTruthSpec.post enc Try.prog Try.f8 false true false false) := by
  refine returnsInHanded_of_change (C := Try.checked) own started (by kernel_rfl) Try.func8
    (ChangeSpec.witness6 (enc := enc) (C := Try.checked) false ⟨#[], #[.int .i64 0, .int .i64 0, .int .i64 0], []⟩ 8 (by kernel_rfl) (by kernel_rfl) (by kernel_rfl) (by kernel_rfl)) ?_
  intro W base args ds gs before hval0 hW hcnd _
  have hval : ∀ (j : Nat) t v, Try.f8.params[j]? = some t → args[j]? = some v → Value.okWide Try.prog W .any base t v := hval0
  have hW' := hW
  obtain ⟨p, q, hA0, hV, rfl, hfz, hnd⟩ := hW
  have hA : DataW.TrodAll enc Try.prog W 0 (fun _ => true) true Try.f8.params.toList args.toList ds p := hA0
  rw [Try.params8] at hA hval
  obtain ⟨v0, vs0, d0, ds0, p0, q0, hargs, rfl, rfl, h0, r0⟩ := trodAll_cons hA
  obtain ⟨v1, vs1, d1, ds1, p1, q1, rfl, rfl, rfl, h1, r1⟩ := trodAll_cons r0
  obtain ⟨v2, vs2, d2, ds2, p2, q2, rfl, rfl, rfl, h2, r2⟩ := trodAll_cons r1
  obtain ⟨rfl, rfl, rfl⟩ := trodAll_nil r2
  obtain rfl : args = #[v0, v1, v2] := by cases args; simp_all
  obtain ⟨rfl, rfl⟩ := trodVars_none hV
  obtain ⟨a0, rfl, rfl, rfl, w0⟩ := open_int Try.underlying2 (hval 0 2 v0 rfl rfl) h0
  obtain ⟨a1, rfl, rfl, rfl, w1⟩ := open_int Try.underlying2 (hval 1 2 v1 rfl rfl) h1
  obtain ⟨a2, rfl, rfl, rfl, w2⟩ := open_int Try.underlying2 (hval 2 2 v2 rfl rfl) h2
  clear hA0 hval0
  simp only [List.append_nil] at hW'
  refine (walk a0 a1 a2 w0 w1 w2 W).mono fun e W' ⟨he, hg⟩ => ?_
  subst he
  exact ⟨_, rfl, post_of_same (pa := []) (pv := []) hW' (fun _ _ _ => (trodAll_cons_mk (shut_bool Try.underlying4 _) trodAll_mk0)) (fun sp _ => (trodAll_cons_mk (shut_int Try.underlying2 w0) (trodAll_cons_mk (shut_int Try.underlying2 w1) (trodAll_cons_mk (shut_int Try.underlying2 w2) trodAll_mk0)))) (fun _ _ => rfl) rfl
    (hg.frame _) hg.2.1 (ok_one (by kernel_rfl) rfl (okWide_bool_mk Try.underlying4 _))⟩

theorem over : Rows.scalarsTruthRow.holds Try.pinned (OpenSpec.ofChange Rows.scalarsTruthSpec) :=
  OpenClaim.holds_of_wide 8 Try.f8 rfl rfl rfl rfl rfl rfl rfl ⟨rfl, rfl, rfl, rfl, rfl⟩ rfl rfl rfl rfl rfl (by kernel_rfl) Try.func8 (by kernel_rfl)
    (of_decide_eq_true (by kernel_rfl)) (by unfold Func.isWrapper; first | (rw [if_pos (by decide +kernel)]; kernel_rfl) | (rw [if_neg (by decide +kernel)]; exact ⟨rfl, rfl⟩))
    (fun os started H enc _ => lifted os started H enc)

/-- the statement -/
theorem proved : Rows.ScalarsTruthSaid :=
  over
#print axioms proved
end Go.Proofs.Ytdpeaimnbgdkeaa.scalarsTruth
