/-
Contracts of the law's own functions two, is and awake (chapter 9).
-/
import Derived.Test.YtdpeaimnbgdkeaaScD
import Derived.Test.YtdpeaimnbgdkeaaScT
set_option linter.unusedSimpArgs false
set_option linter.unusedVariables false
namespace Go.Proofs.Ytdpeaimnbgdkeaa
namespace Sc
open Go.RowKit Go.Lib
namespace Law

abbrev retIB (z : Int) (b : Bool) : Ending := .returned (.tuple #[.int .i64 z, .bool b])
theorem two_any (p x y : Int) (hx : Fits x) (hy : Fits y) (w : World) : Calls Try.prog 14 #[.int .i64 p, .int .i64 x, .int .i64 y] w fun e w' => e = retIB (two p x y).1 ((two p x y).2 == 0) ∧ Grown w w' := by
  have hx' := hide hx; have hy' := hide hy; clear hx hy
  go_enter Try.func14, Try.ntmps14
  go_wp2_with (first | (go_at_call 11; refine (Two_any _ _ _ hx'.out hy'.out _).mono ?_; rintro e w' ⟨rfl, hg⟩))
  go_ret2
  exact ⟨rfl, by (repeat (first | exact Grown.refl _ | assumption | refine grown_trans ?_ (by assumption)))⟩
theorem two_of (p x y : Int) (hx : Fits x) (hy : Fits y) (z c : Int) (h : two p x y = (z, c)) (b : Bool) (hb : (c == 0) = b) (w : World) : Calls Try.prog 14 #[.int .i64 p, .int .i64 x, .int .i64 y] w fun e w' => e = retIB z b ∧ Grown w w' := by
  have := two_any p x y hx hy w
  rw [h, hb] at this
  exact this
theorem is_true (p x y : Int) (hx : Fits x) (hy : Fits y) (z : Int) (h : two p x y = (z, 0)) (w : World) : Calls Try.prog 15 #[.int .i64 p, .int .i64 x, .int .i64 y, .int .i64 z] w fun e w' => e = .returned (.bool true) ∧ Grown w w' := by
  have hx' := hide hx; have hy' := hide hy; have h' := hide h; clear hx hy h
  go_enter Try.func15, Try.ntmps15
  go_wp2_with (go_at_call 11; refine (Two_any _ _ _ hx'.out hy'.out _).mono ?_; rw [h'.out]; rintro e w' ⟨rfl, hg⟩)
  go_ret
  exact ⟨rfl, by (repeat (first | exact Grown.refl _ | assumption | refine grown_trans ?_ (by assumption)))⟩
set_option maxHeartbeats 1000000 in
theorem awake_any (w : World) : Calls Try.prog 13 #[] w fun e w' => e = .returned (.bool true) ∧ Grown w w' := by
  have t1 : two 18 (-9223372036854775808) (-1) = (0, 12) := by decide
  have t2 : two 17 4294967296 2147483648 = (0, 12) := by decide
  have t3 : two 18 1 0 = (0, 13) := by decide
  have t4 : one 1 (-9223372036854775808) = (0, 12) := by decide
  have t5 : one 3 3 = (0, 0) := by decide
  go_enter Try.func13, Try.ntmps13
  go_wp2_with (first | (go_at_call 11; refine (Two_any _ _ _ (by decide) (by decide) _).mono ?_; simp only [t1, t2, t3]; rintro e w' ⟨rfl, hg⟩) | (go_at_call 16; refine (One_any _ _ (by decide) _).mono ?_; simp only [t4, t5]; rintro e w' ⟨rfl, hg⟩) | (go_at_call 15; refine (is_true _ _ _ (by decide) (by decide) _ (by decide) _).mono ?_; rintro e w' ⟨rfl, hg⟩))
  go_ret
  exact ⟨rfl, by (repeat (first | exact Grown.refl _ | assumption | refine grown_trans ?_ (by assumption)))⟩
end Law
end Sc
end Go.Proofs.Ytdpeaimnbgdkeaa
