/-
The laws of chapter 9 in plain integers: no program in sight.
-/
import Derived.Test.YtfpnafeildigaaaScMath
set_option linter.unusedSimpArgs false
set_option linter.unusedVariables false
namespace Go.Proofs.Ytfpnafeildigaaa
namespace Sc
open Go.RowKit

theorem e_two_15 (x y : Int) : two 15 x y = chk (x + y) := rfl
theorem e_two_16 (x y : Int) : two 16 x y = chk (x - y) := rfl
theorem e_two_17 (x y : Int) : two 17 x y = chk (x * y) := rfl
theorem chk_eq {a z : Int} (h : a = z) (hz : Fits z) : chk a = (z, 0) := by rw [h]; exact chk_in hz
theorem fmod_ways {x y : Int} (h0 : y ≠ 0) : (0 < y ∧ 0 ≤ x.fmod y ∧ x.fmod y < y) ∨ (y < 0 ∧ y < x.fmod y ∧ x.fmod y ≤ 0) := by
  obtain ⟨e, b⟩ := dm_of (x := x) h0
  omega
theorem fdiv_back {x y : Int} (hx : Fits x) : wrap64 (wrap64 (y * x.fdiv y) + x.fmod y) = x := by
  have e := Int.fdiv_mul_add_fmod x y
  rw [Int.mul_comm] at e
  generalize y * x.fdiv y = m at *
  unfold Fits at hx
  unfold wrap64
  omega
theorem mul_div {x y : Int} (hx : Fits x) (hy : Fits y) (h : Fits (x * y)) (h0 : y ≠ 0) : two 18 (x * y) y = (x, 0) := by
  have e : (x * y).fdiv y = x := dm_fdiv (r := 0) h0 ⟨by omega, by omega⟩
  rw [m_two_18 h hy h0, e]
  rintro ⟨a, rfl⟩
  unfold Fits at hx; omega
theorem mul_mod {x y : Int} (h0 : y ≠ 0) : two 19 (x * y) y = (0, 0) := by
  have e : (x * y).fmod y = 0 := dm_fmod (q := x) h0 ⟨by omega, by omega⟩
  rw [m_two_19 h0, e]
theorem chk_fits (z : Int) : Fits (chk z).1 := by
  unfold chk
  by_cases h : Fits z
  · rw [if_pos h]; exact h
  · rw [if_neg h]; exact (by decide : Fits 0)
theorem tr_fits (b : Bool) : Fits (tr b) := by cases b <;> decide
theorem clamp_fits (z : Int) : Fits (clamp z) := by unfold clamp Fits; split <;> (try split) <;> omega
/-- a result is a number of 64 bits -/
theorem two_fits {p x y : Int} (hx : Fits x) (hy : Fits y) : Fits (two p x y).1 := by
  by_cases hp : p < 15 ∨ 33 ≤ p
  · rw [two_none hp]; exact (by decide : Fits 0)
  have hp' : p = 15 ∨ p = 16 ∨ p = 17 ∨ p = 18 ∨ p = 19 ∨ p = 20 ∨ p = 21 ∨ p = 22 ∨ p = 23 ∨ p = 24 ∨ p = 25 ∨ p = 26 ∨ p = 27 ∨ p = 28 ∨ p = 29 ∨ p = 30 ∨ p = 31 ∨ p = 32 := by omega
  rcases hp' with rfl | rfl | rfl | rfl | rfl | rfl | rfl | rfl | rfl | rfl | rfl | rfl | rfl | rfl | rfl | rfl | rfl | rfl
  · exact chk_fits _
  · exact chk_fits _
  · exact chk_fits _
  · by_cases h : y = 0
    · subst h; exact (by decide : Fits 0)
    · have e : two 18 x y = chk (x.fdiv y) := by unfold two; simp [h]
      rw [e]; exact chk_fits _
  · by_cases h : y = 0
    · subst h; exact (by decide : Fits 0)
    · rw [m_two_19 h]; exact fmod_fits hy h
  · exact clamp_fits _
  · exact clamp_fits _
  · exact clamp_fits _
  · exact tr_fits _
  · exact tr_fits _
  · exact tr_fits _
  · exact tr_fits _
  · exact tr_fits _
  · exact tr_fits _
  · exact tr_fits _
  · exact tr_fits _
  · show Fits (min x y); unfold Fits at *; omega
  · show Fits (max x y); unfold Fits at *; omega
def nofit (z : Int) : Bool := !decide (Fits z)
theorem nofit_t {z : Int} (h : ¬ Fits z) : nofit z = true := by unfold nofit; rw [decide_eq_false h]; rfl
theorem nofit_f {z : Int} (h : Fits z) : nofit z = false := by unfold nofit; rw [decide_eq_true h]; rfl
/-- a value of a comparison -/
theorem val_t {b : Bool} (h : b = true) : (tr b, (0 : Int)) = (1, 0) := by rw [h]; rfl
theorem val_f {b : Bool} (h : b = false) : (tr b, (0 : Int)) = (0, 0) := by rw [h]; rfl
theorem mod_add {x y : Int} (h0 : y ≠ 0) : (x + y).fmod y = x.fmod y := by
  obtain ⟨e, b⟩ := dm_of (x := x) h0
  exact dm_fmod (q := x.fdiv y + 1) h0 ⟨by rw [Int.add_mul]; omega, b⟩
end Sc
end Go.Proofs.Ytfpnafeildigaaa
