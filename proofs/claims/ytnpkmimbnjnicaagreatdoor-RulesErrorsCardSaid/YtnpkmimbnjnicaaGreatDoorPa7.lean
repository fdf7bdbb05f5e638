/-
What Fits finds among lines is what the reference says (chapter 12).
-/
import Derived.Test.YtnpkmimbnjnicaaGreatDoorPa6
import Derived.Test.YtnpkmimbnjnicaaGreatDoorPa3
set_option linter.unusedSimpArgs false
set_option linter.unusedVariables false
namespace Go.Proofs.YtnpkmimbnjnicaaGreatDoor
namespace Pr
open Go Go.RowKit En
def rFitsF (p : Int) (ks rs : List Int) : Int × Int × Int := if rKinds p ks = true then (if rRanks p rs < 0 then (0, 0, 22) else (rKind p ks, rRanks p rs, 0)) else (0, 0, 21)
set_option maxRecDepth 10000 in
set_option maxHeartbeats 4000000 in
theorem fitsF1 (p : Int) (hp : 1 ≤ p ∧ p ≤ 14) (k r : Int) : fitsF [k] [r] (linesAt p) 21 = rFitsF p [k] [r] := by
  have hc : p = 1 ∨ p = 2 ∨ p = 3 ∨ p = 4 ∨ p = 5 ∨ p = 6 ∨ p = 7 ∨ p = 8 ∨ p = 9 ∨ p = 10 ∨ p = 11 ∨ p = 12 ∨ p = 13 ∨ p = 14 := by omega
  rcases hc with rfl | rfl | rfl | rfl | rfl | rfl | rfl | rfl | rfl | rfl | rfl | rfl | rfl | rfl
  all_goals
    simp [linesAt, pLines, fitsF, matchM, matchF, stepM, rFitsF, rKinds, rInts, okK, rRanks, rTab1, badR, pickRank, rKind, Bool.cond_eq_ite]
    try grind
set_option maxRecDepth 10000 in
set_option maxHeartbeats 4000000 in
theorem fitsF2 (p : Int) (hp : 15 ≤ p ∧ p ≤ 40) (k l r s : Int) : fitsF [k, l] [r, s] (linesAt p) 21 = rFitsF p [k, l] [r, s] := by
  have hc : p = 15 ∨ p = 16 ∨ p = 17 ∨ p = 18 ∨ p = 19 ∨ p = 20 ∨ p = 21 ∨ p = 22 ∨ p = 23 ∨ p = 24 ∨ p = 25 ∨ p = 26 ∨ p = 27 ∨ p = 28 ∨ p = 29 ∨ p = 30 ∨ p = 31 ∨ p = 32 ∨ p = 33 ∨ p = 34 ∨ p = 35 ∨ p = 36 ∨ p = 37 ∨ p = 38 ∨ p = 39 ∨ p = 40 := by omega
  rcases hc with rfl | rfl | rfl | rfl | rfl | rfl | rfl | rfl | rfl | rfl | rfl | rfl | rfl | rfl | rfl | rfl | rfl | rfl | rfl | rfl | rfl | rfl | rfl | rfl | rfl | rfl
  all_goals
    simp [linesAt, pLines, fitsF, matchM, matchF, stepM, rFitsF, rKinds, rInts, okK, rRanks, rTab2, badR, pickRank, rKind, Bool.cond_eq_ite]
    try grind
end Pr
end Go.Proofs.YtnpkmimbnjnicaaGreatDoor
/-
The reference's Fits (chapter 12): its contract; the program's is the same.
-/
set_option linter.unusedSimpArgs false
set_option linter.unusedVariables false
namespace Go.Proofs.YtnpkmimbnjnicaaGreatDoor
namespace Pr
open Go Go.RowKit En
def kOk (p : Int) (ks : List Int) : Prop := (1 ≤ p ∧ p ≤ 14 ∧ ks.length = 1) ∨ (15 ≤ p ∧ p ≤ 40 ∧ ks.length = 2)
theorem fits_val {p : Int} {ks rs : List Int} (h : known40 p = true) (h1 : (ks.length : Int) = arityOf p) (h2 : (rs.length : Int) = arityOf p) : kOk p ks ∧ kOk p rs ∧ fitsV p ks rs = rFitsF p ks rs := by
  obtain ⟨_, _, l1, l2⟩ := known_yes h
  have ha := arE_val h
  rw [show arE p = arityOf p from if_pos h] at ha
  unfold fitsV
  rw [if_pos h, if_pos ⟨h1, h2⟩]
  rw [ha] at h1 h2
  by_cases hp : p ≤ 14
  · rw [if_pos hp] at h1 h2
    have h1 : ks.length = 1 := by omega
    have h2 : rs.length = 1 := by omega
    refine ⟨.inl ⟨l1, hp, h1⟩, .inl ⟨l1, hp, h2⟩, ?_⟩
    match ks, rs, h1, h2 with
    | [k], [r], _, _ => exact fitsF1 p ⟨l1, hp⟩ k r
  · rw [if_neg hp] at h1 h2
    have h1 : ks.length = 2 := by omega
    have h2 : rs.length = 2 := by omega
    refine ⟨.inr ⟨by omega, l2, h1⟩, .inr ⟨by omega, l2, h2⟩, ?_⟩
    match ks, rs, h1, h2 with
    | [k, l], [r, s], _, _ => exact fitsF2 p ⟨by omega, l2⟩ k l r s
end Pr
end Go.Proofs.YtnpkmimbnjnicaaGreatDoor
