/-
The walk of ExtendFlips (chapter 10).
-/
import Derived.Test.YtfpnafeildigaaaArL10
import Derived.Test.YtfpnafeildigaaaBb5
set_option linter.unusedSimpArgs false
set_option linter.unusedVariables false
namespace Go.Proofs.Ytfpnafeildigaaa
namespace Ar
open Go.RowKit Sc
theorem flip_go (a : Arr) (A : Option Addr) (c : Nat) (ha : Hid (chk a = 0)) {er : Int} {R : Arr} (hE : Hid (extFlip a = (er, R))) (w : World) (hs : Sl w A a.xs) :
    Calls Try.prog 39 #[.agg #[.int .i64 a.k, .int .i64 a.r, .int .i64 a.l0, .int .i64 a.l1, .slice A a.xs.length c]] w fun e w' => Below w.heap.size w w' ∧ ∃ (C : Option Addr) (n : Nat), e = .returned (.tuple #[.agg #[.int .i64 R.k, .int .i64 R.r, .int .i64 R.l0, .int .i64 R.l1, .slice C R.xs.length n], .int .i64 er]) ∧ Sl w' C R.xs ∧ (∀ g o, C = some ⟨g, o, none⟩ → w.heap.size ≤ g) ∧ R.xs.length ≤ n := by
  obtain ⟨h1, h2, h3⟩ := chk_fit ha.out
  have h := flip_any a A c (by omega) h2 h3 w hs
  rw [hE.out] at h
  exact h
theorem ravel_go (a : Arr) (A : Option Addr) (c : Nat) (ha : Hid (a.xs.length ≤ 100000 ∧ Fits a.l0 ∧ Fits a.l1)) {er : Int} {R : Arr} (hE : Hid (extRavel a = (er, R))) (w : World) (hs : Sl w A a.xs) :
    Calls Try.prog 40 #[.agg #[.int .i64 a.k, .int .i64 a.r, .int .i64 a.l0, .int .i64 a.l1, .slice A a.xs.length c]] w fun e w' => Below w.heap.size w w' ∧ ∃ (C : Option Addr) (n : Nat), e = .returned (.tuple #[.agg #[.int .i64 R.k, .int .i64 R.r, .int .i64 R.l0, .int .i64 R.l1, .slice C R.xs.length n], .int .i64 er]) ∧ Sl w' C R.xs ∧ (∀ g o, C = some ⟨g, o, none⟩ → w.heap.size ≤ g) ∧ R.xs.length ≤ n := by
  obtain ⟨h1, h2, h3⟩ := ha.out
  have h := ravel_any a A c h1 h2 h3 w hs
  rw [hE.out] at h
  exact h
theorem fine_flipped {a : Arr} (ca : chk a = 0) (hr : a.r = 2) (h : Fine a) : Fine (flipped a) := by
  obtain ⟨h1, h2, h3, h4⟩ := h
  exact ⟨by unfold flipped; rw [reix_len]; exact h1, h3, h2, reix_all (move_mat ca hr) h4⟩
theorem fine_ravel {a : Arr} (h : Fine a) : Fine (vec' a.k a.xs) :=
  ⟨h.1, by have := h.1; show -9223372036854775808 ≤ (a.xs.length : Int) ∧ (a.xs.length : Int) ≤ 9223372036854775807; omega, (by show Fits 0; decide), h.2.2.2⟩
end Ar
end Go.Proofs.Ytfpnafeildigaaa
