/-
joined of chapter 11's laws: a fold of two vectors against the fold of both.
-/
import Derived.Test.YtfpnafeildigaaaFoV
import Derived.RegionTactic
import Derived.Test.YtfpnafeildigaaaFoY
import Derived.Test.YtfpnafeildigaaaEa3
set_option linter.unusedSimpArgs false
set_option linter.unusedVariables false
namespace Go.Proofs.Ytfpnafeildigaaa
namespace Ar
open Go.RowKit Sc
end Ar
end Go.Proofs.Ytfpnafeildigaaa
/-
The plain law of FoldsParts (chapter 11).
-/
set_option linter.unusedSimpArgs false
set_option linter.unusedVariables false
namespace Go.Proofs.Ytfpnafeildigaaa
namespace Ar
open Go.RowKit Sc
theorem two15_fits {x y : Int} (h : (two 15 x y).2 = 0) : Fits (two 15 x y).1 := by
  have e : two 15 x y = Sc.chk (x + y) := rfl
  rw [e] at h ⊢
  unfold Sc.chk at h ⊢
  by_cases q : Fits (x + y)
  · rw [if_pos q]; exact q
  · rw [if_neg q] at h; cases h
theorem scan_last {l : List Int} : ∀ {n : Int}, Fits n → (scanE n l).1 = 0 → lastE n (scanE n l).2 = n + l.sum ∧ Fits (lastE n (scanE n l).2) := by
  induction l with
  | nil => intro n hn _; exact ⟨by show n = n + 0; omega, hn⟩
  | cons x l ih =>
    intro n hn h
    rw [scanE_cons] at h ⊢
    by_cases h1 : (two 15 n x).2 ≠ 0
    · rw [if_pos h1] at h; exact absurd h h1
    rw [if_neg h1] at h ⊢
    have h1 : (two 15 n x).2 = 0 := by simpa using h1
    by_cases h2 : (scanE (two 15 n x).1 l).1 ≠ 0
    · rw [if_pos h2] at h; exact absurd h h2
    rw [if_neg h2]
    have h2 : (scanE (two 15 n x).1 l).1 = 0 := by simpa using h2
    obtain ⟨i1, i2⟩ := ih (two15_fits h1) h2
    refine ⟨?_, i2⟩
    show lastE (two 15 n x).1 _ = _
    rw [i1, two15_val h1, List.sum_cons]; omega
theorem sumRow_ok {l : List Int} (h : (sumRow l).2 = 0) : (sumRow l).1 = l.sum ∧ Fits (sumRow l).1 := by
  unfold sumRow at h ⊢
  by_cases q : (scanE 0 l).1 ≠ 0
  · rw [if_pos q] at h; exact absurd h q
  · rw [if_neg q]
    have q : (scanE 0 l).1 = 0 := by simpa using q
    obtain ⟨h1, h2⟩ := scan_last (n := 0) (by decide) q
    exact ⟨by show lastE 0 _ = _; rw [h1]; omega, h2⟩
end Ar
end Go.Proofs.Ytfpnafeildigaaa
/-
The walk of FoldsParts (chapter 11), run by the engine.
-/
set_option linter.unusedSimpArgs false
set_option linter.unusedVariables false
namespace Go.Proofs.Ytfpnafeildigaaa
namespace Ar
open Go.RowKit Sc
open En
def spGood : Spc
  | [x], H, _ => .is ((getA H x).1 ∧ (getA H x).2.xs.length ≤ 9223372036854775807 ∧ Fits (getA H x).2.l0 ∧ Fits (getA H x).2.l1) (.v (.bool (goodB (getA H x).2)))
  | _, _, _ => .bad
def spAwake : Spc
  | [], _, _ => .is True (.v (.bool true))
  | _, _, _ => .bad
def spFold (F : Arr → Int × Arr) : Spc
  | [x], H, nx => ret2 nx ((getA H x).1 ∧ Fine (getA H x).2) (F (getA H x).2)
  | _, _, _ => .bad
theorem spGood_q {x : SV} {H : Nat → Ch} {nx : Nat} : spGood [x] H nx = .is ((getA H x).1 ∧ (getA H x).2.xs.length ≤ 9223372036854775807 ∧ Fits (getA H x).2.l0 ∧ Fits (getA H x).2.l1) (.v (.bool (goodB (getA H x).2))) := rfl
theorem spAwake_q {H : Nat → Ch} {nx : Nat} : spAwake [] H nx = .is True (.v (.bool true)) := rfl
theorem spFold_q {F : Arr → Int × Arr} {x : SV} {H : Nat → Ch} {nx : Nat} : spFold F [x] H nx = En.ret2 nx ((getA H x).1 ∧ Fine (getA H x).2) (F (getA H x).2) := rfl
theorem spGood_ok : SpecOk Try.prog 52 spGood := by
  intro args hp nx w0 w H hv
  match args, hv with
  | [x], ⟨h1, h2, h3, h4⟩ =>
    obtain ⟨A, c, e, hs, hc⟩ := getA_ok H h1
    refine bool_ok ?_
    simp only [dens, e]
    exact good_any _ A c h2 h3 h4 w hs
theorem spAwake_ok : SpecOk Try.prog 41 spAwake := by
  intro args hp nx w0 w H hv
  match args, hv with
  | [], _ => exact bool_ok (awake11 w)
theorem spFold_ok {F : Arr → Int × Arr} {f : FuncId} (h : ∀ (a : Arr) (A : Option Addr) (c : Nat), Fine a → a.xs.length ≤ c → ∀ w, Sl w A a.xs → Calls Try.prog f #[.agg #[.int .i64 a.k, .int .i64 a.r, .int .i64 a.l0, .int .i64 a.l1, .slice A a.xs.length c]] w (RetC w (F a).1 (F a).2)) : SpecOk Try.prog f (spFold F) := by
  intro args hp nx w0 w H hv
  match args, hv with
  | [x], ⟨h1, h2⟩ =>
    obtain ⟨A, c, e, hs, hc⟩ := getA_ok H h1
    refine ret2_ok ?_
    simp only [dens, e]
    exact h _ A c h2 hc w hs
theorem follow11 : Try.prog.follows .mixedOrders = true := by kernel_rfl
end Ar
end Go.Proofs.Ytfpnafeildigaaa
/-
The walk of FoldsParts (chapter 11), run by the engine.
-/
set_option linter.unusedSimpArgs false
set_option linter.unusedVariables false
namespace Go.Proofs.Ytfpnafeildigaaa
namespace Ar
open Go.RowKit Sc
open En
end Ar
end Go.Proofs.Ytfpnafeildigaaa
