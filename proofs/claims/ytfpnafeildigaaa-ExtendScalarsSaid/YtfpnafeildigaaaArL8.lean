/-
The plain law of ExtendScalars (chapter 10): a scalar is as the array of its copies.
-/
import Derived.Test.YtfpnafeildigaaaArSt
set_option linter.unusedSimpArgs false
set_option linter.unusedVariables false
namespace Go.Proofs.Ytfpnafeildigaaa
namespace Ar
open Go.RowKit Sc
def scalar (k x : Int) : Arr := ⟨k, 0, 0, 0, [x]⟩
def copies (a : Arr) (x : Int) : Arr := ⟨a.k, a.r, a.l0, a.l1, List.replicate a.xs.length x⟩
theorem chk_copies {a : Arr} {x : Int} (ca : chk a = 0) (cs : chk (scalar a.k x) = 0) : chk (copies a x) = 0 := by
  obtain ⟨s1, n1⟩ := chk_sh ca
  unfold chk scalar at cs
  unfold chk copies
  by_cases k : a.k ≠ 1 ∧ a.k ≠ 2
  · rw [if_pos k] at cs; cases cs
  rw [if_neg k, if_neg (by simpa using s1), if_neg (by simp only [List.length_replicate]; simpa using n1)]
  rw [if_neg k, if_neg (by simp; rfl), if_neg (by simp; rfl)] at cs
  by_cases r : a.k = 2 ∧ [x].any (fun c => !isRune c) = true
  · rw [if_pos r] at cs; cases cs
  · rw [if_neg]
    rintro ⟨k2, h⟩
    apply r
    refine ⟨k2, ?_⟩
    rw [List.any_eq_true] at h
    obtain ⟨y, hy, h⟩ := h
    rw [(List.mem_replicate.1 hy).2] at h
    simpa using h
theorem lens_if {a b : Arr} (ca : chk a = 0) (cb : chk b = 0) : extLens a b = if a.r = 0 then (0, b.r, b.l0, b.l1) else if b.r = 0 then (0, a.r, a.l0, a.l1)
    else if a.r ≠ b.r then (22, 0, 0, 0) else if a.l0 ≠ b.l0 ∨ a.l1 ≠ b.l1 then (11, 0, 0, 0) else (0, a.r, a.l0, a.l1) := if_neg (by rw [chk2_ok ca, cb]; simp)
theorem zip_rep (x : Int) : ∀ xs : List Int, xs.zip (List.replicate xs.length x) = xs.map (fun y => (y, x))
  | [] => rfl
  | y :: xs => by simp [List.replicate_succ, zip_rep x xs]
theorem rep_zip (x : Int) : ∀ xs : List Int, (List.replicate xs.length x).zip xs = xs.map (fun y => (x, y))
  | [] => rfl
  | y :: xs => by simp [List.replicate_succ, rep_zip x xs]
theorem ext_same {p : Int} {a b a' b' : Arr} (h1 : chk2 a b = chk2 a' b') (hk : kindsOk p a b = kindsOk p a' b') (hl : extLens a b = extLens a' b') (hp : pairs a b = pairs a' b') : extTwo p a b = extTwo p a' b' := by
  unfold extTwo
  rw [h1, hk, hl, hp]
theorem scal_right {p x : Int} {a : Arr} (ca : chk a = 0) (cs : chk (scalar a.k x) = 0) : extTwo p a (copies a x) = extTwo p a (scalar a.k x) := by
  have cc := chk_copies ca cs
  refine ext_same (by rw [chk2_ok ca, chk2_ok ca, cc, cs]) rfl ?_ ?_
  · rw [lens_if ca cc, lens_if ca cs]
    by_cases ha : a.r = 0
    · obtain ⟨e0, e1, _⟩ := chk_zero ca ha
      rw [if_pos ha, if_pos ha]
      show (0, a.r, a.l0, a.l1) = (0, 0, 0, 0)
      rw [ha, e0, e1]
    · rw [if_neg ha, if_neg ha, if_pos (show (scalar a.k x).r = 0 from rfl), if_neg (show ¬ (copies a x).r = 0 from ha), if_neg (by simp [copies]), if_neg (by simp [copies])]
  · unfold pairs
    by_cases ha : a.r = 0
    · have := (chk_zero ca ha).2.2
      rw [if_pos ha, if_pos ha]
      unfold copies scalar
      simp only [this]; rfl
    · rw [if_neg ha, if_neg ha, if_pos (show (scalar a.k x).r = 0 from rfl), if_neg (show ¬ (copies a x).r = 0 from ha)]
      exact zip_rep x a.xs
theorem scal_left {p x : Int} {a : Arr} (ca : chk a = 0) (cs : chk (scalar a.k x) = 0) : extTwo p (copies a x) a = extTwo p (scalar a.k x) a := by
  have cc := chk_copies ca cs
  refine ext_same (by rw [chk2_ok cc, chk2_ok cs]) rfl ?_ ?_
  · rw [lens_if cc ca, lens_if cs ca, if_pos (show (scalar a.k x).r = 0 from rfl)]
    by_cases ha : a.r = 0
    · rw [if_pos (show (copies a x).r = 0 from ha)]
    · rw [if_neg (show ¬ (copies a x).r = 0 from ha), if_neg ha, if_neg (by simp [copies]), if_neg (by simp [copies])]; rfl
  · unfold pairs
    rw [if_pos (show (scalar a.k x).r = 0 from rfl)]
    by_cases ha : a.r = 0
    · have := (chk_zero ca ha).2.2
      rw [if_pos (show (copies a x).r = 0 from ha)]
      unfold copies scalar
      simp only [this]; rfl
    · rw [if_neg (show ¬ (copies a x).r = 0 from ha), if_neg ha]
      exact rep_zip x a.xs
end Ar
end Go.Proofs.Ytfpnafeildigaaa
