/-
The plain mathematics of arrays (chapters 5, 6, 10): shapes, what is wrong with an array, primitives done cell by cell; over the integers and lists, with no program in sight.
-/
import Derived.Test.YtfpnafeildigaaaScLaws
set_option linter.unusedSimpArgs false
set_option linter.unusedVariables false
namespace Go.Proofs.Ytfpnafeildigaaa
namespace Ar
open Sc

structure Arr where
  k : Int
  r : Int
  l0 : Int
  l1 : Int
  xs : List Int

def Arr.zero : Arr := ⟨0, 0, 0, 0, []⟩

/-- how many cells a shape has -/
def prod (r l0 l1 : Int) : Int := if r = 2 then l0 * l1 else if r = 1 then l0 else 1
/-- what is wrong with a shape -/
def shCheck (r l0 l1 : Int) : Int :=
  if r < 0 ∨ 2 < r then 7
  else if (1 ≤ r ∧ l0 < 0) ∨ (2 ≤ r ∧ l1 < 0) then 7
  else if (r < 1 ∧ l0 ≠ 0) ∨ (r < 2 ∧ l1 ≠ 0) then 6
  else if 400 < l0 ∨ 400 < l1 ∨ 400 < prod r l0 l1 then 15 else 0
theorem sh_0f {l0 l1 : Int} (h : l0 ≠ 0 ∨ l1 ≠ 0) : shCheck 0 l0 l1 = 6 := by unfold shCheck; rw [if_neg (by omega), if_neg (by omega), if_pos (by omega)]
theorem sh_0t {l0 l1 : Int} (h0 : l0 = 0) (h1 : l1 = 0) : shCheck 0 l0 l1 = 0 := by subst h0; subst h1; rfl
theorem sh_1n {l0 l1 : Int} (h : l0 < 0) : shCheck 1 l0 l1 = 7 := by unfold shCheck; rw [if_neg (by omega), if_pos (by omega)]
theorem sh_1f {l0 l1 : Int} (h : 0 ≤ l0) (h1 : l1 ≠ 0) : shCheck 1 l0 l1 = 6 := by unfold shCheck; rw [if_neg (by omega), if_neg (by omega), if_pos (by omega)]
theorem prod_1 (l0 l1 : Int) : prod 1 l0 l1 = l0 := rfl
theorem prod_2 (l0 l1 : Int) : prod 2 l0 l1 = l0 * l1 := rfl
theorem prod_0 (l0 l1 : Int) : prod 0 l0 l1 = 1 := rfl
theorem sh_1o {l0 l1 : Int} (h : 400 < l0) (h1 : l1 = 0) : shCheck 1 l0 l1 = 15 := by unfold shCheck; rw [if_neg (by omega), if_neg (by omega), if_neg (by omega), if_pos (by omega)]
theorem sh_1t {l0 l1 : Int} (h : 0 ≤ l0) (h2 : l0 ≤ 400) (h1 : l1 = 0) : shCheck 1 l0 l1 = 0 := by unfold shCheck; rw [prod_1, if_neg (by omega), if_neg (by omega), if_neg (by omega), if_neg (by omega)]
theorem sh_2n {l0 l1 : Int} (h : l0 < 0 ∨ l1 < 0) : shCheck 2 l0 l1 = 7 := by unfold shCheck; rw [if_neg (by omega), if_pos (by omega)]
theorem sh_2o {l0 l1 : Int} (h0 : 0 ≤ l0) (h1 : 0 ≤ l1) (h : 400 < l0 ∨ 400 < l1) : shCheck 2 l0 l1 = 15 := by unfold shCheck; rw [if_neg (by omega), if_neg (by omega), if_neg (by omega), if_pos (by omega)]
theorem sh_2p {l0 l1 : Int} (h0 : 0 ≤ l0) (h1 : 0 ≤ l1) (h : 400 < l0 * l1) : shCheck 2 l0 l1 = 15 := by unfold shCheck; rw [prod_2, if_neg (by omega), if_neg (by omega), if_neg (by omega), if_pos (by omega)]
theorem sh_2t {l0 l1 : Int} (h0 : 0 ≤ l0) (h1 : 0 ≤ l1) (k0 : l0 ≤ 400) (k1 : l1 ≤ 400) (h : l0 * l1 ≤ 400) : shCheck 2 l0 l1 = 0 := by unfold shCheck; rw [prod_2, if_neg (by omega), if_neg (by omega), if_neg (by omega), if_neg (by omega)]
/-- a shape's cells, or what is wrong with it -/
def cellsOf (r l0 l1 : Int) : Int × Int := if shCheck r l0 l1 ≠ 0 then (0, shCheck r l0 l1) else (prod r l0 l1, 0)
theorem sh_ok {r l0 l1 : Int} (h : shCheck r l0 l1 = 0) : (r = 0 ∨ r = 1 ∨ r = 2) ∧ 0 ≤ prod r l0 l1 ∧ prod r l0 l1 ≤ 400 := by
  unfold shCheck at h
  by_cases a : r < 0 ∨ 2 < r
  · rw [if_pos a] at h; cases h
  rw [if_neg a] at h
  by_cases b : (1 ≤ r ∧ l0 < 0) ∨ (2 ≤ r ∧ l1 < 0)
  · rw [if_pos b] at h; cases h
  rw [if_neg b] at h
  by_cases c : (r < 1 ∧ l0 ≠ 0) ∨ (r < 2 ∧ l1 ≠ 0)
  · rw [if_pos c] at h; cases h
  rw [if_neg c] at h
  by_cases d : 400 < l0 ∨ 400 < l1 ∨ 400 < prod r l0 l1
  · rw [if_pos d] at h; cases h
  refine ⟨by omega, ?_, by omega⟩
  obtain rfl | rfl | rfl : r = 0 ∨ r = 1 ∨ r = 2 := by omega
  · rw [prod_0]; omega
  · rw [prod_1]; omega
  · rw [prod_2]; exact Int.mul_nonneg (by omega) (by omega)
/-- is a number a rune? -/
def isRune (c : Int) : Bool := decide (0 ≤ c ∧ c ≤ 1114111 ∧ (c < 55296 ∨ 57343 < c))
/-- what is wrong with an array -/
def chk (a : Arr) : Int :=
  if a.k ≠ 1 ∧ a.k ≠ 2 then 2
  else if shCheck a.r a.l0 a.l1 ≠ 0 then shCheck a.r a.l0 a.l1
  else if (a.xs.length : Int) ≠ prod a.r a.l0 a.l1 then 6
  else if a.k = 2 ∧ a.xs.any (fun c => !isRune c) = true then 7 else 0

/-- cell by cell, up to the first error -/
def mapE (f : Int → Int × Int) : List Int → Int × List Int
  | [] => (0, [])
  | x :: xs => if (f x).2 ≠ 0 then ((f x).2, []) else if (mapE f xs).1 ≠ 0 then ((mapE f xs).1, []) else (0, (f x).1 :: (mapE f xs).2)

def extOne (p : Int) (a : Arr) : Int × Arr :=
  if arity p ≠ (1, 0) then (2, .zero) else if chk a ≠ 0 then (chk a, .zero) else if a.k ≠ 1 then (21, .zero)
  else if (mapE (one p) a.xs).1 ≠ 0 then ((mapE (one p) a.xs).1, .zero) else (0, ⟨1, a.r, a.l0, a.l1, (mapE (one p) a.xs).2⟩)

/-- what is wrong with two operands -/
def chk2 (a b : Arr) : Int := if chk a ≠ 0 then chk a else chk b
/-- rank and lengths of a result: error, rank, lengths -/
def extLens (a b : Arr) : Int × Int × Int × Int :=
  if chk2 a b ≠ 0 then (chk2 a b, 0, 0, 0)
  else if a.r = 0 then (0, b.r, b.l0, b.l1) else if b.r = 0 then (0, a.r, a.l0, a.l1)
  else if a.r ≠ b.r then (22, 0, 0, 0) else if a.l0 ≠ b.l0 ∨ a.l1 ≠ b.l1 then (11, 0, 0, 0) else (0, a.r, a.l0, a.l1)
/-- the cells of two operands, side by side -/
def pairs (a b : Arr) : List (Int × Int) :=
  if a.r = 0 then b.xs.map (fun y => (a.xs.getD 0 0, y)) else if b.r = 0 then a.xs.map (fun x => (x, b.xs.getD 0 0)) else a.xs.zip b.xs
def mapP (f : Int × Int → Int × Int) : List (Int × Int) → Int × List Int
  | [] => (0, [])
  | x :: xs => if (f x).2 ≠ 0 then ((f x).2, []) else if (mapP f xs).1 ≠ 0 then ((mapP f xs).1, []) else (0, (f x).1 :: (mapP f xs).2)
def kindsOk (p : Int) (a b : Arr) : Bool := decide ((a.k = 1 ∧ b.k = 1) ∨ (a.k = b.k ∧ (p = 23 ∨ p = 24)))
def extTwo (p : Int) (a b : Arr) : Int × Arr :=
  if arity p ≠ (2, 0) then (2, .zero) else if chk2 a b ≠ 0 then (chk2 a b, .zero) else if kindsOk p a b = false then (21, .zero)
  else if (extLens a b).1 ≠ 0 then ((extLens a b).1, .zero)
  else if (mapP (fun q => two p q.1 q.2) (pairs a b)).1 ≠ 0 then ((mapP (fun q => two p q.1 q.2) (pairs a b)).1, .zero)
  else (0, ⟨1, (extLens a b).2.1, (extLens a b).2.2.1, (extLens a b).2.2.2, (mapP (fun q => two p q.1 q.2) (pairs a b)).2⟩)
end Ar
end Go.Proofs.Ytfpnafeildigaaa
