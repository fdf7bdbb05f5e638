/-
The reference's moves that the laws use: rows, Reverse (chapter 7).
-/
import Derived.Test.YtfpnafeildigaaaArL9
import Derived.Deep.DeepCutAuto
import Derived.RegionTactic
import Derived.Test.YtfpnafeildigaaaBb3
set_option linter.unusedSimpArgs false
set_option linter.unusedVariables false
namespace Go.Proofs.Ytfpnafeildigaaa
namespace Ar
open Go.RowKit Sc
/-- the cells of a list, at other places -/
def reix (f : Nat → Nat) (n : Nat) (xs : List Int) : List Int := (List.range n).map (fun j => xs.getD (f j) 0)
theorem reix_len (f : Nat → Nat) (n : Nat) (xs : List Int) : (reix f n xs).length = n := by simp [reix]
theorem reix_getD (f : Nat → Nat) {n j : Nat} (xs : List Int) (h : j < n) : (reix f n xs).getD j 0 = xs.getD (f j) 0 := by
  simp [reix, List.getD_eq_getElem?_getD, h]
/-- rows and columns of an array -/
def rowsOf (a : Arr) : Int × Int := if a.r = 2 then (a.l0, a.l1) else (1, a.xs.length)
/-- the place in a row, seen from its end -/
def back (n j : Nat) : Nat := j / n * n + (n - 1 - j % n)
/-- an array with rows -/
theorem rows_nat {a : Arr} (h : chk a = 0) (hr : a.r ≠ 0) : ∃ m n : Nat, rowsOf a = ((m : Int), (n : Int)) ∧ m * n = a.xs.length ∧ m ≤ 400 ∧ n ≤ 400 := by
  obtain ⟨s, hn⟩ := chk_sh h
  obtain ⟨h3, h4, h5⟩ := sh_ok s
  unfold rowsOf
  rcases h3 with h3 | h3 | h3
  · exact absurd h3 hr
  · exact ⟨1, a.xs.length, by rw [if_neg (by omega)]; rfl, by omega, by omega, by rw [h3] at hn; rw [h3] at h5; omega⟩
  · rw [h3] at s hn h4 h5
    rw [if_pos h3]
    unfold shCheck at s
    rw [if_neg (by omega)] at s
    by_cases e : (1 ≤ (2 : Int) ∧ a.l0 < 0) ∨ (2 ≤ (2 : Int) ∧ a.l1 < 0)
    · rw [if_pos e] at s; cases s
    rw [if_neg e, if_neg (by omega)] at s
    by_cases e2 : 400 < a.l0 ∨ 400 < a.l1 ∨ 400 < prod 2 a.l0 a.l1
    · rw [if_pos e2] at s; cases s
    refine ⟨a.l0.toNat, a.l1.toNat, Prod.ext (by simp; omega) (by simp; omega), ?_, by omega, by omega⟩
    rw [prod_2] at hn
    have : ((a.l0.toNat * a.l1.toNat : Nat) : Int) = a.xs.length := by rw [hn, Int.natCast_mul, Int.toNat_of_nonneg (by omega), Int.toNat_of_nonneg (by omega)]
    exact_mod_cast this
/-- a result's box, which is still empty -/
def RBox (w : World) (g : Nat) : Prop := Arr5 w g (.int .i64 0) (.int .i64 0) (.int .i64 0) (.int .i64 0) (.slice none 0 0) ∧ (∀ i, w.frozen? ⟨g, i, none⟩ = false) ∧ g < w.heap.size
theorem RBox.below {w w' : World} {g : Nat} (h : RBox w g) (hb : Below w.heap.size w w') : RBox w' g :=
  ⟨h.1.below hb, fun i => (hb.frozen (p := ⟨g, i, none⟩) h.2.2).trans (h.2.1 i), Nat.lt_of_lt_of_le h.2.2 hb.size⟩
theorem RBox.off {lo hi : Nat} {w w' : World} {g : Nat} (h : RBox w g) (ho : Off lo hi w w') (hr : g < lo ∨ hi ≤ g) : RBox w' g :=
  ⟨ho.arr h.1 hr, fun i => (ho.fro i h.2.2 hr).trans (h.2.1 i), Nat.lt_of_lt_of_le h.2.2 ho.2.2.2.1⟩
theorem RBox.new (w : World) (t : TypeId) : RBox (w.alloc (.cells #[.int .i64 0, .int .i64 0, .int .i64 0, .int .i64 0, .slice none 0 0] t)) w.heap.size :=
  ⟨arr5_new _ _ _ _ _ _ _ _ _, fun i => by simp [go_sem], by simp⟩
end Ar
end Go.Proofs.Ytfpnafeildigaaa
/-
The plain laws of ExtendTurns and ExtendFlips (chapter 10): primitives are done cell by cell, so places may be changed; the order of operands.
-/
set_option linter.unusedSimpArgs false
set_option linter.unusedVariables false
namespace Go.Proofs.Ytfpnafeildigaaa
namespace Ar
open Go.RowKit Sc
theorem mapP_map (f : Int × Int → Int × Int) : ∀ l : List (Int × Int), (mapP f l).1 = 0 → (mapP f l).2 = l.map (fun x => (f x).1)
  | [], _ => rfl
  | x :: l, h => by
    rw [mapP_cons] at h ⊢
    by_cases h1 : (f x).2 ≠ 0
    · rw [if_pos h1] at h; exact absurd h h1
    rw [if_neg h1] at h ⊢
    by_cases h2 : (mapP f l).1 ≠ 0
    · rw [if_pos h2] at h; exact absurd h h2
    rw [if_neg h2]
    show (f x).1 :: _ = _
    rw [mapP_map f l (by simpa using h2)]; rfl
/-- places of n cells, changed -/
structure Move (f : Nat → Nat) (n : Nat) : Prop where
  into : ∀ j, j < n → f j < n
  onto : ∀ i, i < n → ∃ j, j < n ∧ f j = i
/-- the members of a list, at other places -/
def reixG {α : Type} (d : α) (f : Nat → Nat) (n : Nat) (xs : List α) : List α := (List.range n).map (fun j => xs.getD (f j) d)
theorem reixG_all {α : Type} {d : α} {f : Nat → Nat} {xs : List α} (h : Move f xs.length) (P : α → Prop) : (∀ x ∈ reixG d f xs.length xs, P x) ↔ ∀ x ∈ xs, P x := by
  constructor
  · intro hp x hx
    obtain ⟨i, hi, rfl⟩ := List.mem_iff_getElem.1 hx
    obtain ⟨j, hj, e⟩ := h.onto i hi
    apply hp
    exact List.mem_map.2 ⟨j, List.mem_range.2 hj, by rw [e, List.getD_eq_getElem?_getD, List.getElem?_eq_getElem hi]; rfl⟩
  · intro hp x hx
    obtain ⟨j, hj, rfl⟩ := List.mem_map.1 hx
    have := h.into j (List.mem_range.1 hj)
    rw [List.getD_eq_getElem?_getD, List.getElem?_eq_getElem this]
    exact hp _ (List.getElem_mem _)
theorem reixG_int (f : Nat → Nat) (n : Nat) (xs : List Int) : reixG 0 f n xs = reix f n xs := rfl
end Ar
end Go.Proofs.Ytfpnafeildigaaa
/-
The walk of ExtendCells (chapter 10): what is decided first.
-/
set_option linter.unusedSimpArgs false
set_option linter.unusedVariables false
namespace Go.Proofs.Ytfpnafeildigaaa
namespace Ar
open Go.RowKit Sc
theorem chk_res {r l0 l1 : Int} {ys : List Int} (h : shCheck r l0 l1 = 0) (hn : (ys.length : Int) = prod r l0 l1) : chk ⟨1, r, l0, l1, ys⟩ = 0 := by
  unfold chk
  rw [if_neg (by simp), if_neg (by simpa using h), if_neg (by simpa using hn), if_neg (by simp)]
end Ar
end Go.Proofs.Ytfpnafeildigaaa
/-
The plain law of ExtendTurns (chapter 10): primitives and Reverse.
-/
set_option linter.unusedSimpArgs false
set_option linter.unusedVariables false
namespace Go.Proofs.Ytfpnafeildigaaa
namespace Ar
open Go.RowKit Sc
theorem chk_reix {a : Arr} {f : Nat → Nat} {r l0 l1 : Int} (ca : chk a = 0) (hm : Move f a.xs.length) (hs : shCheck r l0 l1 = 0) (hn : (a.xs.length : Int) = prod r l0 l1) : chk ⟨a.k, r, l0, l1, reix f a.xs.length a.xs⟩ = 0 := by
  have s1 := chk_sh ca
  unfold chk at ca ⊢
  by_cases k : a.k ≠ 1 ∧ a.k ≠ 2
  · rw [if_pos k] at ca; cases ca
  rw [if_neg k, if_neg (by simpa using hs), if_neg (by simpa [reix_len] using hn)]
  rw [if_neg k, if_neg (by simpa using s1.1), if_neg (by simpa using s1.2)] at ca
  by_cases q : a.k = 2 ∧ a.xs.any (fun c => !isRune c) = true
  · rw [if_pos q] at ca; cases ca
  · rw [if_neg]
    rintro ⟨k2, h⟩
    apply q
    refine ⟨k2, ?_⟩
    rw [List.any_eq_true] at h ⊢
    obtain ⟨y, hy, h⟩ := h
    obtain ⟨j, hj, rfl⟩ := List.mem_map.1 hy
    have := hm.into j (List.mem_range.1 hj)
    exact ⟨_, getD_in 0 this, h⟩
theorem sh_fit {r l0 l1 : Int} (h : shCheck r l0 l1 = 0) : Fits l0 ∧ Fits l1 := by
  unfold shCheck at h
  by_cases a : r < 0 ∨ 2 < r
  · rw [if_pos a] at h; cases h
  rw [if_neg a] at h
  by_cases b : (1 ≤ r ∧ l0 < 0) ∨ (2 ≤ r ∧ l1 < 0)
  · rw [if_pos b] at h; cases h
  rw [if_neg b] at h
  by_cases c : (r < 1 ∧ l0 ≠ 0) ∨ (r < 2 ∧ l1 ≠ 0)
  · rw [if_pos c] at h; cases h
  rw [if_neg c] at h
  by_cases d : 400 < l0 ∨ 400 < l1 ∨ 400 < prod r l0 l1
  · rw [if_pos d] at h; cases h
  unfold Fits; omega
/-- an array's length and lengths -/
theorem chk_fit {a : Arr} (ca : chk a = 0) : a.xs.length ≤ 400 ∧ Fits a.l0 ∧ Fits a.l1 := by
  obtain ⟨s, n⟩ := chk_sh ca
  have := sh_ok s
  exact ⟨by omega, sh_fit s⟩
theorem reix_all {P : Int → Prop} {f : Nat → Nat} {xs : List Int} (hm : Move f xs.length) (h : ∀ x ∈ xs, P x) : ∀ x ∈ reix f xs.length xs, P x := (reixG_all (d := 0) hm P).2 h
end Ar
end Go.Proofs.Ytfpnafeildigaaa
/-
The plain laws of ExtendParts and ExtendFlips (chapter 10): parts of vectors; rows made columns; all cells in a row.
-/
set_option linter.unusedSimpArgs false
set_option linter.unusedVariables false
namespace Go.Proofs.Ytfpnafeildigaaa
namespace Ar
open Go.RowKit Sc
theorem mapP_bad (f : Int × Int → Int × Int) : ∀ l : List (Int × Int), (mapP f l).1 ≠ 0 → mapP f l = ((mapP f l).1, [])
  | [], h => absurd rfl h
  | x :: l, h => by
    rw [mapP_cons] at h ⊢
    by_cases h1 : (f x).2 ≠ 0
    · rw [if_pos h1]
    · rw [if_neg h1] at h ⊢
      by_cases h2 : (mapP f l).1 ≠ 0
      · rw [if_pos h2]
      · rw [if_neg h2] at h; exact absurd rfl h
theorem mapP_app (f : Int × Int → Int × Int) : ∀ l r : List (Int × Int), mapP f (l ++ r) = if (mapP f l).1 ≠ 0 then ((mapP f l).1, []) else if (mapP f r).1 ≠ 0 then ((mapP f r).1, []) else (0, (mapP f l).2 ++ (mapP f r).2)
  | [], r => by
    rw [List.nil_append, if_neg (show ¬ ((mapP f []).1 ≠ 0) by simp [mapP])]
    by_cases h : (mapP f r).1 ≠ 0
    · rw [if_pos h]; exact mapP_bad f r h
    · rw [if_neg h]; exact Prod.ext (by simpa using h) rfl
  | x :: l, r => by
    rw [List.cons_append, mapP_cons, mapP_cons, mapP_app f l r]
    by_cases h1 : (f x).2 ≠ 0
    · simp only [if_pos h1]
    · simp only [if_neg h1]
      by_cases h2 : (mapP f l).1 ≠ 0
      · simp only [if_pos h2]
      · simp only [if_neg h2]
        by_cases h3 : (mapP f r).1 ≠ 0
        · simp only [if_pos h3]; simp
        · simp only [if_neg h3]; simp
def vec' (k : Int) (xs : List Int) : Arr := ⟨k, 1, xs.length, 0, xs⟩
/-- rows put side by side -/
def catRows (m n k : Nat) (xs ys : List Int) : List Int := (List.range m).flatMap (fun i => (xs.drop (i * n)).take n ++ (ys.drop (i * k)).take k)
def extCat (a b : Arr) : Int × Arr :=
  if chk a ≠ 0 then (chk a, .zero) else if chk b ≠ 0 then (chk b, .zero) else if a.k ≠ b.k then (21, .zero) else if a.r ≠ b.r ∨ a.r = 0 then (22, .zero)
  else if a.r = 2 ∧ a.l0 ≠ b.l0 then (11, .zero) else if 400 < (a.xs.length : Int) + b.xs.length ∨ 400 < a.l1 + b.l1 then (15, .zero)
  else if a.r = 1 then (0, vec' a.k (a.xs ++ b.xs)) else (0, ⟨a.k, 2, a.l0, a.l1 + b.l1, catRows a.l0.toNat a.l1.toNat b.l1.toNat a.xs b.xs⟩)
/-- the parts of a vector are vectors -/
theorem chk_part {a : Arr} {xs : List Int} (ca : chk a = 0) (hl : xs.length ≤ a.xs.length) (hs : ∀ x ∈ xs, x ∈ a.xs) : chk (vec' a.k xs) = 0 := by
  obtain ⟨s, n⟩ := chk_sh ca
  have h4 := sh_ok s
  unfold chk at ca
  by_cases k : a.k ≠ 1 ∧ a.k ≠ 2
  · rw [if_pos k] at ca; cases ca
  rw [if_neg k, if_neg (by simpa using s), if_neg (by simpa using n)] at ca
  have s1 : shCheck 1 (xs.length : Int) 0 = 0 := sh_1t (by omega) (by omega) rfl
  unfold chk vec'
  rw [if_neg k]
  show (if shCheck 1 (xs.length : Int) 0 ≠ 0 then _ else _) = _
  rw [if_neg (by simpa using s1)]
  show (if (xs.length : Int) ≠ prod 1 (xs.length : Int) 0 then _ else _) = _
  rw [prod_1, if_neg (by simp)]
  by_cases q : a.k = 2 ∧ a.xs.any (fun c => !isRune c) = true
  · rw [if_pos q] at ca; cases ca
  · rw [if_neg]
    rintro ⟨k2, h⟩
    apply q
    refine ⟨k2, ?_⟩
    rw [List.any_eq_true] at h ⊢
    obtain ⟨y, hy, h⟩ := h
    exact ⟨y, hs y hy, h⟩
theorem vec_pairs (k k' : Int) (xs ys : List Int) : pairs (vec' k xs) (vec' k' ys) = xs.zip ys := by
  unfold pairs
  rw [if_neg (show ¬ (vec' k xs).r = 0 from (by decide : ¬ (1 : Int) = 0)), if_neg (show ¬ (vec' k' ys).r = 0 from (by decide : ¬ (1 : Int) = 0))]
  rfl
theorem vec_lens {k k' : Int} {xs ys : List Int} (ca : chk (vec' k xs) = 0) (cb : chk (vec' k' ys) = 0) (h : xs.length = ys.length) : extLens (vec' k xs) (vec' k' ys) = (0, 1, (xs.length : Int), 0) := by
  rw [lens_if ca cb, if_neg (show ¬ (vec' k xs).r = 0 from (by decide : ¬ (1 : Int) = 0)), if_neg (show ¬ (vec' k' ys).r = 0 from (by decide : ¬ (1 : Int) = 0)), if_neg (show ¬ (vec' k xs).r ≠ (vec' k' ys).r from (by decide : ¬ (1 : Int) ≠ 1))]
  rw [if_neg (by rintro (e | e); exact e (congrArg Nat.cast h); exact e rfl)]
  rfl
theorem kindsOk_k {p : Int} {a b a' b' : Arr} (h1 : a'.k = a.k) (h2 : b'.k = b.k) : kindsOk p a' b' = kindsOk p a b := by unfold kindsOk; rw [h1, h2]
/-- two vectors of one length -/
theorem two_vec {p k k' : Int} {xs ys : List Int} (ca : chk (vec' k xs) = 0) (cb : chk (vec' k' ys) = 0) (h : xs.length = ys.length) :
    extTwo p (vec' k xs) (vec' k' ys) = if arity p ≠ (2, 0) then (2, .zero) else if kindsOk p (vec' k []) (vec' k' []) = false then (21, .zero)
      else if (mapP (fun q => two p q.1 q.2) (xs.zip ys)).1 ≠ 0 then ((mapP (fun q => two p q.1 q.2) (xs.zip ys)).1, .zero) else (0, vec' 1 (mapP (fun q => two p q.1 q.2) (xs.zip ys)).2) := by
  unfold extTwo
  rw [chk2_ok ca, cb, if_neg (show ¬ ((0 : Int) ≠ 0) by simp), vec_lens ca cb h, vec_pairs, kindsOk_k (a := vec' k []) (a' := vec' k xs) (b := vec' k' []) (b' := vec' k' ys) rfl rfl]
  by_cases c1 : arity p ≠ (2, 0)
  · rw [if_pos c1, if_pos c1]
  rw [if_neg c1, if_neg c1]
  by_cases c2 : kindsOk p (vec' k []) (vec' k' []) = false
  · rw [if_pos c2, if_pos c2]
  rw [if_neg c2, if_neg c2, if_neg (show ¬ ((0 : Int), (1 : Int), (xs.length : Int), (0 : Int)).1 ≠ 0 by simp)]
  by_cases c3 : (mapP (fun q => two p q.1 q.2) (xs.zip ys)).1 ≠ 0
  · rw [if_pos c3, if_pos c3]
  rw [if_neg c3, if_neg c3]
  have c4 : (mapP (fun q => two p q.1 q.2) (xs.zip ys)).1 = 0 := by simpa using c3
  show (0, _) = (0, _)
  unfold vec'
  rw [mapP_map _ _ c4, List.length_map, List.length_zip, ← h, Nat.min_self]
theorem vec_of {a : Arr} (ca : chk a = 0) (hr : a.r = 1) : a = vec' a.k a.xs := by
  obtain ⟨s, n⟩ := chk_sh ca
  obtain ⟨k, r, l0, l1, xs⟩ := a
  simp only at hr
  subst hr
  have h1 : l1 = 0 := by
    simp only at s
    unfold shCheck at s
    rw [if_neg (by omega)] at s
    by_cases b : (1 ≤ (1 : Int) ∧ l0 < 0) ∨ (2 ≤ (1 : Int) ∧ l1 < 0)
    · rw [if_pos b] at s; cases s
    rw [if_neg b] at s
    by_cases c : ((1 : Int) < 1 ∧ l0 ≠ 0) ∨ ((1 : Int) < 2 ∧ l1 ≠ 0)
    · rw [if_pos c] at s; cases s
    omega
  subst h1
  simp only [prod_1] at n
  subst n
  rfl
/-- the parts of vectors have the parts of the result -/
theorem parts {p : Int} {a b : Arr} (ca : chk a = 0) (cb : chk b = 0) (ha : a.r = 1) (hb : b.r = 1) (hl : a.xs.length = b.xs.length) (n : Nat) :
    ((extTwo p (vec' a.k (a.xs.take n)) (vec' b.k (b.xs.take n))).1 ≠ 0 → (extTwo p a b).1 = (extTwo p (vec' a.k (a.xs.take n)) (vec' b.k (b.xs.take n))).1) ∧
    ((extTwo p (vec' a.k (a.xs.take n)) (vec' b.k (b.xs.take n))).1 = 0 → (extTwo p (vec' a.k (a.xs.drop n)) (vec' b.k (b.xs.drop n))).1 ≠ 0 → (extTwo p a b).1 = (extTwo p (vec' a.k (a.xs.drop n)) (vec' b.k (b.xs.drop n))).1) ∧
    ((extTwo p (vec' a.k (a.xs.take n)) (vec' b.k (b.xs.take n))).1 = 0 → (extTwo p (vec' a.k (a.xs.drop n)) (vec' b.k (b.xs.drop n))).1 = 0 →
      (extTwo p a b).1 = 0 ∧ extCat (extTwo p (vec' a.k (a.xs.take n)) (vec' b.k (b.xs.take n))).2 (extTwo p (vec' a.k (a.xs.drop n)) (vec' b.k (b.xs.drop n))).2 = (0, (extTwo p a b).2)) := by
  have la := chk_sh ca
  have l4 := sh_ok la.1
  have ta : chk (vec' a.k (a.xs.take n)) = 0 := chk_part ca (by rw [List.length_take]; omega) (fun x h => List.mem_of_mem_take h)
  have tb : chk (vec' b.k (b.xs.take n)) = 0 := chk_part cb (by rw [List.length_take]; omega) (fun x h => List.mem_of_mem_take h)
  have da : chk (vec' a.k (a.xs.drop n)) = 0 := chk_part ca (by rw [List.length_drop]; omega) (fun x h => List.mem_of_mem_drop h)
  have db : chk (vec' b.k (b.xs.drop n)) = 0 := chk_part cb (by rw [List.length_drop]; omega) (fun x h => List.mem_of_mem_drop h)
  have va := vec_of ca ha
  have vb := vec_of cb hb
  have ea : chk (vec' a.k a.xs) = 0 := by rw [← va]; exact ca
  have eb : chk (vec' b.k b.xs) = 0 := by rw [← vb]; exact cb
  have hw : extTwo p a b = extTwo p (vec' a.k a.xs) (vec' b.k b.xs) := by rw [← va, ← vb]
  rw [hw, two_vec ta tb (by rw [List.length_take, List.length_take]; omega), two_vec da db (by rw [List.length_drop, List.length_drop]; omega), two_vec ea eb hl]
  have hz : a.xs.zip b.xs = (a.xs.take n).zip (b.xs.take n) ++ (a.xs.drop n).zip (b.xs.drop n) := by
    rw [← List.zip_append (by rw [List.length_take, List.length_take]; omega), List.take_append_drop, List.take_append_drop]
  rw [hz, mapP_app]
  by_cases c1 : arity p ≠ (2, 0)
  · simp only [if_pos c1]; exact ⟨fun _ => trivial, fun e => absurd e (by decide), fun e => absurd e (by decide)⟩
  simp only [if_neg c1]
  by_cases c2 : kindsOk p (vec' a.k []) (vec' b.k []) = false
  · simp only [if_pos c2]; exact ⟨fun _ => trivial, fun e => absurd e (by decide), fun e => absurd e (by decide)⟩
  simp only [if_neg c2]
  have hlt : (mapP (fun q => two p q.1 q.2) ((a.xs.take n).zip (b.xs.take n))).1 = 0 → (mapP (fun q => two p q.1 q.2) ((a.xs.take n).zip (b.xs.take n))).2.length = (a.xs.take n).length := fun h => by
    rw [mapP_map _ _ h, List.length_map, List.length_zip, List.length_take, List.length_take]; omega
  have hld : (mapP (fun q => two p q.1 q.2) ((a.xs.drop n).zip (b.xs.drop n))).1 = 0 → (mapP (fun q => two p q.1 q.2) ((a.xs.drop n).zip (b.xs.drop n))).2.length = (a.xs.drop n).length := fun h => by
    rw [mapP_map _ _ h, List.length_map, List.length_zip, List.length_drop, List.length_drop]; omega
  generalize mapP (fun q => two p q.1 q.2) ((a.xs.take n).zip (b.xs.take n)) = F at *
  generalize mapP (fun q => two p q.1 q.2) ((a.xs.drop n).zip (b.xs.drop n)) = S at *
  by_cases c3 : F.1 ≠ 0
  · simp only [if_pos c3]; exact ⟨fun _ => trivial, fun e => absurd e c3, fun e => absurd e c3⟩
  simp only [if_neg c3]
  by_cases c4 : S.1 ≠ 0
  · simp only [if_pos c4]; exact ⟨fun e => absurd rfl e, fun _ _ => trivial, fun _ e => absurd e c4⟩
  simp only [if_neg c4]
  rw [if_neg (show ¬ ((0 : Int) ≠ 0) by simp)]
  refine ⟨fun e => absurd rfl e, fun _ e => absurd rfl e, fun _ _ => ⟨rfl, ?_⟩⟩
  have h1 := hlt (by simpa using c3)
  have h2 := hld (by simpa using c4)
  rw [List.length_take] at h1
  rw [List.length_drop] at h2
  have sv : ∀ ys : List Int, ys.length ≤ 400 → chk (vec' 1 ys) = 0 := fun ys h => chk_res (r := 1) (l0 := ys.length) (l1 := 0) (sh_1t (by omega) (by omega) rfl) (by rw [prod_1])
  unfold extCat
  rw [sv F.2 (by omega), sv S.2 (by omega)]
  have k1 : ∀ ys, (vec' 1 ys).k = 1 := fun _ => rfl
  have k2 : ∀ ys, (vec' 1 ys).r = 1 := fun _ => rfl
  have k3 : ∀ ys, (vec' 1 ys).l1 = 0 := fun _ => rfl
  have k4 : ∀ ys, (vec' 1 ys).xs = ys := fun _ => rfl
  rw [k1, k1, k2, k2, k3, k3, k4, k4, if_neg (by simp), if_neg (by simp), if_neg (by simp), if_neg (by simp), if_neg (by simp), if_neg (by omega), if_pos rfl]
/-- the place in rows of a place in columns -/
def flipAt (m n j : Nat) : Nat := j % m * n + j / m
theorem flip_lt {m n j : Nat} (h : j < m * n) : flipAt m n j < m * n := by
  have hm : 0 < m := by rcases Nat.eq_zero_or_pos m with e | e; (rw [e] at h; simp at h); exact e
  have hk : j % m < m := Nat.mod_lt _ hm
  have hi : j / m < n := Nat.div_lt_of_lt_mul h
  have e : j % m * n + n ≤ m * n := by rw [← Nat.succ_mul]; exact Nat.mul_le_mul_right _ hk
  unfold flipAt
  generalize j % m * n = q at *
  generalize j / m = r at *
  omega
theorem flip_back {m n j : Nat} (h : j < m * n) : flipAt n m (flipAt m n j) = j := by
  have hn : j / m < n := Nat.div_lt_of_lt_mul h
  have e1 : (j % m * n + j / m) / n = j % m := by rw [Nat.add_comm, Nat.add_mul_div_right _ _ (Nat.lt_of_le_of_lt (Nat.zero_le _) hn), Nat.div_eq_of_lt hn, Nat.zero_add]
  have e2 : (j % m * n + j / m) % n = j / m := by rw [Nat.add_comm, Nat.add_mul_mod_self_right, Nat.mod_eq_of_lt hn]
  unfold flipAt
  rw [e1, e2, Nat.mul_comm]
  exact Nat.div_add_mod j m
theorem move_flip (m n : Nat) : Move (flipAt m n) (m * n) :=
  ⟨fun _ h => flip_lt h, fun i hi => ⟨flipAt n m i, by rw [Nat.mul_comm]; exact flip_lt (by rw [Nat.mul_comm]; exact hi), flip_back (by rw [Nat.mul_comm]; exact hi)⟩⟩
/-- a matrix with its rows as columns -/
def flipped (a : Arr) : Arr := ⟨a.k, 2, a.l1, a.l0, reix (flipAt a.l0.toNat a.l1.toNat) a.xs.length a.xs⟩
def extFlip (a : Arr) : Int × Arr := if chk a ≠ 0 then (chk a, .zero) else if a.r ≠ 2 then (22, .zero) else (0, flipped a)
def extRavel (a : Arr) : Int × Arr := if chk a ≠ 0 then (chk a, .zero) else (0, vec' a.k a.xs)
theorem rows_two {a : Arr} (ca : chk a = 0) (hr : a.r = 2) : (a.l0.toNat : Int) = a.l0 ∧ (a.l1.toNat : Int) = a.l1 ∧ a.l0.toNat * a.l1.toNat = a.xs.length ∧ a.l0.toNat ≤ 400 ∧ a.l1.toNat ≤ 400 := by
  obtain ⟨m, n, h, hm, h1, h2⟩ := rows_nat ca (by omega)
  unfold rowsOf at h
  rw [if_pos hr] at h
  injection h with e1 e2
  rw [e1, e2]
  exact ⟨by simp, by simp, by simpa using hm, by simpa using h1, by simpa using h2⟩
theorem move_mat {a : Arr} (ca : chk a = 0) (hr : a.r = 2) : Move (flipAt a.l0.toNat a.l1.toNat) a.xs.length := by
  rw [← (rows_two ca hr).2.2.1]; exact move_flip _ _
theorem flipped_chk {a : Arr} (ca : chk a = 0) (hr : a.r = 2) : chk (flipped a) = 0 := by
  obtain ⟨s, n⟩ := chk_sh ca
  rw [hr] at s n
  refine chk_reix ca (move_mat ca hr) ?_ (by rw [n, prod_2, prod_2, Int.mul_comm])
  obtain ⟨h0, h1, h2, h3, h4⟩ := rows_two ca hr
  have h5 := (sh_ok s).2.2
  rw [prod_2] at h5
  exact sh_2t (by omega) (by omega) (by omega) (by omega) (by rw [Int.mul_comm]; exact h5)
theorem ravel_chk {a : Arr} (ca : chk a = 0) : chk (vec' a.k a.xs) = 0 := chk_part ca (Nat.le_refl _) (fun _ h => h)
theorem flip_yes {a : Arr} (ca : chk a = 0) (hr : a.r = 2) : extFlip a = (0, flipped a) := by
  unfold extFlip; rw [if_neg (by simpa using ca), if_neg (by simpa using hr)]
theorem ravel_yes {a : Arr} (ca : chk a = 0) : extRavel a = (0, vec' a.k a.xs) := by
  unfold extRavel; rw [if_neg (by simpa using ca)]
end Ar
end Go.Proofs.Ytfpnafeildigaaa
