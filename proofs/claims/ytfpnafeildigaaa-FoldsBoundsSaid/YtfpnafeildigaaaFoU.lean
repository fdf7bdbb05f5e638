/-
The plain law and the walk of FoldsChains (chapter 11).
-/
import Derived.Test.YtfpnafeildigaaaFoT
set_option linter.unusedSimpArgs false
set_option linter.unusedVariables false
namespace Go.Proofs.Ytfpnafeildigaaa
namespace Ar
open Go.RowKit Sc
theorem scanE_app (n : Int) (l r : List Int) : scanE n (l ++ r) = if (scanE n l).1 ≠ 0 then ((scanE n l).1, []) else if (scanE (lastE n (scanE n l).2) r).1 ≠ 0 then ((scanE (lastE n (scanE n l).2) r).1, []) else (0, (scanE n l).2 ++ (scanE (lastE n (scanE n l).2) r).2) := by
  induction l generalizing n with
  | nil =>
    rw [List.nil_append, if_neg (show ¬ ((scanE n []).1 ≠ 0) by simp [scanE])]
    show scanE n r = if (scanE n r).1 ≠ 0 then _ else (0, [] ++ (scanE n r).2)
    by_cases h : (scanE n r).1 ≠ 0
    · rw [if_pos h]; exact scanE_bad n r h
    · rw [if_neg h]; exact Prod.ext (by simpa using h) rfl
  | cons x l ih =>
    rw [List.cons_append, scanE_cons, scanE_cons, ih]
    by_cases h1 : (two 15 n x).2 ≠ 0
    · simp only [if_pos h1]
    · simp only [if_neg h1]
      by_cases h2 : (scanE (two 15 n x).1 l).1 ≠ 0
      · simp only [if_pos h2]
      · simp only [if_neg h2]
        show _ = if _ then _ else if (scanE (lastE (two 15 n x).1 (scanE (two 15 n x).1 l).2) r).1 ≠ 0 then ((scanE (lastE (two 15 n x).1 (scanE (two 15 n x).1 l).2) r).1, []) else (0, _ ++ (scanE (lastE (two 15 n x).1 (scanE (two 15 n x).1 l).2) r).2)
        by_cases h3 : (scanE (lastE (two 15 n x).1 (scanE (two 15 n x).1 l).2) r).1 ≠ 0
        · simp only [if_pos h3]; simp
        · simp only [if_neg h3]; simp
theorem scan_shift {n m : Int} : ∀ {l zs ys : List Int}, scanE n l = (0, zs) → scanE m l = (0, ys) → ∀ k, k < l.length → zs.getD k 0 = n - m + ys.getD k 0 := by
  intro l
  induction l generalizing n m with
  | nil => intro _ _ _ _ k hk; simp at hk
  | cons x l ih =>
    intro zs ys h1 h2 k hk
    rw [scanE_cons] at h1 h2
    by_cases a1 : (two 15 n x).2 ≠ 0
    · rw [if_pos a1] at h1; exact absurd (congrArg Prod.fst h1) a1
    by_cases a2 : (two 15 m x).2 ≠ 0
    · rw [if_pos a2] at h2; exact absurd (congrArg Prod.fst h2) a2
    rw [if_neg a1] at h1
    rw [if_neg a2] at h2
    by_cases b1 : (scanE (two 15 n x).1 l).1 ≠ 0
    · rw [if_pos b1] at h1; exact absurd (congrArg Prod.fst h1) b1
    by_cases b2 : (scanE (two 15 m x).1 l).1 ≠ 0
    · rw [if_pos b2] at h2; exact absurd (congrArg Prod.fst h2) b2
    rw [if_neg b1] at h1
    rw [if_neg b2] at h2
    simp only [Prod.mk.injEq, true_and] at h1 h2
    subst h1 h2
    have v1 := two15_val (x := n) (y := x) (by simpa using a1)
    have v2 := two15_val (x := m) (y := x) (by simpa using a2)
    cases k with
    | zero => show (two 15 n x).1 = n - m + (two 15 m x).1; omega
    | succ k =>
      have := ih (n := (two 15 n x).1) (m := (two 15 m x).1) (zs := (scanE (two 15 n x).1 l).2) (ys := (scanE (two 15 m x).1 l).2) (Prod.ext (by simpa using b1) rfl) (Prod.ext (by simpa using b2) rfl) k (by simpa using hk)
      simp only [List.getD_cons_succ]
      omega
theorem rows_vec {v : Arr} (h : v.r = 1) : rowsL v = [v.xs] := if_pos h
theorem vec_scan {v : Arr} (h : chkF true v = 0) (hr : v.r = 1) : extScan v = if (scanE 0 v.xs).1 ≠ 0 then ((scanE 0 v.xs).1, .zero) else (0, ⟨1, 1, v.l0, v.l1, (scanE 0 v.xs).2⟩) := by
  unfold extScan
  rw [if_neg (by simpa using h), rows_vec hr, mapG_cons]
  by_cases e : (scanE 0 v.xs).1 ≠ 0
  · rw [if_pos (show (scanRow v.xs).2 ≠ 0 from e), if_pos e, if_pos (by exact e)]; rfl
  · rw [if_neg (show ¬ (scanRow v.xs).2 ≠ 0 from e), if_neg e, if_neg (by simp [mapG]), if_neg (by simp [mapG]), hr]
    simp [mapG, scanRow]
theorem vec_sum {v : Arr} (h : chkF true v = 0) (hr : v.r = 1) : extSum v = if (scanE 0 v.xs).1 ≠ 0 then ((scanE 0 v.xs).1, .zero) else (0, ⟨1, 0, 0, 0, [lastE 0 (scanE 0 v.xs).2]⟩) := by
  by_cases e : (scanE 0 v.xs).1 ≠ 0
  · have e2 : sumRow v.xs = (0, (scanE 0 v.xs).1) := if_pos e
    have hm : mapG sumRow (rowsL v) = ((scanE 0 v.xs).1, []) := by rw [rows_vec hr, mapG_cons, e2, if_pos e]
    rw [if_pos e, show extSum v = _ from extFold_err h (by rw [hm]; exact e), hm]
  · have e2 : sumRow v.xs = (lastE 0 (scanE 0 v.xs).2, 0) := if_neg e
    have hm : mapG sumRow (rowsL v) = (0, [lastE 0 (scanE 0 v.xs).2]) := by rw [rows_vec hr, mapG_cons, e2]; simp [mapG]
    rw [if_neg e, show extSum v = _ from extFold_ok h hm]
    unfold foldR
    rw [if_pos hr]
/-- two good vectors, put together -/
theorem cat_good {a b Q : Arr} (ga : goodB a = true) (gb : goodB b = true) (ra : a.r = 1) (rb : b.r = 1) (h : extCat a b = (0, Q)) : Q = vec' 1 (a.xs ++ b.xs) ∧ chk Q = 0 ∧ a.xs.length + b.xs.length ≤ 400 := by
  obtain ⟨_, a1, a2, _⟩ := goodB_yes ga
  obtain ⟨_, b1, b2, _⟩ := goodB_yes gb
  unfold extCat at h
  rw [if_neg (by simpa using a1), if_neg (by simpa using b1), if_neg (by omega), if_neg (by omega), if_neg (by omega)] at h
  by_cases e : 400 < (a.xs.length : Int) + b.xs.length ∨ 400 < a.l1 + b.l1
  · rw [if_pos e] at h; cases h
  · rw [if_neg e, if_pos ra] at h
    have hq : Q = vec' 1 (a.xs ++ b.xs) := by rw [← a2]; exact (congrArg Prod.snd h).symm
    refine ⟨hq, ?_, by omega⟩
    rw [hq]
    exact chk_res (r := 1) (l0 := (a.xs ++ b.xs).length) (l1 := 0) (sh_1t (by omega) (by rw [List.length_append]; omega) rfl) (by rw [prod_1])
theorem chkF_vec {Q : Arr} {zs : List Int} (hq : Q = vec' 1 zs) (h : chk Q = 0) : chkF true Q = 0 := chkF_yes h (by rintro ⟨_, e⟩; exact e (by rw [hq]; rfl)) (by rw [hq]; show (1 : Int) ≠ 0; decide)
/-- sums on the way of two vectors, put together -/
theorem chains {a b Q : Arr} (ga : goodB a = true) (gb : goodB b = true) (ra : a.r = 1) (rb : b.r = 1) (h : extCat a b = (0, Q)) :
    (extSum a).1 = (extScan a).1 ∧ ((extScan a).1 ≠ 0 → (extScan Q).1 = (extScan a).1) ∧ ((extScan a).1 = 0 → (extScan b).1 = 0 → (extScan Q).1 = 0 →
      (extSum a).2.xs.length = 1 ∧ (extScan a).2.xs.length = a.xs.length ∧ (extScan b).2.xs.length = b.xs.length ∧ (extScan Q).2.xs.length = a.xs.length + b.xs.length ∧
      (∀ k, k < a.xs.length → (extScan Q).2.xs.getD k 0 = (extScan a).2.xs.getD k 0) ∧ (∀ j, j < b.xs.length → (extScan Q).2.xs.getD (a.xs.length + j) 0 = (extSum a).2.xs.getD 0 0 + (extScan b).2.xs.getD j 0) ∧ ∀ z ∈ (extScan Q).2.xs, Fits z) := by
  obtain ⟨hq, cq, _⟩ := cat_good ga gb ra rb h
  have fa := good_chkF ga
  have fb := good_chkF gb
  have fq := chkF_vec hq cq
  have hqx : Q.xs = a.xs ++ b.xs := by rw [hq]; rfl
  refine ⟨(scans_err fa).1, ?_, ?_⟩
  · rw [vec_scan fa ra, vec_scan fq (by rw [hq]; rfl), hqx, scanE_app]
    by_cases e : (scanE 0 a.xs).1 ≠ 0
    · simp only [if_pos e]; intro _; trivial
    · simp only [if_neg e]; intro h; exact absurd rfl h
  · rw [vec_scan fa ra, vec_scan fb rb, vec_scan fq (by rw [hq]; rfl), vec_sum fa ra, hqx]
    intro h1 h2 h3
    have e1 : ¬ (scanE 0 a.xs).1 ≠ 0 := by intro e; rw [if_pos e] at h1; exact e h1
    have e2 : ¬ (scanE 0 b.xs).1 ≠ 0 := by intro e; rw [if_pos e] at h2; exact e h2
    have e3 : ¬ (scanE 0 (a.xs ++ b.xs)).1 ≠ 0 := by intro e; rw [if_pos e] at h3; exact e h3
    have s1 : scanE 0 a.xs = (0, (scanE 0 a.xs).2) := Prod.ext (by simpa using e1) rfl
    have s2 : scanE 0 b.xs = (0, (scanE 0 b.xs).2) := Prod.ext (by simpa using e2) rfl
    have s3 : scanE 0 (a.xs ++ b.xs) = (0, (scanE 0 (a.xs ++ b.xs)).2) := Prod.ext (by simpa using e3) rfl
    have l1 := scanE_len s1
    have l2 := scanE_len s2
    have l3 := scanE_len s3
    have ha := scanE_app 0 a.xs b.xs
    rw [if_neg e1] at ha
    have e4 : ¬ (scanE (lastE 0 (scanE 0 a.xs).2) b.xs).1 ≠ 0 := by intro e; rw [if_pos e] at ha; rw [ha] at e3; exact e3 e
    rw [if_neg e4] at ha
    have s4 : scanE (lastE 0 (scanE 0 a.xs).2) b.xs = (0, (scanE (lastE 0 (scanE 0 a.xs).2) b.xs).2) := Prod.ext (by simpa using e4) rfl
    rw [if_neg e1, if_neg e2, if_neg e3, if_neg e1]
    have hz : (scanE 0 (a.xs ++ b.xs)).2 = (scanE 0 a.xs).2 ++ (scanE (lastE 0 (scanE 0 a.xs).2) b.xs).2 := congrArg Prod.snd ha
    refine ⟨rfl, l1, l2, by show (scanE 0 (a.xs ++ b.xs)).2.length = _; rw [l3, List.length_append], fun k hk => ?_, fun j hj => ?_, ?_⟩
    · show (scanE 0 (a.xs ++ b.xs)).2.getD k 0 = (scanE 0 a.xs).2.getD k 0
      rw [hz, List.getD_eq_getElem?_getD, List.getElem?_append_left (by omega), ← List.getD_eq_getElem?_getD]
    · show (scanE 0 (a.xs ++ b.xs)).2.getD (a.xs.length + j) 0 = lastE 0 (scanE 0 a.xs).2 + (scanE 0 b.xs).2.getD j 0
      rw [hz, List.getD_eq_getElem?_getD, List.getElem?_append_right (by omega), ← List.getD_eq_getElem?_getD, l1, Nat.add_sub_cancel_left]
      have := scan_shift s4 s2 j hj
      omega
    · exact scanE_fits s3
end Ar
end Go.Proofs.Ytfpnafeildigaaa
