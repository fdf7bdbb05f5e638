/-
The plain law of FoldsRows (chapter 11).
-/
import Derived.Test.YtfpnafeildigaaaFoV
set_option linter.unusedSimpArgs false
set_option linter.unusedVariables false
namespace Go.Proofs.Ytfpnafeildigaaa
namespace Ar
open Go.RowKit Sc
theorem fold_vec {ints : Bool} {f : List Int → Int × Int} {row : List Int} (h : chk (vec' 1 row) = 0) : extFold ints f (vec' 1 row) = if (f row).2 ≠ 0 then ((f row).2, .zero) else (0, ⟨1, 0, 0, 0, [(f row).1]⟩) := by
  have h0 : chkF ints (vec' 1 row) = 0 := chkF_yes h (by rintro ⟨_, e⟩; exact e rfl) (by show (1 : Int) ≠ 0; decide)
  have hr : rowsL (vec' 1 row) = [row] := rows_vec rfl
  by_cases e : (f row).2 ≠ 0
  · have hm : mapG f (rowsL (vec' 1 row)) = ((f row).2, []) := by rw [hr, mapG_cons, if_pos e]
    rw [if_pos e, extFold_err h0 (by rw [hm]; exact e), hm]
  · have hm : mapG f (rowsL (vec' 1 row)) = (0, [(f row).1]) := by rw [hr, mapG_cons, if_neg e]; simp [mapG]
    rw [if_neg e, extFold_ok h0 hm]; rfl
theorem mapG_snoc_err {α β : Type} (f : α → β × Int) (l : List α) (x : α) : (mapG f (l ++ [x])).1 = if (mapG f l).1 ≠ 0 then (mapG f l).1 else (f x).2 := by
  induction l with
  | nil =>
    show (if (f x).2 ≠ 0 then _ else _ : Int × List β).1 = _
    by_cases h : (f x).2 ≠ 0
    · rw [if_pos h, if_neg (by simp [mapG])]
    · have h' : (f x).2 = 0 := by simpa using h
      rw [if_neg h, if_neg (by simp [mapG])]; exact h'.symm
  | cons a l ih =>
    rw [List.cons_append, mapG_cons, mapG_cons]
    by_cases h1 : (f a).2 ≠ 0
    · simp only [if_pos h1]
    · simp only [if_neg h1]
      rw [ih]
      by_cases h2 : (mapG f l).1 ≠ 0
      · simp only [if_pos h2]
      · simp only [if_neg h2]
        by_cases h3 : (f x).2 ≠ 0
        · simp only [if_pos h3]; simp
        · simp only [if_neg h3]; simp at h3; simp [h3]
/-- a fold of a matrix, seen row by row -/
theorem rows_fold {ints : Bool} {f : List Int → Int × Int} {a : Arr} (h : chkF ints a = 0) (hr : a.r = 2) {m : Nat} (hm : (rowsL a).length = m) :
    (extFold ints f a).1 = (mapG f (rowsL a)).1 ∧ ((extFold ints f a).1 = 0 → (extFold ints f a).2.xs.length = m ∧ ∀ i row, (rowsL a)[i]? = some row → (f row).2 = 0 ∧ (extFold ints f a).2.xs.getD i 0 = (f row).1) := by
  by_cases h1 : (mapG f (rowsL a)).1 = 0
  · rw [extFold_ok h (Prod.ext h1 rfl)]
    refine ⟨h1.symm, fun _ => ⟨?_, fun i row hrow => ⟨?_, ?_⟩⟩⟩
    · show (foldR a (mapG f (rowsL a)).2).xs.length = m
      rw [foldR_xs, mapG_map f _ h1, List.length_map, hm]
    · exact (mapG_iff f (rowsL a)).1 h1 row (List.mem_of_getElem? hrow)
    · show (foldR a (mapG f (rowsL a)).2).xs.getD i 0 = _
      rw [foldR_xs, mapG_map f _ h1, List.getD_eq_getElem?_getD, List.getElem?_map, hrow]; rfl
  · rw [extFold_err h h1]
    exact ⟨rfl, fun e => absurd e h1⟩
theorem fits_row {a : Arr} {row : List Int} (h : Fine a) (hl : row.length ≤ a.xs.length) (hm : ∀ x ∈ row, x ∈ a.xs) : Fine (vec' 1 row) := fine_vec h hl hm
/-- a good matrix' rows -/
theorem rows_mat {a : Arr} (hg : goodB a = true) (hr : a.r = 2) {m n : Nat} (hmn : rowsOf a = ((m : Int), (n : Int))) :
    (rowsL a).length = m ∧ m * n = a.xs.length ∧ m ≤ 400 ∧ n ≤ 400 ∧ ∀ i, i < m → (rowsL a)[i]? = some ((a.xs.drop (i * n)).take n) ∧ ((a.xs.drop (i * n)).take n).length = n ∧ chk (vec' 1 ((a.xs.drop (i * n)).take n)) = 0 := by
  obtain ⟨_, a1, a2, a3⟩ := goodB_yes hg
  obtain ⟨m', n', e0, e1, e2, e3, e4⟩ := rowsL_nat a1 (by omega)
  rw [hmn] at e0
  injection e0 with e5 e6
  have e5 : m = m' := by omega
  have e6 : n = n' := by omega
  subst e5 e6
  refine ⟨by rw [e4]; simp, e1, e2, e3, fun i hi => ⟨by rw [e4]; simp [hi], part_len (row_end e1 hi), ?_⟩⟩
  have := chk_part (a := a) (xs := (a.xs.drop (i * n)).take n) a1 (by rw [part_len (row_end e1 hi)]; have := row_end e1 hi; omega) (fun x hx => List.mem_of_mem_drop (List.mem_of_mem_take hx))
  rw [a2] at this; exact this
theorem take_succ_get {α : Type} {l : List α} {i : Nat} {x : α} (h : l[i]? = some x) : l.take (i + 1) = l.take i ++ [x] := by
  rw [List.take_add_one, h]; rfl
/-- one round of a matrix' rows -/
theorem rows_round {ints : Bool} {f : List Int → Int × Int} {a S X : Arr} {e eh : Int} (h : chkF ints a = 0) (hr : a.r = 2) {m : Nat} (hm : (rowsL a).length = m) (hE : extFold ints f a = (e, S)) {i : Nat} {row : List Int} (hrow : (rowsL a)[i]? = some row) (hc : chk (vec' 1 row) = 0) (hX : extFold ints f (vec' 1 row) = (eh, X)) :
    (e = 0 ∧ eh = 0 ∧ X.xs.length = 1 ∧ S.xs.length = m ∧ X.xs.getD 0 0 = S.xs.getD i 0 ∧ X.xs.getD 0 0 = (f row).1 ∧ (mapG f ((rowsL a).take (i + 1))).1 = (mapG f ((rowsL a).take i)).1) ∨
    (e ≠ 0 ∧ eh = 0 ∧ (mapG f ((rowsL a).take (i + 1))).1 = (mapG f ((rowsL a).take i)).1) ∨
    (e ≠ 0 ∧ eh ≠ 0 ∧ (mapG f ((rowsL a).take i)).1 = 0 ∧ (mapG f ((rowsL a).take (i + 1))).1 = eh) ∨
    (e ≠ 0 ∧ eh ≠ 0 ∧ (mapG f ((rowsL a).take i)).1 ≠ 0 ∧ (mapG f ((rowsL a).take (i + 1))).1 = (mapG f ((rowsL a).take i)).1) := by
  have F := fold_vec (ints := ints) (f := f) hc
  rw [hX] at F
  have he : eh = (f row).2 := by
    by_cases q : (f row).2 ≠ 0
    · rw [if_pos q] at F; exact congrArg Prod.fst F
    · rw [if_neg q] at F; have := congrArg Prod.fst F; simp at this q; rw [q]; exact this
  have hn : (mapG f ((rowsL a).take (i + 1))).1 = if (mapG f ((rowsL a).take i)).1 ≠ 0 then (mapG f ((rowsL a).take i)).1 else eh := by
    rw [take_succ_get hrow, mapG_snoc_err, he]
  obtain ⟨r1, r2⟩ := rows_fold h hr hm
  rw [hE] at r1 r2
  by_cases q1 : e = 0
  · left
    obtain ⟨r3, r4⟩ := r2 q1
    obtain ⟨r5, r6⟩ := r4 i row hrow
    have q2 : eh = 0 := he.trans r5
    rw [if_neg (by rw [r5]; simp)] at F
    have hX2 : X = ⟨1, 0, 0, 0, [(f row).1]⟩ := congrArg Prod.snd F
    refine ⟨q1, q2, by rw [hX2]; rfl, r3, by rw [hX2]; exact r6.symm, by rw [hX2]; rfl, ?_⟩
    rw [hn, q2]
    by_cases q3 : (mapG f ((rowsL a).take i)).1 = 0
    · rw [if_neg (by simpa using q3), q3]
    · rw [if_pos q3]
  · right
    by_cases q2 : eh = 0
    · left
      refine ⟨q1, q2, ?_⟩
      rw [hn, q2]
      by_cases q3 : (mapG f ((rowsL a).take i)).1 = 0
      · rw [if_neg (by simpa using q3), q3]
      · rw [if_pos q3]
    · right
      by_cases q3 : (mapG f ((rowsL a).take i)).1 = 0
      · left; exact ⟨q1, q2, q3, by rw [hn, if_neg (by simpa using q3)]⟩
      · right; exact ⟨q1, q2, q3, by rw [hn, if_pos q3]⟩
theorem count_vec {row : List Int} (h : chk (vec' 1 row) = 0) : extCount (vec' 1 row) = (0, ⟨1, 0, 0, 0, [(row.length : Int)]⟩) := by
  have := fold_vec (ints := false) (f := countRow) h
  rw [if_neg (by show ¬ ((0 : Int) ≠ 0); simp)] at this
  exact this
theorem count_mat {a : Arr} (hg : goodB a = true) (hr : a.r = 2) {m n : Nat} (hmn : rowsOf a = ((m : Int), (n : Int))) : ∃ V, extCount a = (0, V) ∧ V.xs.length = m ∧ ∀ i, i < m → V.xs.getD i 0 = (n : Int) := by
  obtain ⟨h1, h2, h3, h4, h5⟩ := rows_mat hg hr hmn
  have hk : chkF false a = 0 := chkF_yes (goodB_yes hg).2.1 (by rintro ⟨e, _⟩; cases e) (by omega)
  obtain ⟨r1, r2⟩ := rows_fold (f := countRow) hk hr h1
  have r0 : (mapG countRow (rowsL a)).1 = 0 := (mapG_iff _ _).2 (fun _ _ => rfl)
  obtain ⟨r3, r4⟩ := r2 (r1.trans r0)
  refine ⟨(extCount a).2, Prod.ext (r1.trans r0) rfl, r3, fun i hi => ?_⟩
  obtain ⟨q1, q2, _⟩ := h5 i hi
  exact (r4 i _ q1).2.trans (by show ((_ : List Int).length : Int) = _; rw [q2])
end Ar
end Go.Proofs.Ytfpnafeildigaaa
