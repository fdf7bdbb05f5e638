/-
The plain law of FoldsFlat (chapter 11).
-/
import Derived.Test.YtfpnafeildigaaaBd1
import Derived.Test.YtfpnafeildigaaaArL12
set_option linter.unusedSimpArgs false
set_option linter.unusedVariables false
namespace Go.Proofs.Ytfpnafeildigaaa
namespace Ar
open Go.RowKit Sc
theorem fold_ok {f : List Int → Int × Int} {X : Arr} (hf : chkF true X = 0) (h : (extFold true f X).1 = 0) : (∀ r ∈ rowsL X, (f r).2 = 0) ∧ (extFold true f X).2 = foldR X ((rowsL X).map fun r => (f r).1) := by
  have q : (mapG f (rowsL X)).1 = 0 := by
    by_cases q : (mapG f (rowsL X)).1 = 0
    · exact q
    · rw [extFold_err hf q] at h; exact absurd h q
  refine ⟨(mapG_iff _ _).1 q, ?_⟩
  rw [extFold_ok (ys := (mapG f (rowsL X)).2) hf (Prod.ext q rfl), mapG_map _ _ q]
theorem vec_chk {l : List Int} (hl : l.length ≤ 400) : chk (vec' 1 l) = 0 := by
  have s1 : shCheck 1 (l.length : Int) 0 = 0 := sh_1t (by omega) (by omega) rfl
  unfold chk vec'
  rw [if_neg (by simp)]
  show (if shCheck 1 (l.length : Int) 0 ≠ 0 then _ else _) = _
  rw [if_neg (by simpa using s1)]
  show (if (l.length : Int) ≠ prod 1 (l.length : Int) 0 then _ else _) = _
  rw [prod_1, if_neg (by simp), if_neg (by simp)]
theorem foldR_vec {X : Arr} (hr : X.r = 2) (l : List Int) : foldR X l = vec' 1 l := by
  unfold foldR; rw [if_neg (by omega)]; rfl
theorem rows_shape {X : Arr} (hf : chkF true X = 0) (hr : X.r = 2) : ∃ m n : Nat, m * n = X.xs.length ∧ m ≤ 400 ∧ n ≤ 400 ∧ rowsL X = (List.range m).map (fun i => (X.xs.drop (i * n)).take n) := by
  obtain ⟨m, n, _, h⟩ := rowsL_nat (chkF_ok hf).1 (by omega)
  exact ⟨m, n, h⟩
def sumN (n : Nat) (f : Nat → Int) : Int := ((List.range n).map f).sum
theorem sumN_succ (n : Nat) (f : Nat → Int) : sumN (n + 1) f = sumN n f + f n := by
  simp [sumN, List.range_succ]
theorem sumN_add (n : Nat) (f g : Nat → Int) : sumN n (fun i => f i + g i) = sumN n f + sumN n g := by
  induction n with
  | zero => rfl
  | succ n ih => rw [sumN_succ, sumN_succ, sumN_succ, ih]; omega
theorem sumN_zero (n : Nat) : sumN n (fun _ => 0) = 0 := by
  induction n with
  | zero => rfl
  | succ n ih => rw [sumN_succ, ih]; rfl
theorem sumN_congr {n : Nat} {f g : Nat → Int} (h : ∀ i, i < n → f i = g i) : sumN n f = sumN n g := by
  unfold sumN
  rw [List.map_congr_left fun i hi => h i (List.mem_range.1 hi)]
theorem sumN_swap (m n : Nat) (f : Nat → Nat → Int) : sumN m (fun i => sumN n (fun k => f i k)) = sumN n (fun k => sumN m (fun i => f i k)) := by
  induction m with
  | zero => exact (sumN_zero n).symm
  | succ m ih =>
    rw [sumN_succ, ih, ← sumN_add]
    exact sumN_congr fun k _ => (sumN_succ _ _).symm
theorem sumN_plus (m n : Nat) (f : Nat → Int) : sumN (m + n) f = sumN m f + sumN n (fun k => f (m + k)) := by
  induction n with
  | zero => show sumN m f = sumN m f + 0; omega
  | succ n ih => rw [← Nat.add_assoc, sumN_succ, ih, sumN_succ]; omega
theorem sumN_mul (m n : Nat) (f : Nat → Int) : sumN (m * n) f = sumN m (fun i => sumN n (fun k => f (i * n + k))) := by
  induction m with
  | zero => rw [Nat.zero_mul]; rfl
  | succ m ih => rw [Nat.succ_mul, sumN_plus, ih, sumN_succ]
theorem part_map {xs : List Int} {q n : Nat} (h : q + n ≤ xs.length) : (xs.drop q).take n = (List.range n).map (fun k => xs.getD (q + k) 0) := by
  refine List.ext_getElem (by rw [part_len h]; simp) fun k h1 h2 => ?_
  rw [part_len h] at h1
  simp only [List.getElem_take, List.getElem_drop, List.getElem_map, List.getElem_range]
  rw [List.getD_eq_getElem?_getD, List.getElem?_eq_getElem (by omega)]; rfl
theorem sum_all (xs : List Int) : xs.sum = sumN xs.length (fun k => xs.getD k 0) := by
  have h := part_map (xs := xs) (q := 0) (n := xs.length) (by omega)
  simp only [List.drop_zero, List.take_length, Nat.zero_add] at h
  exact congrArg List.sum h
theorem rows_sum {X : Arr} {m n : Nat} (h : m * n = X.xs.length) (hr : rowsL X = (List.range m).map (fun i => (X.xs.drop (i * n)).take n)) : ((rowsL X).map List.sum).sum = X.xs.sum := by
  rw [sum_all X.xs, ← h, sumN_mul, hr, List.map_map]
  refine sumN_congr fun i hi => ?_
  show ((X.xs.drop (i * n)).take n).sum = _
  rw [part_map (row_end h hi)]; rfl
theorem flipped_sum {a : Arr} (ca : chk a = 0) (hr : a.r = 2) : (flipped a).xs.sum = a.xs.sum := by
  obtain ⟨_, _, h, _, _⟩ := rows_two ca hr
  rw [sum_all, sum_all a.xs, show (flipped a).xs.length = a.xs.length from reix_len _ _ _, ← h]
  have L : ∀ F : Nat → Int, sumN (a.l0.toNat * a.l1.toNat) F = sumN a.l1.toNat (fun k => sumN a.l0.toNat (fun i => F (k * a.l0.toNat + i))) := fun F => by rw [Nat.mul_comm, sumN_mul]
  have R : ∀ F : Nat → Int, sumN (a.l0.toNat * a.l1.toNat) F = sumN a.l1.toNat (fun k => sumN a.l0.toNat (fun i => F (i * a.l1.toNat + k))) := fun F => by rw [sumN_mul, sumN_swap]
  rw [L, R]
  refine sumN_congr fun k hk => sumN_congr fun i hi => ?_
  have hlt : k * a.l0.toNat + i < a.xs.length := by
    rw [← h, Nat.mul_comm a.l0.toNat]
    calc k * a.l0.toNat + i < k * a.l0.toNat + a.l0.toNat := by omega
      _ = (k + 1) * a.l0.toNat := (Nat.succ_mul _ _).symm
      _ ≤ _ := Nat.mul_le_mul_right _ hk
  show (reix _ _ _).getD _ 0 = _
  rw [reix_getD _ _ hlt, flip_place hi]
theorem flat_sum {X : Arr} (hf : chkF true X = 0) (hr : X.r = 2) (h1 : (extSum X).1 = 0) (h2 : (extSum (extSum X).2).1 = 0) : (extSum (extSum X).2).2 = ⟨1, 0, 0, 0, [X.xs.sum]⟩ := by
  obtain ⟨m, n, hm, m4, n4, hR⟩ := rows_shape hf hr
  obtain ⟨g1, g2⟩ := fold_ok hf h1
  have g2 : (extSum X).2 = vec' 1 ((rowsL X).map List.sum) := by
    show (extFold true sumRow X).2 = _
    rw [g2, foldR_vec hr, List.map_congr_left fun r h => (sumRow_ok (g1 r h)).1]
  rw [g2] at h2 ⊢
  have hc : chk (vec' 1 ((rowsL X).map List.sum)) = 0 := vec_chk (by rw [hR]; simp; exact m4)
  have e := fold_vec (ints := true) (f := sumRow) hc
  have h2 : (extFold true sumRow (vec' 1 ((rowsL X).map List.sum))).1 = 0 := h2
  show (extFold true sumRow (vec' 1 ((rowsL X).map List.sum))).2 = _
  rw [e] at h2 ⊢
  by_cases q : (sumRow ((rowsL X).map List.sum)).2 ≠ 0
  · rw [if_pos q] at h2; exact absurd h2 q
  · rw [if_neg q, (sumRow_ok (by simpa using q)).1, rows_sum hm hR]
theorem vec_total {l : List Int} (hl : l.length ≤ 400) (h : (extSum (vec' 1 l)).1 = 0) : (extSum (vec' 1 l)).2 = ⟨1, 0, 0, 0, [l.sum]⟩ := by
  have e := fold_vec (ints := true) (f := sumRow) (vec_chk hl)
  have h : (extFold true sumRow (vec' 1 l)).1 = 0 := h
  show (extFold true sumRow (vec' 1 l)).2 = _
  rw [e] at h ⊢
  by_cases q : (sumRow l).2 ≠ 0
  · rw [if_pos q] at h; exact absurd h q
  · rw [if_neg q, (sumRow_ok (by simpa using q)).1]
/-- the end of a list is the end of its rows' ends -/
structure EndOk (f : List Int → Int × Int) (le : Int → Int → Prop) : Prop where
  tr : ∀ {x y z}, le x y → le y z → le x z
  nil : f [] = (0, 13)
  get : ∀ {r}, r ≠ [] → (f r).2 = 0 ∧ (f r).1 ∈ r ∧ ∀ y ∈ r, le (f r).1 y
  eq : ∀ {r v}, v ∈ r → (∀ y ∈ r, le v y) → f r = (v, 0)
theorem endOk31 : EndOk (endRow 31) (fun x y => x ≤ y) := ⟨fun h1 h2 => Int.le_trans h1 h2, rfl, fun h => end31 h, fun h1 h2 => end31_eq h1 h2⟩
theorem endOk32 : EndOk (endRow 32) (fun x y => y ≤ x) := ⟨fun h1 h2 => Int.le_trans h2 h1, rfl, fun h => end32 h, fun h1 h2 => end32_eq h1 h2⟩
section
variable {f : List Int → Int × Int} {le : Int → Int → Prop}
theorem EndOk.same (E : EndOk f le) {r s : List Int} (h : ∀ y, y ∈ r ↔ y ∈ s) : f r = f s := by
  by_cases q : s = []
  · have : r = [] := List.eq_nil_iff_forall_not_mem.2 fun y hy => by have := (h y).1 hy; rw [q] at this; cases this
    rw [this, q]
  · obtain ⟨g0, g1, g2⟩ := E.get q
    rw [E.eq ((h _).2 g1) fun y hy => g2 y ((h y).1 hy)]
    exact (Prod.ext rfl g0 : f s = ((f s).1, 0)).symm
theorem EndOk.rows (E : EndOk f le) {rows : List (List Int)} {xs : List Int} (hm : ∀ y, y ∈ xs ↔ ∃ r ∈ rows, y ∈ r) (h : ∀ r ∈ rows, (f r).2 = 0) : f (rows.map fun r => (f r).1) = f xs := by
  have ne : ∀ r ∈ rows, r ≠ [] := fun r hr e => by have := h r hr; rw [e, E.nil] at this; cases this
  by_cases q : rows = []
  · have : xs = [] := List.eq_nil_iff_forall_not_mem.2 fun y hy => by obtain ⟨r, hr, _⟩ := (hm y).1 hy; rw [q] at hr; cases hr
    rw [q, this]; rfl
  · have q' : (rows.map fun r => (f r).1) ≠ [] := by simpa using q
    obtain ⟨g0, g1, g2⟩ := E.get q'
    obtain ⟨r, hr, e⟩ := List.mem_map.1 g1
    have hv : (f (rows.map fun r => (f r).1)).1 ∈ xs := (hm _).2 ⟨r, hr, by rw [← e]; exact (E.get (ne r hr)).2.1⟩
    rw [E.eq hv fun y hy => ?_]
    · exact Prod.ext rfl g0
    · obtain ⟨s, hs, hys⟩ := (hm y).1 hy
      exact E.tr (g2 _ (List.mem_map.2 ⟨s, hs, rfl⟩)) ((E.get (ne s hs)).2.2 y hys)
theorem rows_mem {X : Arr} {m n : Nat} (h : m * n = X.xs.length) (hr : rowsL X = (List.range m).map (fun i => (X.xs.drop (i * n)).take n)) (y : Int) : y ∈ X.xs ↔ ∃ r ∈ rowsL X, y ∈ r := by
  constructor
  · intro hy
    obtain ⟨j, hj, e⟩ := List.mem_iff_getElem.1 hy
    have hn : 0 < n := by rcases Nat.eq_zero_or_pos n with q | q; (subst q; omega); exact q
    have hi : j / n < m := Nat.div_lt_of_lt_mul (by rw [Nat.mul_comm, h]; exact hj)
    refine ⟨_, by rw [hr]; exact List.mem_map.2 ⟨j / n, List.mem_range.2 hi, rfl⟩, (mem_part (row_end h hi) y).2 ⟨j % n, Nat.mod_lt _ hn, ?_⟩⟩
    rw [Nat.mul_comm, Nat.div_add_mod, List.getD_eq_getElem?_getD, List.getElem?_eq_getElem hj]; exact e
  · rintro ⟨r, hr', hy⟩
    rw [hr] at hr'
    obtain ⟨i, _, rfl⟩ := List.mem_map.1 hr'
    exact List.mem_of_mem_drop (List.mem_of_mem_take hy)
theorem flat_end (E : EndOk f le) {X : Arr} (hf : chkF true X = 0) (hr : X.r = 2) {l : List Int} (hl : l.length ≤ 400) (hx : ∀ y, y ∈ l ↔ y ∈ X.xs) :
    ((extFold true f X).1 = 0 → extFold true f (extFold true f X).2 = extFold true f (vec' 1 l)) ∧ ((extFold true f X).1 ≠ 0 → extFold true f X = (13, .zero) ∧ extFold true f (vec' 1 l) = (13, .zero)) := by
  obtain ⟨m, n, hm, m4, n4, hR⟩ := rows_shape hf hr
  have hmem : ∀ y, y ∈ l ↔ ∃ r ∈ rowsL X, y ∈ r := fun y => (hx y).trans (rows_mem hm hR y)
  constructor
  · intro h
    obtain ⟨g1, g2⟩ := fold_ok hf h
    rw [g2, foldR_vec hr, fold_vec (vec_chk (by rw [hR]; simp; exact m4)), fold_vec (vec_chk hl), E.rows hmem g1]
  · intro h
    have q : (mapG f (rowsL X)).1 ≠ 0 := fun q => h (by rw [extFold_ok (ys := (mapG f (rowsL X)).2) hf (Prod.ext q rfl)])
    have hn : n = 0 := by
      rcases Nat.eq_zero_or_pos n with e | e
      · exact e
      · exact absurd ((mapG_iff _ _).2 fun r hr' => by
          rw [hR] at hr'
          obtain ⟨i, hi, rfl⟩ := List.mem_map.1 hr'
          refine (E.get fun e' => ?_).1
          have := part_len (row_end hm (List.mem_range.1 hi))
          rw [e'] at this
          have : 0 = n := this
          omega) q
    subst hn
    have hl0 : l = [] := List.eq_nil_iff_forall_not_mem.2 fun y hy => by
      obtain ⟨r, hr', hy⟩ := (hmem y).1 hy
      rw [hR] at hr'
      obtain ⟨i, _, rfl⟩ := List.mem_map.1 hr'
      rw [List.take_zero] at hy; cases hy
    have e13 : ∀ rows : List (List Int), (∀ r ∈ rows, r = []) → (mapG f rows).1 ≠ 0 → (mapG f rows).1 = 13 := by
      intro rows hrs hq
      cases rows with
      | nil => exact absurd rfl hq
      | cons r rows => rw [mapG_cons, hrs r (by simp), E.nil, if_pos (by decide)]
    refine ⟨?_, ?_⟩
    · rw [extFold_err hf q, e13 _ (fun r hr' => ?_) q]
      rw [hR] at hr'
      obtain ⟨i, _, rfl⟩ := List.mem_map.1 hr'
      rw [List.take_zero]
    · rw [fold_vec (vec_chk hl), hl0, E.nil]; rfl
theorem ends_iff (E : EndOk f le) {X : Arr} (hf : chkF true X = 0) : (extFold true f X).1 = 0 ↔ ∀ r ∈ rowsL X, r ≠ [] := by
  constructor
  · intro h r hr e
    have := (fold_ok hf h).1 r hr
    rw [e, E.nil] at this; cases this
  · intro h
    have q : (mapG f (rowsL X)).1 = 0 := (mapG_iff _ _).2 fun r hr => (E.get (h r hr)).1
    rw [extFold_ok (ys := (mapG f (rowsL X)).2) hf (Prod.ext q rfl)]
theorem one_of (E : EndOk f le) {a : Arr} (ca : chkF true a = 0) (ct : chkF true (flipped a) = 0) (hr : a.r = 2) : (extFold true f a).1 = 0 ∨ (extFold true f (flipped a)).1 = 0 := by
  obtain ⟨_, _, hm, _, _⟩ := rows_two (chkF_ok ca).1 hr
  have hR : ∀ X : Arr, X.r = 2 → rowsL X = (List.range X.l0.toNat).map (fun i => (X.xs.drop (i * X.l1.toNat)).take X.l1.toNat) := fun X h => by unfold rowsL; rw [if_neg (by omega)]
  rcases Nat.eq_zero_or_pos a.l1.toNat with e | e
  · right
    refine (ends_iff E ct).2 fun r h => ?_
    rw [hR _ rfl] at h
    have h : r ∈ (List.range a.l1.toNat).map _ := h
    rw [e] at h
    simp at h
  · left
    refine (ends_iff E ca).2 fun r h e' => ?_
    rw [hR _ hr] at h
    obtain ⟨i, hi, rfl⟩ := List.mem_map.1 h
    have := part_len (row_end hm (List.mem_range.1 hi))
    rw [e'] at this
    have : 0 = a.l1.toNat := this
    omega
theorem fine_ends (E : EndOk f le) {X : Arr} (hf : chkF true X = 0) (hr : X.r = 2) (hX : Fine X) (h : (extFold true f X).1 = 0) : Fine (extFold true f X).2 := by
  obtain ⟨m, n, hm, m4, n4, hR⟩ := rows_shape hf hr
  obtain ⟨g1, g2⟩ := fold_ok hf h
  rw [g2, foldR_vec hr]
  have hlen : ((rowsL X).map fun r => (f r).1).length = m := by rw [hR]; simp
  have hfit : Fits (((rowsL X).map fun r => (f r).1).length : Int) := by rw [hlen]; exact ⟨by omega, by omega⟩
  refine ⟨by show ((rowsL X).map fun r => (f r).1).length ≤ 100000; omega, hfit, by show Fits 0; decide, fun x hx => ?_⟩
  obtain ⟨r, hr', rfl⟩ := List.mem_map.1 hx
  have ne : r ≠ [] := fun e => by have := g1 r hr'; rw [e, E.nil] at this; cases this
  exact hX.2.2.2 _ ((rows_mem hm hR _).2 ⟨r, hr', (E.get ne).2.1⟩)
end
theorem fine_sums {X : Arr} (hf : chkF true X = 0) (hr : X.r = 2) (h : (extSum X).1 = 0) : Fine (extSum X).2 := by
  obtain ⟨m, n, hm, m4, n4, hR⟩ := rows_shape hf hr
  obtain ⟨g1, g2⟩ := fold_ok hf h
  have g2 : (extSum X).2 = foldR X ((rowsL X).map fun r => (sumRow r).1) := g2
  rw [g2, foldR_vec hr]
  have hlen : ((rowsL X).map fun r => (sumRow r).1).length = m := by rw [hR]; simp
  have hfit : Fits (((rowsL X).map fun r => (sumRow r).1).length : Int) := by rw [hlen]; exact ⟨by omega, by omega⟩
  refine ⟨by show ((rowsL X).map fun r => (sumRow r).1).length ≤ 100000; omega, hfit, by show Fits 0; decide, fun x hx => ?_⟩
  obtain ⟨r, hr', rfl⟩ := List.mem_map.1 hx
  exact (sumRow_ok (g1 r hr')).2
/-- what is known of a matrix, of its flip and of its cells -/
structure Flat (a t r : Arr) : Prop where
  fa : Fine a
  ft : Fine t
  fr : Fine r
  sa : (extSum a).1 = 0 → Fine (extSum a).2
  st : (extSum t).1 = 0 → Fine (extSum t).2
  la : (extEnd 31 a).1 = 0 → Fine (extEnd 31 a).2 ∧ extEnd 31 (extEnd 31 a).2 = extEnd 31 r
  lt : (extEnd 31 t).1 = 0 → Fine (extEnd 31 t).2 ∧ extEnd 31 (extEnd 31 t).2 = extEnd 31 r
  ma : (extEnd 32 a).1 = 0 → Fine (extEnd 32 a).2 ∧ extEnd 32 (extEnd 32 a).2 = extEnd 32 r
  mt : (extEnd 32 t).1 = 0 → Fine (extEnd 32 t).2 ∧ extEnd 32 (extEnd 32 t).2 = extEnd 32 r
  la' : (extEnd 31 a).1 ≠ 0 → extEnd 31 a = (13, .zero) ∧ extEnd 31 r = (13, .zero)
  lt' : (extEnd 31 t).1 ≠ 0 → extEnd 31 t = (13, .zero) ∧ extEnd 31 r = (13, .zero)
  ma' : (extEnd 32 a).1 ≠ 0 → extEnd 32 a = (13, .zero) ∧ extEnd 32 r = (13, .zero)
  mt' : (extEnd 32 t).1 ≠ 0 → extEnd 32 t = (13, .zero) ∧ extEnd 32 r = (13, .zero)
  ea : (extSum a).1 = 0 → (extSum (extSum a).2).1 = 0 → (extSum r).1 = 0 → (extSum (extSum a).2).2 = (extSum r).2
  no : (extEnd 31 a).1 = 0 ∨ (extEnd 31 t).1 = 0
  ka : (extEnd 31 a).1 = 0 ↔ (extEnd 32 a).1 = 0
  kt : (extEnd 31 t).1 = 0 ↔ (extEnd 32 t).1 = 0
  et : (extSum t).1 = 0 → (extSum (extSum t).2).1 = 0 → (extSum r).1 = 0 → (extSum (extSum t).2).2 = (extSum r).2
theorem flat_all {a : Arr} (hg : goodB a = true) (hr : a.r = 2) (hx : Fine a) : Flat a (flipped a) (vec' 1 a.xs) := by
  obtain ⟨_, ca, ka, _⟩ := goodB_yes hg
  obtain ⟨_, _, hmn, _, _⟩ := rows_two ca hr
  have cf : chkF true a = 0 := chkF_yes ca (by rintro ⟨_, e⟩; exact e ka) (by omega)
  have ct : chkF true (flipped a) = 0 := chkF_yes (flipped_chk ca hr) (by rintro ⟨_, e⟩; exact e ka) (by show (2 : Int) ≠ 0; decide)
  have h4 : a.xs.length ≤ 400 := by
    have cr := ravel_chk ca
    obtain ⟨m, n, _, e, m4, n4, _⟩ := rowsL_nat cr (by show (1 : Int) ≠ 0; decide)
    have hm := rows_vec (v := vec' a.k a.xs) rfl
    have hl := (rowsL_mem cr (by show (1 : Int) ≠ 0; decide) (row := a.xs) (by rw [hm]; simp [vec'])).1
    exact hl
  have tm : ∀ y, y ∈ a.xs ↔ y ∈ (flipped a).xs := fun y => by
    have := reixG_all (d := 0) (move_mat ca hr) (fun x => x ≠ y)
    rw [reixG_int] at this
    constructor
    · intro h; exact Classical.byContradiction fun hn => (this.1 fun x hx e => hn (e ▸ hx)) y h rfl
    · intro h; exact Classical.byContradiction fun hn => (this.2 fun x hx e => hn (e ▸ hx)) y h rfl
  have ft := fine_flipped ca hr hx
  have fr := fine_ravel hx
  rw [ka] at fr
  have r2 : (flipped a).r = 2 := rfl
  exact {
    fa := hx, ft := ft, fr := fr
    sa := fine_sums cf hr, st := fine_sums ct r2
    la := fun h => ⟨fine_ends endOk31 cf hr hx h, (flat_end endOk31 cf hr h4 fun _ => Iff.rfl).1 h⟩
    lt := fun h => ⟨fine_ends endOk31 ct r2 ft h, (flat_end endOk31 ct r2 h4 tm).1 h⟩
    ma := fun h => ⟨fine_ends endOk32 cf hr hx h, (flat_end endOk32 cf hr h4 fun _ => Iff.rfl).1 h⟩
    mt := fun h => ⟨fine_ends endOk32 ct r2 ft h, (flat_end endOk32 ct r2 h4 tm).1 h⟩
    la' := (flat_end endOk31 cf hr h4 fun _ => Iff.rfl).2
    lt' := (flat_end endOk31 ct r2 h4 tm).2
    ma' := (flat_end endOk32 cf hr h4 fun _ => Iff.rfl).2
    mt' := (flat_end endOk32 ct r2 h4 tm).2
    no := one_of endOk31 cf ct hr
    ka := (ends_iff endOk31 cf).trans (ends_iff endOk32 cf).symm
    kt := (ends_iff endOk31 ct).trans (ends_iff endOk32 ct).symm
    ea := fun h1 h2 h3 => by rw [flat_sum cf hr h1 h2, vec_total h4 h3]
    et := fun h1 h2 h3 => by rw [flat_sum ct r2 h1 h2, vec_total h4 h3, flipped_sum ca hr] }
end Ar
end Go.Proofs.Ytfpnafeildigaaa
