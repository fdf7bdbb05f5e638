/-
The plain law of FoldsBounds (chapter 11).
-/
import Derived.Test.YtfpnafeildigaaaFoW
import Derived.Test.YtfpnafeildigaaaBb4
set_option linter.unusedSimpArgs false
set_option linter.unusedVariables false
namespace Go.Proofs.Ytfpnafeildigaaa
namespace Ar
open Go.RowKit Sc
theorem fold31 : ∀ (xs : List Int) (x : Int), (xs.foldl (fun n y => (two 31 n y).1) x = x ∨ xs.foldl (fun n y => (two 31 n y).1) x ∈ xs) ∧ xs.foldl (fun n y => (two 31 n y).1) x ≤ x ∧ ∀ y ∈ xs, xs.foldl (fun n y => (two 31 n y).1) x ≤ y
  | [], x => ⟨Or.inl rfl, Int.le_refl _, fun y h => by cases h⟩
  | z :: xs, x => by
    obtain ⟨h1, h2, h3⟩ := fold31 xs (min x z)
    rw [List.foldl_cons, show (two 31 x z).1 = min x z from rfl]
    generalize xs.foldl (fun n y => (two 31 n y).1) (min x z) = v at *
    refine ⟨?_, by omega, fun y hy => ?_⟩
    · rcases h1 with h1 | h1
      · by_cases q : x ≤ z
        · left; omega
        · right; rw [show v = z by omega]; exact List.mem_cons_self
      · right; exact List.mem_cons_of_mem _ h1
    · rcases List.mem_cons.1 hy with h | h
      · omega
      · exact h3 y h
theorem fold32 : ∀ (xs : List Int) (x : Int), (xs.foldl (fun n y => (two 32 n y).1) x = x ∨ xs.foldl (fun n y => (two 32 n y).1) x ∈ xs) ∧ x ≤ xs.foldl (fun n y => (two 32 n y).1) x ∧ ∀ y ∈ xs, y ≤ xs.foldl (fun n y => (two 32 n y).1) x
  | [], x => ⟨Or.inl rfl, Int.le_refl _, fun y h => by cases h⟩
  | z :: xs, x => by
    obtain ⟨h1, h2, h3⟩ := fold32 xs (max x z)
    rw [List.foldl_cons, show (two 32 x z).1 = max x z from rfl]
    generalize xs.foldl (fun n y => (two 32 n y).1) (max x z) = v at *
    refine ⟨?_, by omega, fun y hy => ?_⟩
    · rcases h1 with h1 | h1
      · by_cases q : z ≤ x
        · left; omega
        · right; rw [show v = z by omega]; exact List.mem_cons_self
      · right; exact List.mem_cons_of_mem _ h1
    · rcases List.mem_cons.1 hy with h | h
      · omega
      · exact h3 y h
theorem end31 {row : List Int} (h : row ≠ []) : (endRow 31 row).2 = 0 ∧ (endRow 31 row).1 ∈ row ∧ ∀ y ∈ row, (endRow 31 row).1 ≤ y := by
  cases row with
  | nil => exact absurd rfl h
  | cons x xs =>
    obtain ⟨h1, h2, h3⟩ := fold31 xs x
    refine ⟨rfl, ?_, fun y hy => ?_⟩
    · show xs.foldl _ x ∈ _
      rcases h1 with h1 | h1
      · rw [h1]; exact List.mem_cons_self
      · exact List.mem_cons_of_mem _ h1
    · show xs.foldl _ x ≤ _
      rcases List.mem_cons.1 hy with e | e
      · rw [e]; exact h2
      · exact h3 y e
theorem end32 {row : List Int} (h : row ≠ []) : (endRow 32 row).2 = 0 ∧ (endRow 32 row).1 ∈ row ∧ ∀ y ∈ row, y ≤ (endRow 32 row).1 := by
  cases row with
  | nil => exact absurd rfl h
  | cons x xs =>
    obtain ⟨h1, h2, h3⟩ := fold32 xs x
    refine ⟨rfl, ?_, fun y hy => ?_⟩
    · show xs.foldl _ x ∈ _
      rcases h1 with h1 | h1
      · rw [h1]; exact List.mem_cons_self
      · exact List.mem_cons_of_mem _ h1
    · show _ ≤ xs.foldl _ x
      rcases List.mem_cons.1 hy with e | e
      · rw [e]; exact h2
      · exact h3 y e
theorem end31_eq {row : List Int} {v : Int} (h1 : v ∈ row) (h2 : ∀ y ∈ row, v ≤ y) : endRow 31 row = (v, 0) := by
  obtain ⟨e1, e2, e3⟩ := end31 (row := row) (by rintro rfl; cases h1)
  exact Prod.ext (by have := e3 v h1; have := h2 _ e2; show (endRow 31 row).1 = v; omega) e1
theorem end32_eq {row : List Int} {v : Int} (h1 : v ∈ row) (h2 : ∀ y ∈ row, y ≤ v) : endRow 32 row = (v, 0) := by
  obtain ⟨e1, e2, e3⟩ := end32 (row := row) (by rintro rfl; cases h1)
  exact Prod.ext (by have := e3 v h1; have := h2 _ e2; show (endRow 32 row).1 = v; omega) e1
/-- two rows with the same members -/
theorem end31_same {r s : List Int} (h : ∀ y, y ∈ r ↔ y ∈ s) : endRow 31 r = endRow 31 s := by
  by_cases e : s = []
  · have : r = [] := List.eq_nil_iff_forall_not_mem.2 fun y hy => by have := (h y).1 hy; rw [e] at this; cases this
    rw [this, e]
  · obtain ⟨e1, e2, e3⟩ := end31 e
    rw [end31_eq ((h _).2 e2) (fun y hy => e3 y ((h y).1 hy))]
    exact Prod.ext rfl e1.symm
theorem end31_neg (r : List Int) : endRow 31 (r.map (fun x => -x)) = (-(endRow 32 r).1, (endRow 32 r).2) := by
  by_cases e : r = []
  · rw [e]; rfl
  · obtain ⟨e1, e2, e3⟩ := end32 e
    rw [e1]
    refine end31_eq (List.mem_map.2 ⟨_, e2, rfl⟩) fun y hy => ?_
    obtain ⟨z, hz, rfl⟩ := List.mem_map.1 hy
    have := e3 z hz; omega
theorem mapG_same {α γ β : Type} {f : α → β × Int} {g : γ → β × Int} : ∀ {l : List α} {l' : List γ}, l'.map g = l.map f → mapG g l' = mapG f l
  | [], [], _ => rfl
  | [], _ :: _, h => by cases h
  | _ :: _, [], h => by cases h
  | a :: l, b :: l', h => by
    injection h with h1 h2
    rw [mapG_cons, mapG_cons, h1, mapG_same h2]
theorem extFold_same {ints : Bool} {f g : List Int → Int × Int} {a b : Arr} (hc : chkF ints b = chkF ints a) (hr : b.r = a.r) (h : (rowsL b).map g = (rowsL a).map f) : extFold ints g b = extFold ints f a := by
  unfold extFold foldR
  rw [hc, hr, mapG_same h]
theorem mem_part {xs : List Int} {q n : Nat} (h : q + n ≤ xs.length) (y : Int) : y ∈ (xs.drop q).take n ↔ ∃ k, k < n ∧ xs.getD (q + k) 0 = y := by
  rw [List.mem_iff_getElem]
  constructor
  · rintro ⟨k, hk, e⟩
    rw [part_len h] at hk
    refine ⟨k, hk, ?_⟩
    rw [← e, List.getElem_take, List.getElem_drop, List.getD_eq_getElem?_getD, List.getElem?_eq_getElem (by omega)]; rfl
  · rintro ⟨k, hk, e⟩
    refine ⟨k, by rw [part_len h]; exact hk, ?_⟩
    rw [← e, List.getElem_take, List.getElem_drop, List.getD_eq_getElem?_getD, List.getElem?_eq_getElem (by omega)]; rfl
/-- an array turned round has the rows' cells -/
theorem turned_part {a : Arr} (ca : chk a = 0) (hr : 0 < a.r) {m n : Nat} (hmn : rowsOf a = ((m : Int), (n : Int))) (hx : m * n = a.xs.length) {i : Nat} (hi : i < m) (y : Int) :
    y ∈ ((turned a).xs.drop (i * n)).take n ↔ y ∈ (a.xs.drop (i * n)).take n := by
  have q := row_end hx hi
  rw [mem_part (by rw [turned_len]; exact q), mem_part q, turned_r hr]
  have e : ∀ k, k < n → (reix (back (rowsOf a).2.toNat) a.xs.length a.xs).getD (i * n + k) 0 = a.xs.getD (i * n + (n - 1 - k)) 0 := fun k hk => by
    rw [reix_getD _ _ (by omega), hmn, show ((n : Int)).toNat = n from rfl, back_at hk]
  constructor
  · rintro ⟨k, hk, h⟩
    exact ⟨n - 1 - k, by omega, by rw [← h]; exact (e k hk).symm⟩
  · rintro ⟨k, hk, h⟩
    refine ⟨n - 1 - k, by omega, ?_⟩
    show (reix _ _ _).getD _ 0 = y
    rw [e _ (by omega), ← h]; congr 1; omega
theorem turned_rows {a : Arr} (ca : chk a = 0) (hr : 0 < a.r) {m n : Nat} (hmn : rowsOf a = ((m : Int), (n : Int))) (hx : m * n = a.xs.length) :
    rowsL a = (List.range m).map (fun i => (a.xs.drop (i * n)).take n) ∧ rowsL (turned a) = (List.range m).map (fun i => ((turned a).xs.drop (i * n)).take n) := by
  obtain ⟨s1, s2, s3, s4⟩ := turned_sh a
  have h : ∀ b : Arr, chk b = 0 → b.r ≠ 0 → rowsOf b = ((m : Int), (n : Int)) → rowsL b = (List.range m).map (fun i => (b.xs.drop (i * n)).take n) := fun b cb hb e => by
    obtain ⟨m', n', e1, _, _, _, e5⟩ := rowsL_nat cb hb
    rw [e] at e1
    injection e1 with e2 e3
    have e2 : m = m' := by omega
    have e3 : n = n' := by omega
    subst e2 e3
    exact e5
  refine ⟨h a ca (by omega) hmn, h _ (turned_chk ca) (by omega) ?_⟩
  rw [← hmn]; unfold rowsOf; rw [s2, s3, s4, turned_len]
theorem turned_chkF {ints : Bool} {a : Arr} (ca : chk a = 0) : chkF ints (turned a) = chkF ints a := by
  unfold chkF
  rw [turned_chk ca, ca, (turned_sh a).1, (turned_sh a).2.1]
theorem least_turned {a : Arr} (ca : chk a = 0) (hr : 0 < a.r) : extEnd 31 (turned a) = extEnd 31 a := by
  obtain ⟨m, n, hmn, hx, _⟩ := rows_nat ca (by omega)
  obtain ⟨r1, r2⟩ := turned_rows ca hr hmn hx
  refine extFold_same (turned_chkF ca) (turned_sh a).2.1 ?_
  rw [r1, r2, List.map_map, List.map_map]
  refine List.map_congr_left fun i hi => ?_
  exact end31_same (turned_part ca hr hmn hx (List.mem_range.1 hi))
theorem count_turned {a : Arr} (ca : chk a = 0) (hr : 0 < a.r) : extCount (turned a) = extCount a := by
  obtain ⟨m, n, hmn, hx, _⟩ := rows_nat ca (by omega)
  obtain ⟨r1, r2⟩ := turned_rows ca hr hmn hx
  refine extFold_same (turned_chkF ca) (turned_sh a).2.1 ?_
  rw [r1, r2, List.map_map, List.map_map]
  refine List.map_congr_left fun i hi => ?_
  have q := row_end hx (List.mem_range.1 hi)
  show countRow _ = countRow _
  unfold countRow
  rw [part_len q, part_len (by rw [turned_len]; exact q)]
theorem one1_val {x : Int} (h : (one 1 x).2 = 0) : (one 1 x).1 = -x := by
  have e : one 1 x = Sc.chk (-x) := rfl
  rw [e] at h ⊢
  unfold Sc.chk at h ⊢
  by_cases q : Fits (-x)
  · rw [if_pos q]
  · rw [if_neg q] at h; cases h
theorem one1_fits {x : Int} (h : Fits (-x)) : (one 1 x).2 = 0 := by
  have e : one 1 x = Sc.chk (-x) := rfl
  rw [e]
  unfold Sc.chk
  rw [if_pos h]
theorem one_neg {a N : Arr} (ca : chk a = 0) (ka : a.k = 1) (h : extOne 1 a = (0, N)) : N = ⟨1, a.r, a.l0, a.l1, a.xs.map (fun x => -x)⟩ := by
  unfold extOne at h
  rw [if_neg (by decide), if_neg (by simpa using ca), if_neg (by simpa using ka)] at h
  by_cases q : (mapE (one 1) a.xs).1 ≠ 0
  · rw [if_pos q] at h; exact absurd (congrArg Prod.fst h) q
  · rw [if_neg q] at h
    have q : (mapE (one 1) a.xs).1 = 0 := by simpa using q
    rw [mapE_map _ _ q] at h
    have e : N = ⟨1, a.r, a.l0, a.l1, a.xs.map (fun x => (one 1 x).1)⟩ := (congrArg Prod.snd h).symm
    rw [e]
    show (⟨1, a.r, a.l0, a.l1, _⟩ : Arr) = _
    rw [List.map_congr_left (fun x hx => one1_val ((mapE_iff _ _).1 q x hx))]
theorem one_neg_ok {Y : Arr} (cY : chk Y = 0) (kY : Y.k = 1) (h : ∀ x ∈ Y.xs, Fits (-x)) : extOne 1 Y = (0, ⟨1, Y.r, Y.l0, Y.l1, Y.xs.map (fun x => -x)⟩) := by
  have q : (mapE (one 1) Y.xs).1 = 0 := (mapE_iff _ _).2 fun x hx => one1_fits (h x hx)
  unfold extOne
  rw [if_neg (by decide), if_neg (by simpa using cY), if_neg (by simpa using kY), if_neg (by simpa using q), mapE_map _ _ q, List.map_congr_left (fun x hx => one1_val ((mapE_iff _ _).1 q x hx))]
theorem ends_ok {p : Int} {a : Arr} (hf : chkF true a = 0) (h : ∀ r ∈ rowsL a, (endRow p r).2 = 0) : extEnd p a = (0, foldR a ((rowsL a).map (fun r => (endRow p r).1))) := by
  have q : (mapG (endRow p) (rowsL a)).1 = 0 := (mapG_iff _ _).2 h
  show extFold true (endRow p) a = _
  rw [extFold_ok (ys := (mapG (endRow p) (rowsL a)).2) hf (Prod.ext q rfl), mapG_map _ _ q]
theorem ends_bad {p : Int} {a : Arr} (hf : chkF true a = 0) {m n : Nat} (hmn : rowsOf a = ((m : Int), (n : Int))) (hm : 0 < m) (hn : n = 0) : extEnd p a = (13, .zero) := by
  obtain ⟨m', n', e1, _, _, _, e5⟩ := rowsL_nat (chkF_ok hf).1 (chkF_ok hf).2.2
  rw [hmn] at e1
  injection e1 with e2 e3
  have e2 : m = m' := by omega
  have e3 : n = n' := by omega
  subst e2 e3 hn
  obtain ⟨k, rfl⟩ : ∃ k, m = k + 1 := ⟨m - 1, by omega⟩
  have e : rowsL a = [] :: ((List.range k).map (fun i => (a.xs.drop ((i + 1) * 0)).take 0)) := by
    rw [e5, List.range_succ_eq_map, List.map_cons, List.map_map]; rfl
  have q : (mapG (endRow p) (rowsL a)).1 = 13 := by rw [e, mapG_cons, if_pos (by show (13 : Int) ≠ 0; decide)]; rfl
  show extFold true (endRow p) a = _
  rw [extFold_err hf (by rw [q]; decide), q]
/-- was a value seen among the first k cells from q on? -/
def seen (xs : List Int) (v : Int) (q k : Nat) : Bool := (List.range k).any (fun j => xs.getD (q + j) 0 == v)
theorem seen_zero (xs : List Int) (v : Int) (q : Nat) : seen xs v q 0 = false := rfl
theorem seen_succ (xs : List Int) (v : Int) (q k : Nat) : seen xs v q (k + 1) = (seen xs v q k || xs.getD (q + k) 0 == v) := by
  unfold seen; rw [List.range_succ, List.any_append]; simp
theorem seen_all {xs : List Int} {v : Int} {q n : Nat} (h : ∃ k, k < n ∧ xs.getD (q + k) 0 = v) : seen xs v q n = true := by
  obtain ⟨k, hk, e⟩ := h
  unfold seen
  exact List.any_eq_true.2 ⟨k, List.mem_range.2 hk, by rw [e]; exact beq_self_eq_true v⟩
theorem foldR_len (a : Arr) (l : List Int) : (foldR a l).xs = l := foldR_xs a l
/-- the ends of an array's rows -/
theorem ends_bounds {a : Arr} (hg : goodB a = true) {m n : Nat} (hmn : rowsOf a = ((m : Int), (n : Int))) (hz : ¬ (0 < m ∧ n = 0)) :
    ∃ low high, extEnd 31 a = (0, low) ∧ extEnd 32 a = (0, high) ∧ low.xs.length = m ∧ high.xs.length = m ∧ m * n = a.xs.length ∧ ∀ i, i < m →
      (∀ k, k < n → low.xs.getD i 0 ≤ a.xs.getD (i * n + k) 0 ∧ a.xs.getD (i * n + k) 0 ≤ high.xs.getD i 0) ∧ (∃ k, k < n ∧ a.xs.getD (i * n + k) 0 = low.xs.getD i 0) ∧ (∃ k, k < n ∧ a.xs.getD (i * n + k) 0 = high.xs.getD i 0) := by
  have hf := good_chkF hg
  obtain ⟨m', n', e1, e4, _, _, e5⟩ := rowsL_nat (chkF_ok hf).1 (chkF_ok hf).2.2
  rw [hmn] at e1
  injection e1 with e2 e3
  have e2 : m = m' := by omega
  have e3 : n = n' := by omega
  subst e2 e3
  have hne : ∀ i, i < m → (a.xs.drop (i * n)).take n ≠ [] := fun i hi e => by
    have := part_len (row_end e4 hi)
    rw [e] at this
    have : 0 = n := this
    omega
  have h31 : ∀ r ∈ rowsL a, (endRow 31 r).2 = 0 := fun r hr => by
    rw [e5, List.mem_map] at hr
    obtain ⟨i, hi, rfl⟩ := hr
    exact (end31 (hne i (List.mem_range.1 hi))).1
  have h32 : ∀ r ∈ rowsL a, (endRow 32 r).2 = 0 := fun r hr => by
    rw [e5, List.mem_map] at hr
    obtain ⟨i, hi, rfl⟩ := hr
    exact (end32 (hne i (List.mem_range.1 hi))).1
  refine ⟨_, _, ends_ok hf h31, ends_ok hf h32, by rw [foldR_xs, e5]; simp, by rw [foldR_xs, e5]; simp, e4, fun i hi => ?_⟩
  have g31 : ((rowsL a).map (fun r => (endRow 31 r).1)).getD i 0 = (endRow 31 ((a.xs.drop (i * n)).take n)).1 := by
    rw [e5, List.getD_eq_getElem?_getD]; simp [hi]
  have g32 : ((rowsL a).map (fun r => (endRow 32 r).1)).getD i 0 = (endRow 32 ((a.xs.drop (i * n)).take n)).1 := by
    rw [e5, List.getD_eq_getElem?_getD]; simp [hi]
  rw [foldR_xs, foldR_xs, g31, g32]
  have q := row_end e4 hi
  obtain ⟨_, a2, a3⟩ := end31 (hne i hi)
  obtain ⟨_, b2, b3⟩ := end32 (hne i hi)
  exact ⟨fun k hk => ⟨a3 _ ((mem_part q _).2 ⟨k, hk, rfl⟩), b3 _ ((mem_part q _).2 ⟨k, hk, rfl⟩)⟩, (mem_part q _).1 a2, (mem_part q _).1 b2⟩
theorem rowsL_map {a : Arr} (ca : chk a = 0) (hr : a.r ≠ 0) (g : Int → Int) : rowsL ⟨1, a.r, a.l0, a.l1, a.xs.map g⟩ = (rowsL a).map (fun r => r.map g) := by
  unfold rowsL
  by_cases h : a.r = 1
  · rw [if_pos (by exact h), if_pos h]; rfl
  · rw [if_neg (by exact h), if_neg h, List.map_map]
    refine List.map_congr_left fun i _ => ?_
    show ((a.xs.map g).drop _).take _ = (((a.xs.drop _).take _).map g)
    rw [List.map_take, List.map_drop]
/-- the greatest cells are the least ones of the negated array, negated -/
theorem neg_ends {a N high : Arr} (hg : goodB a = true) (hx : ∀ x ∈ a.xs, Fits x) (hN : extOne 1 a = (0, N)) (hH : extEnd 32 a = (0, high)) :
    ∃ Y, extEnd 31 N = (0, Y) ∧ extOne 1 Y = (0, high) := by
  have hf := good_chkF hg
  obtain ⟨ca, _, hr⟩ := chkF_ok hf
  have ka := (goodB_yes hg).2.2.1
  have eN := one_neg ca ka hN
  have cN : chk N = 0 := by have := one_chk (p := 1) ca (by rw [hN]); rw [hN] at this; exact this
  have fN : chkF true N = 0 := chkF_yes cN (by rintro ⟨_, e⟩; exact e (by rw [eN])) (by rw [eN]; exact hr)
  have q : (mapG (endRow 32) (rowsL a)).1 = 0 := by
    by_cases h : (mapG (endRow 32) (rowsL a)).1 = 0
    · exact h
    · rw [show extEnd 32 a = extFold true (endRow 32) a from rfl, extFold_err hf h] at hH
      exact absurd (congrArg Prod.fst hH) h
  have q2 := (mapG_iff _ _).1 q
  have hh : high = foldR a ((rowsL a).map (fun r => (endRow 32 r).1)) := by
    rw [ends_ok hf q2] at hH; exact (congrArg Prod.snd hH).symm
  have rN : rowsL N = (rowsL a).map (fun r => r.map (fun x => -x)) := by rw [eN]; exact rowsL_map ca hr _
  have q3 : ∀ r ∈ rowsL N, (endRow 31 r).2 = 0 := fun r hm => by
    rw [rN] at hm
    obtain ⟨s, hs, rfl⟩ := List.mem_map.1 hm
    rw [end31_neg]; exact q2 s hs
  refine ⟨_, ends_ok fN q3, ?_⟩
  have eY : (rowsL N).map (fun r => (endRow 31 r).1) = ((rowsL a).map (fun r => (endRow 32 r).1)).map (fun x => -x) := by
    rw [rN, List.map_map, List.map_map, List.map_congr_left (fun r _ => ?_)]
    show (endRow 31 (r.map _)).1 = -(endRow 32 r).1
    rw [end31_neg]
  have eF : foldR N ((rowsL N).map (fun r => (endRow 31 r).1)) = foldR a (((rowsL a).map (fun r => (endRow 32 r).1)).map (fun x => -x)) := by
    rw [eY]; unfold foldR; rw [eN]
  rw [eF]
  have hmem : ∀ v ∈ (rowsL a).map (fun r => (endRow 32 r).1), Fits v := fun v hv => by
    obtain ⟨r, hr2, rfl⟩ := List.mem_map.1 hv
    have hne : r ≠ [] := by rintro rfl; exact absurd (q2 [] hr2) (by show (13 : Int) ≠ 0; decide)
    exact hx _ ((rowsL_mem ca hr hr2).2 _ (end32 hne).2.1)
  have hlen : ((rowsL a).map (fun r => (endRow 32 r).1)).length ≤ 400 ∧ (a.r = 1 → ((rowsL a).map (fun r => (endRow 32 r).1)).length = 1) := by
    obtain ⟨m, n, e1, e4, e6, _, e5⟩ := rowsL_nat ca hr
    refine ⟨by rw [e5]; simp; omega, fun h => ?_⟩
    rw [rows_vec h]; rfl
  generalize (rowsL a).map (fun r => (endRow 32 r).1) = L at *
  have cY : chk (foldR a (L.map (fun x => -x))) = 0 := by
    unfold foldR
    by_cases h : a.r = 1
    · rw [if_pos h]; exact chk_res (sh_0t rfl rfl) (by rw [List.length_map, hlen.2 h]; rfl)
    · rw [if_neg h]; exact chk_res (sh_1t (by omega) (by rw [List.length_map]; have := hlen.1; omega) rfl) (by rw [prod_1])
  rw [one_neg_ok cY (by unfold foldR; split <;> rfl) (fun x hx => by
    rw [foldR_xs] at hx
    obtain ⟨v, hv, rfl⟩ := List.mem_map.1 hx
    rw [Int.neg_neg]; exact hmem v hv), hh, foldR_xs, List.map_map]
  have e : L.map ((fun x => -x) ∘ fun x => -x) = L := by
    rw [List.map_congr_left (g := id) (fun x _ => by show - -x = x; omega), List.map_id]
  rw [e]
  unfold foldR
  by_cases h : a.r = 1
  · rw [if_pos h, if_pos h]
  · rw [if_neg h, if_neg h, List.length_map]
theorem neg_fits {a N : Arr} (ca : chk a = 0) (ka : a.k = 1) (h : extOne 1 a = (0, N)) : ∀ x ∈ a.xs, Fits (-x) := by
  unfold extOne at h
  rw [if_neg (by decide), if_neg (by simpa using ca), if_neg (by simpa using ka)] at h
  by_cases q : (mapE (one 1) a.xs).1 ≠ 0
  · rw [if_pos q] at h; exact absurd (congrArg Prod.fst h) q
  · have q : (mapE (one 1) a.xs).1 = 0 := by simpa using q
    intro x hx
    have h2 := (mapE_iff _ _).1 q x hx
    have e : one 1 x = Sc.chk (-x) := rfl
    rw [e] at h2
    unfold Sc.chk at h2
    by_cases q2 : Fits (-x)
    · exact q2
    · rw [if_neg q2] at h2; cases h2
theorem fine_neg {a N : Arr} (ca : chk a = 0) (ka : a.k = 1) (ha : Fine a) (h : extOne 1 a = (0, N)) : Fine N := by
  have f := neg_fits ca ka h
  rw [one_neg ca ka h]
  refine ⟨by rw [List.length_map]; exact ha.1, ha.2.1, ha.2.2.1, fun x hx => ?_⟩
  obtain ⟨y, hy, rfl⟩ := List.mem_map.1 hx
  exact f y hy
theorem fine_least {a Y : Arr} (hf : chkF true a = 0) (ha : Fine a) (h : extEnd 31 a = (0, Y)) : Fine Y := by
  obtain ⟨ca, _, hr⟩ := chkF_ok hf
  have q : (mapG (endRow 31) (rowsL a)).1 = 0 := by
    by_cases q : (mapG (endRow 31) (rowsL a)).1 = 0
    · exact q
    · rw [show extEnd 31 a = extFold true (endRow 31) a from rfl, extFold_err hf q] at h
      exact absurd (congrArg Prod.fst h) q
  have q2 := (mapG_iff _ _).1 q
  have hY : Y = foldR a ((rowsL a).map (fun r => (endRow 31 r).1)) := by
    rw [ends_ok hf q2] at h; exact (congrArg Prod.snd h).symm
  have hlen : ((rowsL a).map (fun r => (endRow 31 r).1)).length ≤ 400 := by
    obtain ⟨m, n, e1, e4, e6, _, e5⟩ := rowsL_nat ca hr
    rw [e5]; simp; omega
  have hmem : ∀ v ∈ (rowsL a).map (fun r => (endRow 31 r).1), Fits v := fun v hv => by
    obtain ⟨r, hr2, rfl⟩ := List.mem_map.1 hv
    have hne : r ≠ [] := by rintro rfl; exact absurd (q2 [] hr2) (by show (13 : Int) ≠ 0; decide)
    exact ha.2.2.2 _ ((rowsL_mem ca hr hr2).2 _ (end31 hne).2.1)
  rw [hY]
  generalize (rowsL a).map (fun r => (endRow 31 r).1) = L at *
  have hL : -9223372036854775808 ≤ (L.length : Int) ∧ (L.length : Int) ≤ 9223372036854775807 := by omega
  unfold foldR
  split
  · exact ⟨by show L.length ≤ _; omega, by show Fits 0; decide, by show Fits 0; decide, hmem⟩
  · exact ⟨by show L.length ≤ _; omega, hL, by show Fits 0; decide, hmem⟩
theorem neg_chkF {a N : Arr} (hg : goodB a = true) (hN : extOne 1 a = (0, N)) : chkF true N = 0 := by
  have hf := good_chkF hg
  obtain ⟨ca, _, hr⟩ := chkF_ok hf
  have eN := one_neg ca (goodB_yes hg).2.2.1 hN
  have cN : chk N = 0 := by have := one_chk (p := 1) ca (by rw [hN]); rw [hN] at this; exact this
  exact chkF_yes cN (by rintro ⟨_, e⟩; exact e (by rw [eN])) (by rw [eN]; exact hr)
end Ar
end Go.Proofs.Ytfpnafeildigaaa
