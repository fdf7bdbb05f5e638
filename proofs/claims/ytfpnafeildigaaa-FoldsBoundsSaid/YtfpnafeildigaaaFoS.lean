/-
good and width of chapter 11's laws; the plain law of FoldsScans.
-/
import Derived.Test.YtfpnafeildigaaaFoR
set_option linter.unusedSimpArgs false
set_option linter.unusedVariables false
namespace Go.Proofs.Ytfpnafeildigaaa
namespace Ar
open Go.RowKit Sc
def goodB (a : Arr) : Bool := !decide (405 < (a.xs.length : Int)) && (chk a == 0 && (a.k == 1 && decide (0 < a.r)))
theorem goodB_yes {a : Arr} (h : goodB a = true) : a.xs.length ≤ 405 ∧ chk a = 0 ∧ a.k = 1 ∧ 0 < a.r := by
  unfold goodB at h
  simp only [Bool.and_eq_true, beq_iff_eq, decide_eq_true_eq, Bool.not_eq_true', decide_eq_false_iff_not] at h
  obtain ⟨h1, h2, h3, h4⟩ := h
  exact ⟨by omega, h2, h3, h4⟩
theorem good_chkF {a : Arr} (h : goodB a = true) : chkF true a = 0 := by
  obtain ⟨h1, h2, h3, h4⟩ := goodB_yes h
  exact chkF_yes h2 (by rintro ⟨_, e⟩; exact e h3) (by omega)
set_option maxHeartbeats 1000000 in
theorem good_any (a : Arr) (A : Option Addr) (c : Nat) (hla : a.xs.length ≤ 9223372036854775807) (f0 : Fits a.l0) (f1 : Fits a.l1) (w : World) (hs : Sl w A a.xs) :
    Calls Try.prog 52 #[.agg #[.int .i64 a.k, .int .i64 a.r, .int .i64 a.l0, .int .i64 a.l1, .slice A a.xs.length c]] w fun e w' => e = .returned (.bool (goodB a)) ∧ Below w.heap.size w w' := by
  cases t1 : decide (405 < (a.xs.length : Int))
  rotate_left
  · have HK : Hid (goodB a = false) := by show _ = _; unfold goodB; rw [t1]; rfl
    have T1 := hide t1
    clear t1
    go_enter Try.func52, Try.ntmps52
    go_wp2_with fail
    refine (far_any a A c _).mono ?_
    rw [T1.out]
    rintro e w1 ⟨rfl, hg1⟩
    go_wp2
    go_ret
    exact ⟨by rw [HK.out]; rfl, by (repeat (first | with_reducible exact Below.refl _ _ | with_reducible assumption | (with_reducible refine bl_set ?_ (by simp; try omega) _) | (with_reducible refine bl_alloc ?_ _) | (with_reducible refine bl_dn ?_ _) | (with_reducible refine bl_drew ?_) | (with_reducible refine bl_then ?_ (by with_reducible assumption))))⟩
  cases t2 : (chk a == 0)
  · have HK : Hid (goodB a = false) := by show _ = _; unfold goodB; rw [t1, t2]; rfl
    have T1 := hide t1
    clear t1
    go_enter Try.func52, Try.ntmps52
    go_wp2_with fail
    refine (far_any a A c _).mono ?_
    rw [T1.out]
    rintro e w1 ⟨rfl, hg1⟩
    have st1 := hide (((St.init w).box c hs).below hg1)
    obtain ⟨hbw, ⟨⟨a0, a1, a2, a3, a4⟩, sa, za⟩, _⟩ := st1.out
    go_wp2_with fail
    refine (Ref.ac_any a A c hla f0 f1 _ (sa.below (by (repeat (first | with_reducible exact Below.refl _ _ | with_reducible assumption | (with_reducible refine bl_set ?_ (by simp; try omega) _) | (with_reducible refine bl_alloc ?_ _) | (with_reducible refine bl_dn ?_ _) | (with_reducible refine bl_drew ?_) | (with_reducible refine bl_then ?_ (by with_reducible assumption))))))).mono ?_
    rintro e w2 ⟨rfl, hg2⟩
    go_wp2
    go_ret
    exact ⟨by rw [HK.out]; rfl, by (repeat (first | with_reducible exact Below.refl _ _ | with_reducible assumption | (with_reducible refine bl_set ?_ (by simp; try omega) _) | (with_reducible refine bl_alloc ?_ _) | (with_reducible refine bl_dn ?_ _) | (with_reducible refine bl_drew ?_) | (with_reducible refine bl_then ?_ (by with_reducible assumption))))⟩
  cases t3 : (a.k == 1)
  · have HK : Hid (goodB a = false) := by show _ = _; unfold goodB; rw [t1, t2, t3]; rfl
    (have T1 := hide t1; have T2 : Hid (chk a = 0) := (by show _ = _; simpa using t2); clear t1 t2; go_enter Try.func52, Try.ntmps52; go_wp2_with fail; refine (far_any a A c _).mono ?_; rw [T1.out]; rintro e w1 ⟨rfl, hg1⟩; have st1 := hide (((St.init w).box c hs).below hg1); obtain ⟨hbw, ⟨⟨a0, a1, a2, a3, a4⟩, sa, za⟩, _⟩ := st1.out; go_wp2_with fail; refine (Ref.ac_any a A c hla f0 f1 _ (sa.below (by (repeat (first | with_reducible exact Below.refl _ _ | with_reducible assumption | (with_reducible refine bl_set ?_ (by simp; try omega) _) | (with_reducible refine bl_alloc ?_ _) | (with_reducible refine bl_dn ?_ _) | (with_reducible refine bl_drew ?_) | (with_reducible refine bl_then ?_ (by with_reducible assumption))))))).mono ?_; rw [T2.out]; rintro e w2 ⟨rfl, hg2⟩; have st2 := hide (st1.out.below hg2); clear hbw; clear a0 a1 a2 a3 a4 sa za; obtain ⟨hbw, ⟨⟨a0, a1, a2, a3, a4⟩, sa, za⟩, _⟩ := st2.out)
    go_wp2
    go_ret
    exact ⟨by rw [HK.out]; rfl, by (repeat (first | with_reducible exact Below.refl _ _ | with_reducible assumption | (with_reducible refine bl_set ?_ (by simp; try omega) _) | (with_reducible refine bl_alloc ?_ _) | (with_reducible refine bl_dn ?_ _) | (with_reducible refine bl_drew ?_) | (with_reducible refine bl_then ?_ (by with_reducible assumption))))⟩
  · cases t4 : decide (0 < a.r)
    · have HK : Hid (goodB a = false) := by show _ = _; unfold goodB; rw [t1, t2, t3, t4]; rfl
      (have T1 := hide t1; have T2 : Hid (chk a = 0) := (by show _ = _; simpa using t2); clear t1 t2; go_enter Try.func52, Try.ntmps52; go_wp2_with fail; refine (far_any a A c _).mono ?_; rw [T1.out]; rintro e w1 ⟨rfl, hg1⟩; have st1 := hide (((St.init w).box c hs).below hg1); obtain ⟨hbw, ⟨⟨a0, a1, a2, a3, a4⟩, sa, za⟩, _⟩ := st1.out; go_wp2_with fail; refine (Ref.ac_any a A c hla f0 f1 _ (sa.below (by (repeat (first | with_reducible exact Below.refl _ _ | with_reducible assumption | (with_reducible refine bl_set ?_ (by simp; try omega) _) | (with_reducible refine bl_alloc ?_ _) | (with_reducible refine bl_dn ?_ _) | (with_reducible refine bl_drew ?_) | (with_reducible refine bl_then ?_ (by with_reducible assumption))))))).mono ?_; rw [T2.out]; rintro e w2 ⟨rfl, hg2⟩; have st2 := hide (st1.out.below hg2); clear hbw; clear a0 a1 a2 a3 a4 sa za; obtain ⟨hbw, ⟨⟨a0, a1, a2, a3, a4⟩, sa, za⟩, _⟩ := st2.out)
      go_wp2
      go_ret
      exact ⟨by rw [HK.out]; rfl, by (repeat (first | with_reducible exact Below.refl _ _ | with_reducible assumption | (with_reducible refine bl_set ?_ (by simp; try omega) _) | (with_reducible refine bl_alloc ?_ _) | (with_reducible refine bl_dn ?_ _) | (with_reducible refine bl_drew ?_) | (with_reducible refine bl_then ?_ (by with_reducible assumption))))⟩
    · have HK : Hid (goodB a = true) := by show _ = _; unfold goodB; rw [t1, t2, t3, t4]; rfl
      (have T1 := hide t1; have T2 : Hid (chk a = 0) := (by show _ = _; simpa using t2); clear t1 t2; go_enter Try.func52, Try.ntmps52; go_wp2_with fail; refine (far_any a A c _).mono ?_; rw [T1.out]; rintro e w1 ⟨rfl, hg1⟩; have st1 := hide (((St.init w).box c hs).below hg1); obtain ⟨hbw, ⟨⟨a0, a1, a2, a3, a4⟩, sa, za⟩, _⟩ := st1.out; go_wp2_with fail; refine (Ref.ac_any a A c hla f0 f1 _ (sa.below (by (repeat (first | with_reducible exact Below.refl _ _ | with_reducible assumption | (with_reducible refine bl_set ?_ (by simp; try omega) _) | (with_reducible refine bl_alloc ?_ _) | (with_reducible refine bl_dn ?_ _) | (with_reducible refine bl_drew ?_) | (with_reducible refine bl_then ?_ (by with_reducible assumption))))))).mono ?_; rw [T2.out]; rintro e w2 ⟨rfl, hg2⟩; have st2 := hide (st1.out.below hg2); clear hbw; clear a0 a1 a2 a3 a4 sa za; obtain ⟨hbw, ⟨⟨a0, a1, a2, a3, a4⟩, sa, za⟩, _⟩ := st2.out)
      go_wp2
      go_ret
      exact ⟨by rw [HK.out]; rfl, by (repeat (first | with_reducible exact Below.refl _ _ | with_reducible assumption | (with_reducible refine bl_set ?_ (by simp; try omega) _) | (with_reducible refine bl_alloc ?_ _) | (with_reducible refine bl_dn ?_ _) | (with_reducible refine bl_drew ?_) | (with_reducible refine bl_then ?_ (by with_reducible assumption))))⟩
theorem width_any (a : Arr) (A : Option Addr) (c : Nat) (hc : chk a = 0) (hr : a.r ≠ 0) (w : World) :
    Calls Try.prog 53 #[.agg #[.int .i64 a.k, .int .i64 a.r, .int .i64 a.l0, .int .i64 a.l1, .slice A a.xs.length c]] w fun e w' => e = .returned (.tuple #[.int .i64 (rowsOf a).1, .int .i64 (rowsOf a).2]) ∧ Below w.heap.size w w' := by
  unfold rowsOf
  by_cases h : a.r = 2
  · have n1 : (a.r == 1) = false := by rw [h]; rfl
    rw [if_pos h]
    clear h hc hr
    go_enter Try.func53, Try.ntmps53
    go_wp2
    go_region
    all_goals
      go_wp2
      go_ret2
      exact ⟨rfl, by (repeat (first | with_reducible exact Below.refl _ _ | with_reducible assumption | (with_reducible refine bl_set ?_ (by simp; try omega) _) | (with_reducible refine bl_alloc ?_ _) | (with_reducible refine bl_dn ?_ _) | (with_reducible refine bl_drew ?_) | (with_reducible refine bl_then ?_ (by with_reducible assumption))))⟩
  · have h1 : a.r = 1 := by have := (sh_ok (chk_sh hc).1).1; omega
    have n1 : (a.r == 1) = true := by rw [h1]; rfl
    rw [if_neg h]
    clear h h1 hc hr
    go_enter Try.func53, Try.ntmps53
    go_wp2
    go_region
    all_goals
      go_wp2
      go_ret2
      exact ⟨rfl, by (repeat (first | with_reducible exact Below.refl _ _ | with_reducible assumption | (with_reducible refine bl_set ?_ (by simp; try omega) _) | (with_reducible refine bl_alloc ?_ _) | (with_reducible refine bl_dn ?_ _) | (with_reducible refine bl_drew ?_) | (with_reducible refine bl_then ?_ (by with_reducible assumption))))⟩
theorem two15_err {x y : Int} (h : (two 15 x y).2 ≠ 0) : (two 15 x y).2 = 12 := by
  have e : two 15 x y = Sc.chk (x + y) := rfl
  rw [e] at h ⊢
  unfold Sc.chk at h ⊢
  split
  · rename_i h1; rw [if_pos h1] at h; exact absurd rfl h
  · rfl
theorem two15_val {x y : Int} (h : (two 15 x y).2 = 0) : (two 15 x y).1 = x + y := by
  have e : two 15 x y = Sc.chk (x + y) := rfl
  rw [e] at h ⊢
  unfold Sc.chk at h ⊢
  split
  · rfl
  · rename_i h1; rw [if_neg h1] at h; cases h
theorem scanE_12 {n : Int} : ∀ {l : List Int}, (scanE n l).1 ≠ 0 → (scanE n l).1 = 12 := by
  intro l
  induction l generalizing n with
  | nil => intro h; exact absurd rfl h
  | cons x l ih =>
    intro h
    rw [scanE_cons] at h ⊢
    by_cases h1 : (two 15 n x).2 ≠ 0
    · rw [if_pos h1]; exact two15_err h1
    · rw [if_neg h1] at h ⊢
      by_cases h2 : (scanE (two 15 n x).1 l).1 ≠ 0
      · rw [if_pos h2]; exact ih h2
      · rw [if_neg h2] at h; exact absurd rfl h
theorem scan_get {n : Int} : ∀ {l ys : List Int}, scanE n l = (0, ys) → ∀ k, k < l.length → ys.getD k 0 = lastE n (ys.take k) + l.getD k 0 := by
  intro l
  induction l generalizing n with
  | nil => intro ys _ k hk; simp at hk
  | cons x l ih =>
    intro ys h k hk
    rw [scanE_cons] at h
    by_cases ha : (two 15 n x).2 = 0
    · rw [if_neg (by simpa using ha)] at h
      by_cases hl : (scanE (two 15 n x).1 l).1 = 0
      · rw [if_neg (by simpa using hl)] at h
        simp only [Prod.mk.injEq, true_and] at h
        subst h
        cases k with
        | zero => show (two 15 n x).1 = n + x; exact two15_val ha
        | succ k =>
          have := ih (n := (two 15 n x).1) (ys := (scanE (two 15 n x).1 l).2) (by rw [← hl]) k (by simpa using hk)
          simpa [lastE] using this
      · rw [if_pos hl] at h
        exact absurd (congrArg Prod.fst h) hl
    · rw [if_pos ha] at h
      exact absurd (congrArg Prod.fst h) ha
theorem flat_get {n : Nat} : ∀ {l : List (List Int)} {i k : Nat}, (∀ r ∈ l, r.length = n) → i < l.length → k < n → l.flatten.getD (i * n + k) 0 = (l.getD i []).getD k 0
  | [], i, k, _, hi, _ => by simp at hi
  | r :: l, 0, k, h, _, hk => by
    have := h r (by simp)
    simp [List.getD_eq_getElem?_getD, List.getElem?_append_left (show k < r.length by omega)]
  | r :: l, i + 1, k, h, hi, hk => by
    have hr := h r (by simp)
    have ih := flat_get (l := l) (i := i) (k := k) (fun r' hr' => h r' (List.mem_cons_of_mem _ hr')) (by simpa using hi) hk
    rw [List.flatten_cons, List.getD_eq_getElem?_getD, List.getElem?_append_right (by rw [Nat.succ_mul]; omega), ← List.getD_eq_getElem?_getD, show (i + 1) * n + k - r.length = i * n + k by rw [Nat.succ_mul]; omega, ih]
    simp
/-- sums and sums on the way have the same errors -/
theorem sum_scan (l : List (List Int)) : (mapG sumRow l).1 = (mapG scanRow l).1 := by
  induction l with
  | nil => rfl
  | cons r l ih =>
    rw [mapG_cons, mapG_cons]
    have e : (sumRow r).2 = (scanRow r).2 := by
      unfold sumRow scanRow
      split
      · rfl
      · rename_i h; simp only [ne_eq, Decidable.not_not] at h; exact h.symm
    rw [e, ih]
    split
    · rfl
    · split <;> rfl
theorem scan_12 (l : List (List Int)) (h : (mapG scanRow l).1 ≠ 0) : (mapG scanRow l).1 = 12 := by
  induction l with
  | nil => exact absurd rfl h
  | cons r l ih =>
    rw [mapG_cons] at h ⊢
    by_cases h1 : (scanRow r).2 ≠ 0
    · rw [if_pos h1]; exact scanE_12 h1
    · rw [if_neg h1] at h ⊢
      by_cases h2 : (mapG scanRow l).1 ≠ 0
      · rw [if_pos h2]; exact ih h2
      · rw [if_neg h2] at h; exact absurd rfl h
/-- errors of both: the same, overflow alone, without cells -/
theorem scans_err {a : Arr} (h : chkF true a = 0) : (extSum a).1 = (extScan a).1 ∧ ((extScan a).1 ≠ 0 → (extScan a).1 = 12 ∧ (extScan a).2 = .zero ∧ (extSum a).2 = .zero) := by
  have e := sum_scan (rowsL a)
  by_cases h1 : (mapG scanRow (rowsL a)).1 = 0
  · rw [extScan_ok h (Prod.ext h1 rfl), show extSum a = _ from extFold_ok h (Prod.ext (e.trans h1) rfl)]
    exact ⟨rfl, fun h => absurd rfl h⟩
  · rw [extScan_err h h1, show extSum a = _ from extFold_err h (by rw [e]; exact h1)]
    exact ⟨e, fun _ => ⟨scan_12 _ h1, rfl, rfl⟩⟩
theorem scans_ok {a : Arr} (h : chkF true a = 0) (h0 : (extScan a).1 = 0) {m n : Nat} (hmn : rowsOf a = ((m : Int), (n : Int))) :
    (extSum a).2.xs.length = m ∧ (extSum a).2.r = a.r - 1 ∧ (extScan a).2.r = a.r ∧ (extScan a).2.l0 = a.l0 ∧ (extScan a).2.l1 = a.l1 ∧ (extScan a).2.xs.length = a.xs.length ∧ (extScan a).2.k = 1 ∧ (extSum a).2.k = 1 ∧ m * n = a.xs.length ∧
      ∀ i, i < m → ∃ Y : List Int, Y.length = n ∧ (∀ y ∈ Y, Fits y) ∧ (extSum a).2.xs.getD i 0 = lastE 0 Y ∧ ∀ k, k < n → (extScan a).2.xs.getD (i * n + k) 0 = Y.getD k 0 ∧ Y.getD k 0 = lastE 0 (Y.take k) + a.xs.getD (i * n + k) 0 := by
  obtain ⟨hk, _, hr⟩ := chkF_ok h
  have h1 : (mapG scanRow (rowsL a)).1 = 0 := by
    by_cases h1 : (mapG scanRow (rowsL a)).1 = 0
    · exact h1
    · rw [extScan_err h h1] at h0; exact absurd h0 h1
  have h2 : (mapG sumRow (rowsL a)).1 = 0 := by rw [sum_scan]; exact h1
  obtain ⟨m', n', e0, e1, e2, e3, e4⟩ := rowsL_nat hk hr
  rw [hmn] at e0
  injection e0 with e5 e6
  have e5 : m = m' := by omega
  have e6 : n = n' := by omega
  subst e5 e6
  rw [extScan_ok h (Prod.ext h1 rfl), show extSum a = _ from extFold_ok h (Prod.ext h2 rfl)]
  have hs := mapG_map scanRow (rowsL a) h1
  have ht := mapG_map sumRow (rowsL a) h2
  have hall : ∀ row ∈ rowsL a, scanE 0 row = (0, (scanE 0 row).2) := fun row hrow => Prod.ext ((mapG_iff scanRow (rowsL a)).1 h1 row hrow) rfl
  have hlen : ∀ row ∈ rowsL a, row.length = n := by
    intro row hrow
    rw [e4] at hrow
    obtain ⟨i, hi, rfl⟩ := List.mem_map.1 hrow
    exact part_len (row_end e1 (List.mem_range.1 hi))
  have hyl : ∀ y ∈ (mapG scanRow (rowsL a)).2, y.length = n := by
    intro y hy
    rw [hs] at hy
    obtain ⟨row, hrow, rfl⟩ := List.mem_map.1 hy
    show (scanE 0 row).2.length = n
    rw [scanE_len (hall row hrow), hlen row hrow]
  have hml : (rowsL a).length = m := by rw [e4]; simp
  have hfl : ∀ (l : List (List Int)), (∀ y ∈ l, y.length = n) → l.flatten.length = l.length * n := by
    intro l
    induction l with
    | nil => intro _; simp
    | cons y l ih => intro hy; rw [List.flatten_cons, List.length_append, ih (fun y' hy' => hy y' (List.mem_cons_of_mem _ hy')), hy y (by simp), List.length_cons, Nat.succ_mul]; omega
  refine ⟨?_, ?_, rfl, rfl, rfl, ?_, rfl, ?_, e1, fun i hi => ?_⟩
  · show (foldR a (mapG sumRow (rowsL a)).2).xs.length = m
    rw [foldR_xs, ht, List.length_map, hml]
  · show (foldR a _).r = a.r - 1
    have := (sh_ok (chk_sh hk).1).1
    unfold foldR
    split
    · rename_i e; rw [e]; rfl
    · show (1 : Int) = a.r - 1; omega
  · show (mapG scanRow (rowsL a)).2.flatten.length = a.xs.length
    rw [hfl _ hyl, hs, List.length_map, hml, e1]
  · show (foldR a _).k = 1
    unfold foldR; split <;> rfl
  · have hrow : (rowsL a).getD i [] ∈ rowsL a := by rw [List.getD_eq_getElem?_getD, List.getElem?_eq_getElem (by omega)]; exact List.getElem_mem _
    obtain ⟨row, hrw⟩ : ∃ row, (rowsL a).getD i [] = row := ⟨_, rfl⟩
    have hr2 : row = (a.xs.drop (i * n)).take n := by rw [← hrw, e4, row_getD hi]
    rw [hrw] at hrow
    have hg : ∀ {β : Type} (f : List Int → β) (d : β), ((rowsL a).map f).getD i d = f row := by
      intro β f d
      have h5 : (rowsL a)[i]? = some row := by
        rw [List.getElem?_eq_getElem (by omega)]
        rw [List.getD_eq_getElem?_getD, List.getElem?_eq_getElem (by omega)] at hrw
        exact congrArg some hrw
      rw [List.getD_eq_getElem?_getD, List.getElem?_map, h5]; rfl
    refine ⟨(scanE 0 row).2, ?_, scanE_fits (hall row hrow), ?_, fun k hk' => ⟨?_, ?_⟩⟩
    · rw [scanE_len (hall row hrow), hlen row hrow]
    · show (foldR a (mapG sumRow (rowsL a)).2).xs.getD i 0 = _
      rw [foldR_xs, ht, hg]
      show (sumRow row).1 = _
      unfold sumRow
      rw [if_neg (by rw [hall row hrow]; simp)]
    · show (mapG scanRow (rowsL a)).2.flatten.getD (i * n + k) 0 = _
      rw [flat_get hyl (by rw [hs, List.length_map, hml]; exact hi) hk', hs, hg]; rfl
    · rw [scan_get (hall row hrow) k (by rw [hlen row hrow]; exact hk'), hr2]
      congr 1
      simp [List.getD_eq_getElem?_getD, List.getElem?_take, hk', List.getElem?_drop]
end Ar
end Go.Proofs.Ytfpnafeildigaaa
