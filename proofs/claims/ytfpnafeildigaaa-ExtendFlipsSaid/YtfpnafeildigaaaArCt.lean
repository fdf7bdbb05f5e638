/-
invigilatorref07.Cat, Ravel: their contracts (chapter 7's reference, for every seat).
-/
import Derived.Test.YtfpnafeildigaaaArSl
import Derived.Test.YtfpnafeildigaaaBb4
import Derived.Deep.RegionHeld3
set_option linter.unusedSimpArgs false
set_option linter.unusedVariables false
namespace Go.Proofs.Ytfpnafeildigaaa
namespace Ar
open Go.RowKit Sc
theorem catRows_succ (m n k : Nat) (xs ys : List Int) : catRows (m + 1) n k xs ys = catRows m n k xs ys ++ ((xs.drop (m * n)).take n ++ (ys.drop (m * k)).take k) := by
  unfold catRows; rw [List.range_succ, List.flatMap_append, List.flatMap_singleton]
theorem catRows_len {n k : Nat} {xs ys : List Int} : ∀ m : Nat, m * n ≤ xs.length → m * k ≤ ys.length → (catRows m n k xs ys).length = m * (n + k)
  | 0, _, _ => by simp [catRows]
  | m + 1, h1, h2 => by
    rw [Nat.succ_mul] at h1 h2
    rw [catRows_succ, List.length_append, List.length_append, part_len h1, part_len h2, catRows_len m (by omega) (by omega), Nat.succ_mul]
theorem catRows_one (xs ys : List Int) : catRows 1 xs.length ys.length xs ys = xs ++ ys := by
  rw [catRows_succ]; simp [catRows]
theorem cat_bad_a (a : Arr) (A : Option Addr) (c : Nat) (hla : a.xs.length ≤ 9223372036854775807) (f0a : Fits a.l0) (f1a : Fits a.l1) (b : Arr) (B : Option Addr) (d : Nat) (hlb : b.xs.length ≤ 9223372036854775807) (f0b : Fits b.l0) (f1b : Fits b.l1) (w : World) (hsa : Sl w A a.xs) (hsb : Sl w B b.xs) (h : chk a ≠ 0) : Calls Try.prog 37 #[.agg #[.int .i64 a.k, .int .i64 a.r, .int .i64 a.l0, .int .i64 a.l1, .slice A a.xs.length c], .agg #[.int .i64 b.k, .int .i64 b.r, .int .i64 b.l0, .int .i64 b.l1, .slice B b.xs.length d]] w (ArrRet w (chk a, .zero)) := by
  have n1 : (chk a == 0) = false := by simpa using h
  have n2 : (chk a != 0) = true := by simpa using h
  clear h
  go_enter Try.func37, Try.ntmps37
  go_wp2_with fail
  refine (Ref.ac_any a A c hla f0a f1a _ (hsa.below (by (repeat (first | with_reducible exact Below.refl _ _ | with_reducible assumption | (with_reducible refine bl_set ?_ (by simp; try omega) _) | (with_reducible refine bl_alloc ?_ _) | (with_reducible refine bl_dn ?_ _) | (with_reducible refine bl_drew ?_) | (with_reducible refine bl_then ?_ (by with_reducible assumption))))))).mono ?_
  rintro e w1 ⟨rfl, hg⟩
  obtain ⟨hc, hf, hz⟩ := bcell hg
  (have zw0 : w.heap.size < w1.heap.size := by have := hg.size; simp at this; omega); (have zw1 : w.heap.size + 1 < w1.heap.size := by have := hg.size; simp at this; omega); (have zw2 : w.heap.size + 1 + 1 < w1.heap.size := by have := hg.size; simp at this; omega)
  go_wp2
  refine bodyPost_ret (v := .tuple #[.agg #[.int .i64 0, .int .i64 0, .int .i64 0, .int .i64 0, .slice none 0 0], .int .i64 (chk a)]) (by simp [results, Try.results37, go_sem, *]) rfl (arr_zero _ (by (repeat (first | with_reducible exact Below.refl _ _ | with_reducible assumption | (with_reducible refine bl_set ?_ (by simp; try omega) _) | (with_reducible refine bl_alloc ?_ _) | (with_reducible refine bl_dn ?_ _) | (with_reducible refine bl_drew ?_) | (with_reducible refine bl_then ?_ (by with_reducible assumption))))))
theorem cat_bad_b (a : Arr) (A : Option Addr) (c : Nat) (hla : a.xs.length ≤ 9223372036854775807) (f0a : Fits a.l0) (f1a : Fits a.l1) (b : Arr) (B : Option Addr) (d : Nat) (hlb : b.xs.length ≤ 9223372036854775807) (f0b : Fits b.l0) (f1b : Fits b.l1) (w : World) (hsa : Sl w A a.xs) (hsb : Sl w B b.xs) (h : chk a = 0) (h2 : chk b ≠ 0) : Calls Try.prog 37 #[.agg #[.int .i64 a.k, .int .i64 a.r, .int .i64 a.l0, .int .i64 a.l1, .slice A a.xs.length c], .agg #[.int .i64 b.k, .int .i64 b.r, .int .i64 b.l0, .int .i64 b.l1, .slice B b.xs.length d]] w (ArrRet w (chk b, .zero)) := by
  have H := hide h
  have n1 : (chk b == 0) = false := by simpa using h2
  have n2 : (chk b != 0) = true := by simpa using h2
  clear h h2
  go_enter Try.func37, Try.ntmps37
  go_wp2_with fail
  refine (Ref.ac_any a A c hla f0a f1a _ (hsa.below (by (repeat (first | with_reducible exact Below.refl _ _ | with_reducible assumption | (with_reducible refine bl_set ?_ (by simp; try omega) _) | (with_reducible refine bl_alloc ?_ _) | (with_reducible refine bl_dn ?_ _) | (with_reducible refine bl_drew ?_) | (with_reducible refine bl_then ?_ (by with_reducible assumption))))))).mono ?_
  rw [H.out]
  rintro e w1 ⟨rfl, hg⟩
  obtain ⟨hc, hf, hz⟩ := bcell hg
  (have zw0 : w.heap.size < w1.heap.size := by have := hg.size; simp at this; omega); (have zw1 : w.heap.size + 1 < w1.heap.size := by have := hg.size; simp at this; omega); (have zw2 : w.heap.size + 1 + 1 < w1.heap.size := by have := hg.size; simp at this; omega)
  go_wp2_with fail
  refine (Ref.ac_any b B d hlb f0b f1b _ (hsb.below (by (repeat (first | with_reducible exact Below.refl _ _ | with_reducible assumption | (with_reducible refine bl_set ?_ (by simp; try omega) _) | (with_reducible refine bl_alloc ?_ _) | (with_reducible refine bl_dn ?_ _) | (with_reducible refine bl_drew ?_) | (with_reducible refine bl_then ?_ (by with_reducible assumption))))))).mono ?_
  rintro e w2 ⟨rfl, hg2⟩
  obtain ⟨hc2, hf2, hz2⟩ := bcell hg2
  (have zx0 : w.heap.size < w2.heap.size := by omega); (have zx1 : w.heap.size + 1 < w2.heap.size := by omega); (have zx2 : w.heap.size + 1 + 1 < w2.heap.size := by omega)
  go_wp2
  refine bodyPost_ret (v := .tuple #[.agg #[.int .i64 0, .int .i64 0, .int .i64 0, .int .i64 0, .slice none 0 0], .int .i64 (chk b)]) (by simp [results, Try.results37, go_sem, *]) rfl (arr_zero _ (by (repeat (first | with_reducible exact Below.refl _ _ | with_reducible assumption | (with_reducible refine bl_set ?_ (by simp; try omega) _) | (with_reducible refine bl_alloc ?_ _) | (with_reducible refine bl_dn ?_ _) | (with_reducible refine bl_drew ?_) | (with_reducible refine bl_then ?_ (by with_reducible assumption))))))
set_option maxRecDepth 100000 in
set_option maxHeartbeats 1000000 in
theorem cat_kind (a : Arr) (A : Option Addr) (c : Nat) (hla : a.xs.length ≤ 9223372036854775807) (f0a : Fits a.l0) (f1a : Fits a.l1) (b : Arr) (B : Option Addr) (d : Nat) (hlb : b.xs.length ≤ 9223372036854775807) (f0b : Fits b.l0) (f1b : Fits b.l1) (w : World) (hsa : Sl w A a.xs) (hsb : Sl w B b.xs) (h : chk a = 0) (h2 : chk b = 0) (h3 : a.k ≠ b.k) : Calls Try.prog 37 #[.agg #[.int .i64 a.k, .int .i64 a.r, .int .i64 a.l0, .int .i64 a.l1, .slice A a.xs.length c], .agg #[.int .i64 b.k, .int .i64 b.r, .int .i64 b.l0, .int .i64 b.l1, .slice B b.xs.length d]] w (ArrRet w (21, .zero)) := by
  have H := hide h; have H2 := hide h2
  (have n3 : (a.k != b.k) = true := by simpa using h3); clear h3
  clear h h2
  go_enter Try.func37, Try.ntmps37
  go_wp2_with fail
  refine (Ref.ac_any a A c hla f0a f1a _ (hsa.below (by (repeat (first | with_reducible exact Below.refl _ _ | with_reducible assumption | (with_reducible refine bl_set ?_ (by simp; try omega) _) | (with_reducible refine bl_alloc ?_ _) | (with_reducible refine bl_dn ?_ _) | (with_reducible refine bl_drew ?_) | (with_reducible refine bl_then ?_ (by with_reducible assumption))))))).mono ?_
  rw [H.out]
  rintro e w1 ⟨rfl, hg⟩
  obtain ⟨hc, hf, hz⟩ := bcell hg
  (have zw0 : w.heap.size < w1.heap.size := by have := hg.size; simp at this; omega); (have zw1 : w.heap.size + 1 < w1.heap.size := by have := hg.size; simp at this; omega); (have zw2 : w.heap.size + 1 + 1 < w1.heap.size := by have := hg.size; simp at this; omega)
  go_wp2_with fail
  refine (Ref.ac_any b B d hlb f0b f1b _ (hsb.below (by (repeat (first | with_reducible exact Below.refl _ _ | with_reducible assumption | (with_reducible refine bl_set ?_ (by simp; try omega) _) | (with_reducible refine bl_alloc ?_ _) | (with_reducible refine bl_dn ?_ _) | (with_reducible refine bl_drew ?_) | (with_reducible refine bl_then ?_ (by with_reducible assumption))))))).mono ?_
  rw [H2.out]
  rintro e w2 ⟨rfl, hg2⟩
  obtain ⟨hc2, hf2, hz2⟩ := bcell hg2
  (have zx0 : w.heap.size < w2.heap.size := by omega); (have zx1 : w.heap.size + 1 < w2.heap.size := by omega); (have zx2 : w.heap.size + 1 + 1 < w2.heap.size := by omega)
  go_wp2
  refine bodyPost_ret (v := .tuple #[.agg #[.int .i64 0, .int .i64 0, .int .i64 0, .int .i64 0, .slice none 0 0], .int .i64 21]) (by simp [results, Try.results37, go_sem, *]) rfl (arr_zero _ (by (repeat (first | with_reducible exact Below.refl _ _ | with_reducible assumption | (with_reducible refine bl_set ?_ (by simp; try omega) _) | (with_reducible refine bl_alloc ?_ _) | (with_reducible refine bl_dn ?_ _) | (with_reducible refine bl_drew ?_) | (with_reducible refine bl_then ?_ (by with_reducible assumption))))))
set_option maxRecDepth 100000 in
set_option maxHeartbeats 1000000 in
theorem cat_rank (a : Arr) (A : Option Addr) (c : Nat) (hla : a.xs.length ≤ 9223372036854775807) (f0a : Fits a.l0) (f1a : Fits a.l1) (b : Arr) (B : Option Addr) (d : Nat) (hlb : b.xs.length ≤ 9223372036854775807) (f0b : Fits b.l0) (f1b : Fits b.l1) (w : World) (hsa : Sl w A a.xs) (hsb : Sl w B b.xs) (h : chk a = 0) (h2 : chk b = 0) (h3 : a.k = b.k) (h4 : a.r ≠ b.r) : Calls Try.prog 37 #[.agg #[.int .i64 a.k, .int .i64 a.r, .int .i64 a.l0, .int .i64 a.l1, .slice A a.xs.length c], .agg #[.int .i64 b.k, .int .i64 b.r, .int .i64 b.l0, .int .i64 b.l1, .slice B b.xs.length d]] w (ArrRet w (22, .zero)) := by
  have H := hide h; have H2 := hide h2
  (have n3 : (a.k != b.k) = false := by simpa using h3); (have n4 : (a.r != b.r) = true := by simpa using h4); clear h3 h4
  clear h h2
  go_enter Try.func37, Try.ntmps37
  go_wp2_with fail
  refine (Ref.ac_any a A c hla f0a f1a _ (hsa.below (by (repeat (first | with_reducible exact Below.refl _ _ | with_reducible assumption | (with_reducible refine bl_set ?_ (by simp; try omega) _) | (with_reducible refine bl_alloc ?_ _) | (with_reducible refine bl_dn ?_ _) | (with_reducible refine bl_drew ?_) | (with_reducible refine bl_then ?_ (by with_reducible assumption))))))).mono ?_
  rw [H.out]
  rintro e w1 ⟨rfl, hg⟩
  obtain ⟨hc, hf, hz⟩ := bcell hg
  (have zw0 : w.heap.size < w1.heap.size := by have := hg.size; simp at this; omega); (have zw1 : w.heap.size + 1 < w1.heap.size := by have := hg.size; simp at this; omega); (have zw2 : w.heap.size + 1 + 1 < w1.heap.size := by have := hg.size; simp at this; omega)
  go_wp2_with fail
  refine (Ref.ac_any b B d hlb f0b f1b _ (hsb.below (by (repeat (first | with_reducible exact Below.refl _ _ | with_reducible assumption | (with_reducible refine bl_set ?_ (by simp; try omega) _) | (with_reducible refine bl_alloc ?_ _) | (with_reducible refine bl_dn ?_ _) | (with_reducible refine bl_drew ?_) | (with_reducible refine bl_then ?_ (by with_reducible assumption))))))).mono ?_
  rw [H2.out]
  rintro e w2 ⟨rfl, hg2⟩
  obtain ⟨hc2, hf2, hz2⟩ := bcell hg2
  (have zx0 : w.heap.size < w2.heap.size := by omega); (have zx1 : w.heap.size + 1 < w2.heap.size := by omega); (have zx2 : w.heap.size + 1 + 1 < w2.heap.size := by omega)
  go_wp2
  refine bodyPost_ret (v := .tuple #[.agg #[.int .i64 0, .int .i64 0, .int .i64 0, .int .i64 0, .slice none 0 0], .int .i64 22]) (by simp [results, Try.results37, go_sem, *]) rfl (arr_zero _ (by (repeat (first | with_reducible exact Below.refl _ _ | with_reducible assumption | (with_reducible refine bl_set ?_ (by simp; try omega) _) | (with_reducible refine bl_alloc ?_ _) | (with_reducible refine bl_dn ?_ _) | (with_reducible refine bl_drew ?_) | (with_reducible refine bl_then ?_ (by with_reducible assumption))))))
set_option maxRecDepth 100000 in
set_option maxHeartbeats 1000000 in
theorem cat_flat (a : Arr) (A : Option Addr) (c : Nat) (hla : a.xs.length ≤ 9223372036854775807) (f0a : Fits a.l0) (f1a : Fits a.l1) (b : Arr) (B : Option Addr) (d : Nat) (hlb : b.xs.length ≤ 9223372036854775807) (f0b : Fits b.l0) (f1b : Fits b.l1) (w : World) (hsa : Sl w A a.xs) (hsb : Sl w B b.xs) (h : chk a = 0) (h2 : chk b = 0) (h3 : a.k = b.k) (h4 : a.r = b.r) (h5 : a.r = 0) : Calls Try.prog 37 #[.agg #[.int .i64 a.k, .int .i64 a.r, .int .i64 a.l0, .int .i64 a.l1, .slice A a.xs.length c], .agg #[.int .i64 b.k, .int .i64 b.r, .int .i64 b.l0, .int .i64 b.l1, .slice B b.xs.length d]] w (ArrRet w (22, .zero)) := by
  have H := hide h; have H2 := hide h2
  (have n3 : (a.k != b.k) = false := by simpa using h3); (have n4 : (a.r != b.r) = false := by simpa using h4); (have n5 : (a.r == 0) = true := by simpa using h5); clear h3 h4 h5
  clear h h2
  go_enter Try.func37, Try.ntmps37
  go_wp2_with fail
  refine (Ref.ac_any a A c hla f0a f1a _ (hsa.below (by (repeat (first | with_reducible exact Below.refl _ _ | with_reducible assumption | (with_reducible refine bl_set ?_ (by simp; try omega) _) | (with_reducible refine bl_alloc ?_ _) | (with_reducible refine bl_dn ?_ _) | (with_reducible refine bl_drew ?_) | (with_reducible refine bl_then ?_ (by with_reducible assumption))))))).mono ?_
  rw [H.out]
  rintro e w1 ⟨rfl, hg⟩
  obtain ⟨hc, hf, hz⟩ := bcell hg
  (have zw0 : w.heap.size < w1.heap.size := by have := hg.size; simp at this; omega); (have zw1 : w.heap.size + 1 < w1.heap.size := by have := hg.size; simp at this; omega); (have zw2 : w.heap.size + 1 + 1 < w1.heap.size := by have := hg.size; simp at this; omega)
  go_wp2_with fail
  refine (Ref.ac_any b B d hlb f0b f1b _ (hsb.below (by (repeat (first | with_reducible exact Below.refl _ _ | with_reducible assumption | (with_reducible refine bl_set ?_ (by simp; try omega) _) | (with_reducible refine bl_alloc ?_ _) | (with_reducible refine bl_dn ?_ _) | (with_reducible refine bl_drew ?_) | (with_reducible refine bl_then ?_ (by with_reducible assumption))))))).mono ?_
  rw [H2.out]
  rintro e w2 ⟨rfl, hg2⟩
  obtain ⟨hc2, hf2, hz2⟩ := bcell hg2
  (have zx0 : w.heap.size < w2.heap.size := by omega); (have zx1 : w.heap.size + 1 < w2.heap.size := by omega); (have zx2 : w.heap.size + 1 + 1 < w2.heap.size := by omega)
  go_wp2
  refine bodyPost_ret (v := .tuple #[.agg #[.int .i64 0, .int .i64 0, .int .i64 0, .int .i64 0, .slice none 0 0], .int .i64 22]) (by simp [results, Try.results37, go_sem, *]) rfl (arr_zero _ (by (repeat (first | with_reducible exact Below.refl _ _ | with_reducible assumption | (with_reducible refine bl_set ?_ (by simp; try omega) _) | (with_reducible refine bl_alloc ?_ _) | (with_reducible refine bl_dn ?_ _) | (with_reducible refine bl_drew ?_) | (with_reducible refine bl_then ?_ (by with_reducible assumption))))))
set_option maxRecDepth 100000 in
set_option maxHeartbeats 1000000 in
theorem cat_len (a : Arr) (A : Option Addr) (c : Nat) (hla : a.xs.length ≤ 9223372036854775807) (f0a : Fits a.l0) (f1a : Fits a.l1) (b : Arr) (B : Option Addr) (d : Nat) (hlb : b.xs.length ≤ 9223372036854775807) (f0b : Fits b.l0) (f1b : Fits b.l1) (w : World) (hsa : Sl w A a.xs) (hsb : Sl w B b.xs) (h : chk a = 0) (h2 : chk b = 0) (h3 : a.k = b.k) (h4 : a.r = b.r) (h5 : a.r = 2) (h6 : a.l0 ≠ b.l0) : Calls Try.prog 37 #[.agg #[.int .i64 a.k, .int .i64 a.r, .int .i64 a.l0, .int .i64 a.l1, .slice A a.xs.length c], .agg #[.int .i64 b.k, .int .i64 b.r, .int .i64 b.l0, .int .i64 b.l1, .slice B b.xs.length d]] w (ArrRet w (11, .zero)) := by
  have H := hide h; have H2 := hide h2
  (have n3 : (a.k != b.k) = false := by simpa using h3); (have n4 : (a.r != b.r) = false := by simpa using h4); (have n5 : (a.r == 0) = false := by rw [h5]; rfl); (have n6 : (a.r == 2) = true := by simpa using h5); (have n7 : (a.l0 != b.l0) = true := by simpa using h6); clear h3 h4 h5 h6
  clear h h2
  go_enter Try.func37, Try.ntmps37
  go_wp2_with fail
  refine (Ref.ac_any a A c hla f0a f1a _ (hsa.below (by (repeat (first | with_reducible exact Below.refl _ _ | with_reducible assumption | (with_reducible refine bl_set ?_ (by simp; try omega) _) | (with_reducible refine bl_alloc ?_ _) | (with_reducible refine bl_dn ?_ _) | (with_reducible refine bl_drew ?_) | (with_reducible refine bl_then ?_ (by with_reducible assumption))))))).mono ?_
  rw [H.out]
  rintro e w1 ⟨rfl, hg⟩
  obtain ⟨hc, hf, hz⟩ := bcell hg
  (have zw0 : w.heap.size < w1.heap.size := by have := hg.size; simp at this; omega); (have zw1 : w.heap.size + 1 < w1.heap.size := by have := hg.size; simp at this; omega); (have zw2 : w.heap.size + 1 + 1 < w1.heap.size := by have := hg.size; simp at this; omega)
  go_wp2_with fail
  refine (Ref.ac_any b B d hlb f0b f1b _ (hsb.below (by (repeat (first | with_reducible exact Below.refl _ _ | with_reducible assumption | (with_reducible refine bl_set ?_ (by simp; try omega) _) | (with_reducible refine bl_alloc ?_ _) | (with_reducible refine bl_dn ?_ _) | (with_reducible refine bl_drew ?_) | (with_reducible refine bl_then ?_ (by with_reducible assumption))))))).mono ?_
  rw [H2.out]
  rintro e w2 ⟨rfl, hg2⟩
  obtain ⟨hc2, hf2, hz2⟩ := bcell hg2
  (have zx0 : w.heap.size < w2.heap.size := by omega); (have zx1 : w.heap.size + 1 < w2.heap.size := by omega); (have zx2 : w.heap.size + 1 + 1 < w2.heap.size := by omega)
  go_wp2
  refine bodyPost_ret (v := .tuple #[.agg #[.int .i64 0, .int .i64 0, .int .i64 0, .int .i64 0, .slice none 0 0], .int .i64 11]) (by simp [results, Try.results37, go_sem, *]) rfl (arr_zero _ (by (repeat (first | with_reducible exact Below.refl _ _ | with_reducible assumption | (with_reducible refine bl_set ?_ (by simp; try omega) _) | (with_reducible refine bl_alloc ?_ _) | (with_reducible refine bl_dn ?_ _) | (with_reducible refine bl_drew ?_) | (with_reducible refine bl_then ?_ (by with_reducible assumption))))))

theorem chk_l {a : Arr} (ca : chk a = 0) : 0 ≤ a.l0 ∧ a.l0 ≤ 400 ∧ 0 ≤ a.l1 ∧ a.l1 ≤ 400 ∧ (a.xs.length : Int) ≤ 400 := by
  obtain ⟨h, n⟩ := chk_sh ca
  have h4 := sh_ok h
  unfold shCheck at h
  by_cases a1 : a.r < 0 ∨ 2 < a.r
  · rw [if_pos a1] at h; cases h
  rw [if_neg a1] at h
  by_cases b : (1 ≤ a.r ∧ a.l0 < 0) ∨ (2 ≤ a.r ∧ a.l1 < 0)
  · rw [if_pos b] at h; cases h
  rw [if_neg b] at h
  by_cases c : (a.r < 1 ∧ a.l0 ≠ 0) ∨ (a.r < 2 ∧ a.l1 ≠ 0)
  · rw [if_pos c] at h; cases h
  rw [if_neg c] at h
  by_cases d : 400 < a.l0 ∨ 400 < a.l1 ∨ 400 < prod a.r a.l0 a.l1
  · rw [if_pos d] at h; cases h
  omega
theorem wrap_add {x y : Int} (h0 : 0 ≤ x) (h1 : x ≤ 400) (h2 : 0 ≤ y) (h3 : y ≤ 400) : IntKind.i64.wrap (x + y) = x + y := IntWalk.i64_in _ (by omega)
set_option maxRecDepth 100000 in
set_option maxHeartbeats 1000000 in
theorem cat_many (a : Arr) (A : Option Addr) (c : Nat) (hla : a.xs.length ≤ 9223372036854775807) (f0a : Fits a.l0) (f1a : Fits a.l1) (b : Arr) (B : Option Addr) (d : Nat) (hlb : b.xs.length ≤ 9223372036854775807) (f0b : Fits b.l0) (f1b : Fits b.l1) (w : World) (hsa : Sl w A a.xs) (hsb : Sl w B b.xs) (h : chk a = 0) (h2 : chk b = 0) (h3 : a.k = b.k) (h4 : a.r = b.r) (h5 : a.r ≠ 0) (h6 : a.r ≠ 2 ∨ a.l0 = b.l0) (h7 : 400 < (a.xs.length : Int) + b.xs.length ∨ 400 < a.l1 + b.l1) : Calls Try.prog 37 #[.agg #[.int .i64 a.k, .int .i64 a.r, .int .i64 a.l0, .int .i64 a.l1, .slice A a.xs.length c], .agg #[.int .i64 b.k, .int .i64 b.r, .int .i64 b.l0, .int .i64 b.l1, .slice B b.xs.length d]] w (ArrRet w (15, .zero)) := by
  have H := hide h; have H2 := hide h2
  (have n3 : (a.k != b.k) = false := by simpa using h3); (have n4 : (a.r != b.r) = false := by simpa using h4); (have n5 : (a.r == 0) = false := by simpa using h5)
  have ea := chk_l h
  have eb := chk_l h2
  have ew := wrap_add (x := (a.xs.length : Int)) (y := (b.xs.length : Int)) (by omega) (by omega) (by omega) (by omega)
  have ew2 := wrap_add (x := a.l1) (y := b.l1) (by omega) (by omega) (by omega) (by omega)
  have n8 : decide (400 < (a.xs.length : Int) + b.xs.length) = true ∨ (decide (400 < (a.xs.length : Int) + b.xs.length) = false ∧ decide (400 < a.l1 + b.l1) = true) := by
    by_cases e : 400 < (a.xs.length : Int) + b.xs.length
    · left; simpa using e
    · right; exact ⟨by simpa using e, by simp; omega⟩
  have n6 : (a.r == 2) = false ∨ ((a.r == 2) = true ∧ (a.l0 != b.l0) = false) := by
    by_cases e : a.r = 2
    · right; exact ⟨by simpa using e, by simp; omega⟩
    · left; simpa using e
  clear h3 h4 h5 h6 h7 ea eb
  clear h h2
  go_enter Try.func37, Try.ntmps37
  go_wp2_with fail
  refine (Ref.ac_any a A c hla f0a f1a _ (hsa.below (by (repeat (first | with_reducible exact Below.refl _ _ | with_reducible assumption | (with_reducible refine bl_set ?_ (by simp; try omega) _) | (with_reducible refine bl_alloc ?_ _) | (with_reducible refine bl_dn ?_ _) | (with_reducible refine bl_drew ?_) | (with_reducible refine bl_then ?_ (by with_reducible assumption))))))).mono ?_
  rw [H.out]
  rintro e w1 ⟨rfl, hg⟩
  obtain ⟨hc, hf, hz⟩ := bcell hg
  (have zw0 : w.heap.size < w1.heap.size := by have := hg.size; simp at this; omega); (have zw1 : w.heap.size + 1 < w1.heap.size := by have := hg.size; simp at this; omega); (have zw2 : w.heap.size + 1 + 1 < w1.heap.size := by have := hg.size; simp at this; omega)
  go_wp2_with fail
  refine (Ref.ac_any b B d hlb f0b f1b _ (hsb.below (by (repeat (first | with_reducible exact Below.refl _ _ | with_reducible assumption | (with_reducible refine bl_set ?_ (by simp; try omega) _) | (with_reducible refine bl_alloc ?_ _) | (with_reducible refine bl_dn ?_ _) | (with_reducible refine bl_drew ?_) | (with_reducible refine bl_then ?_ (by with_reducible assumption))))))).mono ?_
  rw [H2.out]
  rintro e w2 ⟨rfl, hg2⟩
  obtain ⟨hc2, hf2, hz2⟩ := bcell hg2
  (have zx0 : w.heap.size < w2.heap.size := by omega); (have zx1 : w.heap.size + 1 < w2.heap.size := by omega); (have zx2 : w.heap.size + 1 + 1 < w2.heap.size := by omega)
  rcases n8 with n8 | ⟨n8, n9⟩ <;> rcases n6 with n6 | ⟨n6, n7⟩ <;> go_wp2
  all_goals skip
  all_goals
  refine bodyPost_ret (v := .tuple #[.agg #[.int .i64 0, .int .i64 0, .int .i64 0, .int .i64 0, .slice none 0 0], .int .i64 15]) (by simp [results, Try.results37, go_sem, *]) rfl (arr_zero _ (by (repeat (first | with_reducible exact Below.refl _ _ | with_reducible assumption | (with_reducible refine bl_set ?_ (by simp; try omega) _) | (with_reducible refine bl_alloc ?_ _) | (with_reducible refine bl_dn ?_ _) | (with_reducible refine bl_drew ?_) | (with_reducible refine bl_then ?_ (by with_reducible assumption))))))
end Ar
end Go.Proofs.Ytfpnafeildigaaa
