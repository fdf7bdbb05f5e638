/-
Contract of invigilatorref10.Lens, and both Lens whole (chapter 10).
-/
import Derived.Test.YtfpnafeildigaaaArX
set_option linter.unusedSimpArgs false
set_option linter.unusedVariables false
namespace Go.Proofs.Ytfpnafeildigaaa
namespace Ar
open Go.RowKit Sc
set_option maxHeartbeats 1000000 in
theorem rlens_1 (a : Arr) (A : Option Addr) (c : Nat) (hla : a.xs.length ≤ 9223372036854775807) (f0a : Fits a.l0) (f1a : Fits a.l1) (b : Arr) (B : Option Addr) (d : Nat) (hlb : b.xs.length ≤ 9223372036854775807) (f0b : Fits b.l0) (f1b : Fits b.l1) (h : chk a ≠ 0) (w : World) (hsa : Sl w A a.xs) (hsb : Sl w B b.xs) :
    Calls Try.prog 27 #[.agg #[.int .i64 a.k, .int .i64 a.r, .int .i64 a.l0, .int .i64 a.l1, .slice A a.xs.length c], .agg #[.int .i64 b.k, .int .i64 b.r, .int .i64 b.l0, .int .i64 b.l1, .slice B b.xs.length d]] w fun e w' => e = lensRet (chk a, 0, 0, 0) ∧ Below w.heap.size w w' := by
  have n1 : (chk a == 0) = false := by simpa using h
  have n2 : (chk a != 0) = true := by simpa using h
  clear h
  have neqs := fun (p q r s : Int) (w : World) => neq_lens p q r s w
  go_enter Try.func27, Try.ntmps27
  go_wp2_with fail
  refine (Ref.ac_any a A c hla f0a f1a _ (hsa.below (by (repeat (first | with_reducible exact Below.refl _ _ | with_reducible assumption | (with_reducible refine bl_set ?_ (by simp; try omega) _) | (with_reducible refine bl_alloc ?_ _) | (with_reducible refine bl_dn ?_ _) | (with_reducible refine bl_drew ?_) | (with_reducible refine bl_then ?_ (by with_reducible assumption))))))).mono ?_
  rintro e w1 ⟨rfl, hg⟩
  obtain ⟨hc, hf, hz⟩ := bcell hg
  (have zw0 : w.heap.size < w1.heap.size := by have := hg.size; simp at this; omega); (have zw1 : w.heap.size + 1 < w1.heap.size := by have := hg.size; simp at this; omega); (have zw2 : w.heap.size + 1 + 1 < w1.heap.size := by have := hg.size; simp at this; omega)
  go_wp2
  exact bodyPost_ret (v := .tuple #[.int .i64 0, .agg #[.int .i64 0, .int .i64 0], .int .i64 (chk a)]) (by simp [results, Try.results27, go_sem, hc, hf, hz, zw2]) rfl ⟨rfl, by (repeat (first | with_reducible exact Below.refl _ _ | with_reducible assumption | (with_reducible refine bl_set ?_ (by simp; try omega) _) | (with_reducible refine bl_alloc ?_ _) | (with_reducible refine bl_dn ?_ _) | (with_reducible refine bl_drew ?_) | (with_reducible refine bl_then ?_ (by with_reducible assumption))))⟩
set_option maxHeartbeats 1000000 in
theorem rlens_2 (a : Arr) (A : Option Addr) (c : Nat) (hla : a.xs.length ≤ 9223372036854775807) (f0a : Fits a.l0) (f1a : Fits a.l1) (b : Arr) (B : Option Addr) (d : Nat) (hlb : b.xs.length ≤ 9223372036854775807) (f0b : Fits b.l0) (f1b : Fits b.l1) (h : chk a = 0) (h2 : chk b ≠ 0) (w : World) (hsa : Sl w A a.xs) (hsb : Sl w B b.xs) :
    Calls Try.prog 27 #[.agg #[.int .i64 a.k, .int .i64 a.r, .int .i64 a.l0, .int .i64 a.l1, .slice A a.xs.length c], .agg #[.int .i64 b.k, .int .i64 b.r, .int .i64 b.l0, .int .i64 b.l1, .slice B b.xs.length d]] w fun e w' => e = lensRet (chk b, 0, 0, 0) ∧ Below w.heap.size w w' := by
  have n1 : (chk a == 0) = true := by simpa using h
  have n2 : (chk b == 0) = false := by simpa using h2
  have n3 : (chk b != 0) = true := by simpa using h2
  clear h h2
  have neqs := fun (p q r s : Int) (w : World) => neq_lens p q r s w
  go_enter Try.func27, Try.ntmps27
  go_wp2_with fail
  refine (Ref.ac_any a A c hla f0a f1a _ (hsa.below (by (repeat (first | with_reducible exact Below.refl _ _ | with_reducible assumption | (with_reducible refine bl_set ?_ (by simp; try omega) _) | (with_reducible refine bl_alloc ?_ _) | (with_reducible refine bl_dn ?_ _) | (with_reducible refine bl_drew ?_) | (with_reducible refine bl_then ?_ (by with_reducible assumption))))))).mono ?_
  rintro e w1 ⟨rfl, hg⟩
  obtain ⟨hc, hf, hz⟩ := bcell hg
  (have zw0 : w.heap.size < w1.heap.size := by have := hg.size; simp at this; omega); (have zw1 : w.heap.size + 1 < w1.heap.size := by have := hg.size; simp at this; omega); (have zw2 : w.heap.size + 1 + 1 < w1.heap.size := by have := hg.size; simp at this; omega)
  go_wp2_with fail
  refine (Ref.ac_any b B d hlb f0b f1b _ (hsb.below (by (repeat (first | with_reducible exact Below.refl _ _ | with_reducible assumption | (with_reducible refine bl_set ?_ (by simp; try omega) _) | (with_reducible refine bl_alloc ?_ _) | (with_reducible refine bl_dn ?_ _) | (with_reducible refine bl_drew ?_) | (with_reducible refine bl_then ?_ (by with_reducible assumption))))))).mono ?_
  rintro e w2 ⟨rfl, hg2⟩
  obtain ⟨hc2, hf2, hz2⟩ := bcell hg2
  (have zx0 : w.heap.size < w2.heap.size := by omega); (have zx1 : w.heap.size + 1 < w2.heap.size := by omega); (have zx2 : w.heap.size + 1 + 1 < w2.heap.size := by omega)
  go_wp2
  exact bodyPost_ret (v := .tuple #[.int .i64 0, .agg #[.int .i64 0, .int .i64 0], .int .i64 (chk b)]) (by simp [results, Try.results27, go_sem, hc, hf, hz, zw2, hc2, hf2, hz2, zx2]) rfl ⟨rfl, by (repeat (first | with_reducible exact Below.refl _ _ | with_reducible assumption | (with_reducible refine bl_set ?_ (by simp; try omega) _) | (with_reducible refine bl_alloc ?_ _) | (with_reducible refine bl_dn ?_ _) | (with_reducible refine bl_drew ?_) | (with_reducible refine bl_then ?_ (by with_reducible assumption))))⟩
set_option maxHeartbeats 1000000 in
theorem rlens_3 (a : Arr) (A : Option Addr) (c : Nat) (hla : a.xs.length ≤ 9223372036854775807) (f0a : Fits a.l0) (f1a : Fits a.l1) (b : Arr) (B : Option Addr) (d : Nat) (hlb : b.xs.length ≤ 9223372036854775807) (f0b : Fits b.l0) (f1b : Fits b.l1) (h : chk a = 0) (h2 : chk b = 0) (h3 : a.r ≠ b.r) (h4 : a.r ≠ 0) (h5 : b.r ≠ 0) (w : World) (hsa : Sl w A a.xs) (hsb : Sl w B b.xs) :
    Calls Try.prog 27 #[.agg #[.int .i64 a.k, .int .i64 a.r, .int .i64 a.l0, .int .i64 a.l1, .slice A a.xs.length c], .agg #[.int .i64 b.k, .int .i64 b.r, .int .i64 b.l0, .int .i64 b.l1, .slice B b.xs.length d]] w fun e w' => e = lensRet (22, 0, 0, 0) ∧ Below w.heap.size w w' := by
  have n1 : (chk a == 0) = true := by simpa using h
  have n2 : (chk b == 0) = true := by simpa using h2
  have n3 : (chk b != 0) = false := by simpa using h2
  have n4 : (a.r != b.r) = true := by simpa using h3
  have n5 : (a.r != 0) = true := by simpa using h4
  have n6 : (b.r != 0) = true := by simpa using h5
  clear h h2 h3 h4 h5
  have neqs := fun (p q r s : Int) (w : World) => neq_lens p q r s w
  go_enter Try.func27, Try.ntmps27
  go_wp2_with fail
  refine (Ref.ac_any a A c hla f0a f1a _ (hsa.below (by (repeat (first | with_reducible exact Below.refl _ _ | with_reducible assumption | (with_reducible refine bl_set ?_ (by simp; try omega) _) | (with_reducible refine bl_alloc ?_ _) | (with_reducible refine bl_dn ?_ _) | (with_reducible refine bl_drew ?_) | (with_reducible refine bl_then ?_ (by with_reducible assumption))))))).mono ?_
  rintro e w1 ⟨rfl, hg⟩
  obtain ⟨hc, hf, hz⟩ := bcell hg
  (have zw0 : w.heap.size < w1.heap.size := by have := hg.size; simp at this; omega); (have zw1 : w.heap.size + 1 < w1.heap.size := by have := hg.size; simp at this; omega); (have zw2 : w.heap.size + 1 + 1 < w1.heap.size := by have := hg.size; simp at this; omega)
  go_wp2_with fail
  refine (Ref.ac_any b B d hlb f0b f1b _ (hsb.below (by (repeat (first | with_reducible exact Below.refl _ _ | with_reducible assumption | (with_reducible refine bl_set ?_ (by simp; try omega) _) | (with_reducible refine bl_alloc ?_ _) | (with_reducible refine bl_dn ?_ _) | (with_reducible refine bl_drew ?_) | (with_reducible refine bl_then ?_ (by with_reducible assumption))))))).mono ?_
  rintro e w2 ⟨rfl, hg2⟩
  obtain ⟨hc2, hf2, hz2⟩ := bcell hg2
  (have zx0 : w.heap.size < w2.heap.size := by omega); (have zx1 : w.heap.size + 1 < w2.heap.size := by omega); (have zx2 : w.heap.size + 1 + 1 < w2.heap.size := by omega)
  go_wp2
  exact bodyPost_ret (v := .tuple #[.int .i64 0, .agg #[.int .i64 0, .int .i64 0], .int .i64 22]) (by simp [results, Try.results27, go_sem, hc, hf, hz, zw2, hc2, hf2, hz2, zx2]) rfl ⟨rfl, by (repeat (first | with_reducible exact Below.refl _ _ | with_reducible assumption | (with_reducible refine bl_set ?_ (by simp; try omega) _) | (with_reducible refine bl_alloc ?_ _) | (with_reducible refine bl_dn ?_ _) | (with_reducible refine bl_drew ?_) | (with_reducible refine bl_then ?_ (by with_reducible assumption))))⟩
set_option maxHeartbeats 1000000 in
theorem rlens_4 (a : Arr) (A : Option Addr) (c : Nat) (hla : a.xs.length ≤ 9223372036854775807) (f0a : Fits a.l0) (f1a : Fits a.l1) (b : Arr) (B : Option Addr) (d : Nat) (hlb : b.xs.length ≤ 9223372036854775807) (f0b : Fits b.l0) (f1b : Fits b.l1) (h : chk a = 0) (h2 : chk b = 0) (h3 : a.r ≠ b.r) (h4 : a.r = 0) (w : World) (hsa : Sl w A a.xs) (hsb : Sl w B b.xs) :
    Calls Try.prog 27 #[.agg #[.int .i64 a.k, .int .i64 a.r, .int .i64 a.l0, .int .i64 a.l1, .slice A a.xs.length c], .agg #[.int .i64 b.k, .int .i64 b.r, .int .i64 b.l0, .int .i64 b.l1, .slice B b.xs.length d]] w fun e w' => e = lensRet (0, b.r, b.l0, b.l1) ∧ Below w.heap.size w w' := by
  have n1 : (chk a == 0) = true := by simpa using h
  have n2 : (chk b == 0) = true := by simpa using h2
  have n3 : (chk b != 0) = false := by simpa using h2
  have n4 : (a.r != b.r) = true := by simpa using h3
  have n5 : (a.r != 0) = false := by simpa using h4
  have n6 : (a.r == b.r) = false := by simpa using h3
  have n7 : (a.r == 0) = true := by simpa using h4
  clear h h2 h3 h4
  have neqs := fun (p q r s : Int) (w : World) => neq_lens p q r s w
  go_enter Try.func27, Try.ntmps27
  go_wp2_with fail
  refine (Ref.ac_any a A c hla f0a f1a _ (hsa.below (by (repeat (first | with_reducible exact Below.refl _ _ | with_reducible assumption | (with_reducible refine bl_set ?_ (by simp; try omega) _) | (with_reducible refine bl_alloc ?_ _) | (with_reducible refine bl_dn ?_ _) | (with_reducible refine bl_drew ?_) | (with_reducible refine bl_then ?_ (by with_reducible assumption))))))).mono ?_
  rintro e w1 ⟨rfl, hg⟩
  obtain ⟨hc, hf, hz⟩ := bcell hg
  (have zw0 : w.heap.size < w1.heap.size := by have := hg.size; simp at this; omega); (have zw1 : w.heap.size + 1 < w1.heap.size := by have := hg.size; simp at this; omega); (have zw2 : w.heap.size + 1 + 1 < w1.heap.size := by have := hg.size; simp at this; omega)
  go_wp2_with fail
  refine (Ref.ac_any b B d hlb f0b f1b _ (hsb.below (by (repeat (first | with_reducible exact Below.refl _ _ | with_reducible assumption | (with_reducible refine bl_set ?_ (by simp; try omega) _) | (with_reducible refine bl_alloc ?_ _) | (with_reducible refine bl_dn ?_ _) | (with_reducible refine bl_drew ?_) | (with_reducible refine bl_then ?_ (by with_reducible assumption))))))).mono ?_
  rintro e w2 ⟨rfl, hg2⟩
  obtain ⟨hc2, hf2, hz2⟩ := bcell hg2
  (have zx0 : w.heap.size < w2.heap.size := by omega); (have zx1 : w.heap.size + 1 < w2.heap.size := by omega); (have zx2 : w.heap.size + 1 + 1 < w2.heap.size := by omega)
  go_wp2
  go_region_held3 (fun w' => w'.cell? ⟨w.heap.size + 1, 1, none⟩ = some (.int .i64 b.r) ∧ w'.cell? ⟨w.heap.size + 1, 2, none⟩ = some (.int .i64 b.l0) ∧ w'.cell? ⟨w.heap.size + 1, 3, none⟩ = some (.int .i64 b.l1)) (simp [go_sem, *]) (fail)
  go_wp2
  exact bodyPost_ret (v := .tuple #[.int .i64 b.r, .agg #[.int .i64 b.l0, .int .i64 b.l1], .int .i64 0]) (by simp [results, Try.results27, go_sem, hc, hf, hz, zw0, zw1, zw2, hc2, hf2, hz2, zx0, zx1, zx2]) rfl ⟨rfl, by (repeat (first | with_reducible exact Below.refl _ _ | with_reducible assumption | (with_reducible refine bl_set ?_ (by simp; try omega) _) | (with_reducible refine bl_alloc ?_ _) | (with_reducible refine bl_dn ?_ _) | (with_reducible refine bl_drew ?_) | (with_reducible refine bl_then ?_ (by with_reducible assumption))))⟩
set_option maxHeartbeats 1000000 in
theorem rlens_5 (a : Arr) (A : Option Addr) (c : Nat) (hla : a.xs.length ≤ 9223372036854775807) (f0a : Fits a.l0) (f1a : Fits a.l1) (b : Arr) (B : Option Addr) (d : Nat) (hlb : b.xs.length ≤ 9223372036854775807) (f0b : Fits b.l0) (f1b : Fits b.l1) (h : chk a = 0) (h2 : chk b = 0) (h3 : a.r ≠ b.r) (h4 : a.r ≠ 0) (h5 : b.r = 0) (w : World) (hsa : Sl w A a.xs) (hsb : Sl w B b.xs) :
    Calls Try.prog 27 #[.agg #[.int .i64 a.k, .int .i64 a.r, .int .i64 a.l0, .int .i64 a.l1, .slice A a.xs.length c], .agg #[.int .i64 b.k, .int .i64 b.r, .int .i64 b.l0, .int .i64 b.l1, .slice B b.xs.length d]] w fun e w' => e = lensRet (0, a.r, a.l0, a.l1) ∧ Below w.heap.size w w' := by
  have n1 : (chk a == 0) = true := by simpa using h
  have n2 : (chk b == 0) = true := by simpa using h2
  have n3 : (chk b != 0) = false := by simpa using h2
  have n4 : (a.r != b.r) = true := by simpa using h3
  have n5 : (a.r != 0) = true := by simpa using h4
  have n8 : (b.r != 0) = false := by simpa using h5
  have n6 : (a.r == b.r) = false := by simpa using h3
  have n7 : (a.r == 0) = false := by simpa using h4
  clear h h2 h3 h4 h5
  have neqs := fun (p q r s : Int) (w : World) => neq_lens p q r s w
  go_enter Try.func27, Try.ntmps27
  go_wp2_with fail
  refine (Ref.ac_any a A c hla f0a f1a _ (hsa.below (by (repeat (first | with_reducible exact Below.refl _ _ | with_reducible assumption | (with_reducible refine bl_set ?_ (by simp; try omega) _) | (with_reducible refine bl_alloc ?_ _) | (with_reducible refine bl_dn ?_ _) | (with_reducible refine bl_drew ?_) | (with_reducible refine bl_then ?_ (by with_reducible assumption))))))).mono ?_
  rintro e w1 ⟨rfl, hg⟩
  obtain ⟨hc, hf, hz⟩ := bcell hg
  (have zw0 : w.heap.size < w1.heap.size := by have := hg.size; simp at this; omega); (have zw1 : w.heap.size + 1 < w1.heap.size := by have := hg.size; simp at this; omega); (have zw2 : w.heap.size + 1 + 1 < w1.heap.size := by have := hg.size; simp at this; omega)
  go_wp2_with fail
  refine (Ref.ac_any b B d hlb f0b f1b _ (hsb.below (by (repeat (first | with_reducible exact Below.refl _ _ | with_reducible assumption | (with_reducible refine bl_set ?_ (by simp; try omega) _) | (with_reducible refine bl_alloc ?_ _) | (with_reducible refine bl_dn ?_ _) | (with_reducible refine bl_drew ?_) | (with_reducible refine bl_then ?_ (by with_reducible assumption))))))).mono ?_
  rintro e w2 ⟨rfl, hg2⟩
  obtain ⟨hc2, hf2, hz2⟩ := bcell hg2
  (have zx0 : w.heap.size < w2.heap.size := by omega); (have zx1 : w.heap.size + 1 < w2.heap.size := by omega); (have zx2 : w.heap.size + 1 + 1 < w2.heap.size := by omega)
  go_wp2
  go_region_held3 (fun w' => w'.cell? ⟨w.heap.size, 1, none⟩ = some (.int .i64 a.r) ∧ w'.cell? ⟨w.heap.size, 2, none⟩ = some (.int .i64 a.l0) ∧ w'.cell? ⟨w.heap.size, 3, none⟩ = some (.int .i64 a.l1)) (simp [go_sem, *]) (fail)
  go_wp2
  exact bodyPost_ret (v := .tuple #[.int .i64 a.r, .agg #[.int .i64 a.l0, .int .i64 a.l1], .int .i64 0]) (by simp [results, Try.results27, go_sem, hc, hf, hz, zw0, zw1, zw2, hc2, hf2, hz2, zx0, zx1, zx2]) rfl ⟨rfl, by (repeat (first | with_reducible exact Below.refl _ _ | with_reducible assumption | (with_reducible refine bl_set ?_ (by simp; try omega) _) | (with_reducible refine bl_alloc ?_ _) | (with_reducible refine bl_dn ?_ _) | (with_reducible refine bl_drew ?_) | (with_reducible refine bl_then ?_ (by with_reducible assumption))))⟩
set_option maxHeartbeats 1000000 in
theorem rlens_6 (a : Arr) (A : Option Addr) (c : Nat) (hla : a.xs.length ≤ 9223372036854775807) (f0a : Fits a.l0) (f1a : Fits a.l1) (b : Arr) (B : Option Addr) (d : Nat) (hlb : b.xs.length ≤ 9223372036854775807) (f0b : Fits b.l0) (f1b : Fits b.l1) (h : chk a = 0) (h2 : chk b = 0) (h3 : a.r = b.r) (h4 : (a.l0 == b.l0 && a.l1 == b.l1) = false) (w : World) (hsa : Sl w A a.xs) (hsb : Sl w B b.xs) :
    Calls Try.prog 27 #[.agg #[.int .i64 a.k, .int .i64 a.r, .int .i64 a.l0, .int .i64 a.l1, .slice A a.xs.length c], .agg #[.int .i64 b.k, .int .i64 b.r, .int .i64 b.l0, .int .i64 b.l1, .slice B b.xs.length d]] w fun e w' => e = lensRet (11, 0, 0, 0) ∧ Below w.heap.size w w' := by
  have n1 : (chk a == 0) = true := by simpa using h
  have n2 : (chk b == 0) = true := by simpa using h2
  have n3 : (chk b != 0) = false := by simpa using h2
  have n4 : (a.r != b.r) = false := by simpa using h3
  have n6 : (a.r == b.r) = true := by simpa using h3
  have n7 : (!(a.l0 == b.l0 && a.l1 == b.l1)) = true := by rw [h4]; rfl
  clear h h2 h3 h4
  have neqs := fun (p q r s : Int) (w : World) => neq_lens p q r s w
  go_enter Try.func27, Try.ntmps27
  go_wp2_with fail
  refine (Ref.ac_any a A c hla f0a f1a _ (hsa.below (by (repeat (first | with_reducible exact Below.refl _ _ | with_reducible assumption | (with_reducible refine bl_set ?_ (by simp; try omega) _) | (with_reducible refine bl_alloc ?_ _) | (with_reducible refine bl_dn ?_ _) | (with_reducible refine bl_drew ?_) | (with_reducible refine bl_then ?_ (by with_reducible assumption))))))).mono ?_
  rintro e w1 ⟨rfl, hg⟩
  obtain ⟨hc, hf, hz⟩ := bcell hg
  (have zw0 : w.heap.size < w1.heap.size := by have := hg.size; simp at this; omega); (have zw1 : w.heap.size + 1 < w1.heap.size := by have := hg.size; simp at this; omega); (have zw2 : w.heap.size + 1 + 1 < w1.heap.size := by have := hg.size; simp at this; omega)
  go_wp2_with fail
  refine (Ref.ac_any b B d hlb f0b f1b _ (hsb.below (by (repeat (first | with_reducible exact Below.refl _ _ | with_reducible assumption | (with_reducible refine bl_set ?_ (by simp; try omega) _) | (with_reducible refine bl_alloc ?_ _) | (with_reducible refine bl_dn ?_ _) | (with_reducible refine bl_drew ?_) | (with_reducible refine bl_then ?_ (by with_reducible assumption))))))).mono ?_
  rintro e w2 ⟨rfl, hg2⟩
  obtain ⟨hc2, hf2, hz2⟩ := bcell hg2
  (have zx0 : w.heap.size < w2.heap.size := by omega); (have zx1 : w.heap.size + 1 < w2.heap.size := by omega); (have zx2 : w.heap.size + 1 + 1 < w2.heap.size := by omega)
  go_wp2
  exact bodyPost_ret (v := .tuple #[.int .i64 0, .agg #[.int .i64 0, .int .i64 0], .int .i64 11]) (by simp [results, Try.results27, go_sem, hc, hf, hz, zw2, hc2, hf2, hz2, zx2]) rfl ⟨rfl, by (repeat (first | with_reducible exact Below.refl _ _ | with_reducible assumption | (with_reducible refine bl_set ?_ (by simp; try omega) _) | (with_reducible refine bl_alloc ?_ _) | (with_reducible refine bl_dn ?_ _) | (with_reducible refine bl_drew ?_) | (with_reducible refine bl_then ?_ (by with_reducible assumption))))⟩
set_option maxHeartbeats 1000000 in
theorem rlens_7 (a : Arr) (A : Option Addr) (c : Nat) (hla : a.xs.length ≤ 9223372036854775807) (f0a : Fits a.l0) (f1a : Fits a.l1) (b : Arr) (B : Option Addr) (d : Nat) (hlb : b.xs.length ≤ 9223372036854775807) (f0b : Fits b.l0) (f1b : Fits b.l1) (h : chk a = 0) (h2 : chk b = 0) (h3 : a.r = b.r) (h4 : (a.l0 == b.l0 && a.l1 == b.l1) = true) (h5 : a.r = 0) (w : World) (hsa : Sl w A a.xs) (hsb : Sl w B b.xs) :
    Calls Try.prog 27 #[.agg #[.int .i64 a.k, .int .i64 a.r, .int .i64 a.l0, .int .i64 a.l1, .slice A a.xs.length c], .agg #[.int .i64 b.k, .int .i64 b.r, .int .i64 b.l0, .int .i64 b.l1, .slice B b.xs.length d]] w fun e w' => e = lensRet (0, b.r, b.l0, b.l1) ∧ Below w.heap.size w w' := by
  have n1 : (chk a == 0) = true := by simpa using h
  have n2 : (chk b == 0) = true := by simpa using h2
  have n3 : (chk b != 0) = false := by simpa using h2
  have n4 : (a.r != b.r) = false := by simpa using h3
  have n6 : (a.r == b.r) = true := by simpa using h3
  have n8 : (a.r == 0) = true := by simpa using h5
  have n7 : (!(a.l0 == b.l0 && a.l1 == b.l1)) = false := by rw [h4]; rfl
  clear h h2 h3 h4 h5
  have neqs := fun (p q r s : Int) (w : World) => neq_lens p q r s w
  go_enter Try.func27, Try.ntmps27
  go_wp2_with fail
  refine (Ref.ac_any a A c hla f0a f1a _ (hsa.below (by (repeat (first | with_reducible exact Below.refl _ _ | with_reducible assumption | (with_reducible refine bl_set ?_ (by simp; try omega) _) | (with_reducible refine bl_alloc ?_ _) | (with_reducible refine bl_dn ?_ _) | (with_reducible refine bl_drew ?_) | (with_reducible refine bl_then ?_ (by with_reducible assumption))))))).mono ?_
  rintro e w1 ⟨rfl, hg⟩
  obtain ⟨hc, hf, hz⟩ := bcell hg
  (have zw0 : w.heap.size < w1.heap.size := by have := hg.size; simp at this; omega); (have zw1 : w.heap.size + 1 < w1.heap.size := by have := hg.size; simp at this; omega); (have zw2 : w.heap.size + 1 + 1 < w1.heap.size := by have := hg.size; simp at this; omega)
  go_wp2_with fail
  refine (Ref.ac_any b B d hlb f0b f1b _ (hsb.below (by (repeat (first | with_reducible exact Below.refl _ _ | with_reducible assumption | (with_reducible refine bl_set ?_ (by simp; try omega) _) | (with_reducible refine bl_alloc ?_ _) | (with_reducible refine bl_dn ?_ _) | (with_reducible refine bl_drew ?_) | (with_reducible refine bl_then ?_ (by with_reducible assumption))))))).mono ?_
  rintro e w2 ⟨rfl, hg2⟩
  obtain ⟨hc2, hf2, hz2⟩ := bcell hg2
  (have zx0 : w.heap.size < w2.heap.size := by omega); (have zx1 : w.heap.size + 1 < w2.heap.size := by omega); (have zx2 : w.heap.size + 1 + 1 < w2.heap.size := by omega)
  go_wp2
  go_region_held3 (fun w' => w'.cell? ⟨w.heap.size + 1, 1, none⟩ = some (.int .i64 b.r) ∧ w'.cell? ⟨w.heap.size + 1, 2, none⟩ = some (.int .i64 b.l0) ∧ w'.cell? ⟨w.heap.size + 1, 3, none⟩ = some (.int .i64 b.l1)) (simp [go_sem, *]) (fail)
  go_wp2
  exact bodyPost_ret (v := .tuple #[.int .i64 b.r, .agg #[.int .i64 b.l0, .int .i64 b.l1], .int .i64 0]) (by simp [results, Try.results27, go_sem, hc, hf, hz, zw0, zw1, zw2, hc2, hf2, hz2, zx0, zx1, zx2]) rfl ⟨rfl, by (repeat (first | with_reducible exact Below.refl _ _ | with_reducible assumption | (with_reducible refine bl_set ?_ (by simp; try omega) _) | (with_reducible refine bl_alloc ?_ _) | (with_reducible refine bl_dn ?_ _) | (with_reducible refine bl_drew ?_) | (with_reducible refine bl_then ?_ (by with_reducible assumption))))⟩
set_option maxHeartbeats 1000000 in
theorem rlens_8 (a : Arr) (A : Option Addr) (c : Nat) (hla : a.xs.length ≤ 9223372036854775807) (f0a : Fits a.l0) (f1a : Fits a.l1) (b : Arr) (B : Option Addr) (d : Nat) (hlb : b.xs.length ≤ 9223372036854775807) (f0b : Fits b.l0) (f1b : Fits b.l1) (h : chk a = 0) (h2 : chk b = 0) (h3 : a.r = b.r) (h4 : (a.l0 == b.l0 && a.l1 == b.l1) = true) (h5 : a.r ≠ 0) (w : World) (hsa : Sl w A a.xs) (hsb : Sl w B b.xs) :
    Calls Try.prog 27 #[.agg #[.int .i64 a.k, .int .i64 a.r, .int .i64 a.l0, .int .i64 a.l1, .slice A a.xs.length c], .agg #[.int .i64 b.k, .int .i64 b.r, .int .i64 b.l0, .int .i64 b.l1, .slice B b.xs.length d]] w fun e w' => e = lensRet (0, a.r, a.l0, a.l1) ∧ Below w.heap.size w w' := by
  have n1 : (chk a == 0) = true := by simpa using h
  have n2 : (chk b == 0) = true := by simpa using h2
  have n3 : (chk b != 0) = false := by simpa using h2
  have n4 : (a.r != b.r) = false := by simpa using h3
  have n6 : (a.r == b.r) = true := by simpa using h3
  have n8 : (a.r == 0) = false := by simpa using h5
  have n7 : (!(a.l0 == b.l0 && a.l1 == b.l1)) = false := by rw [h4]; rfl
  clear h h2 h3 h4 h5
  have neqs := fun (p q r s : Int) (w : World) => neq_lens p q r s w
  go_enter Try.func27, Try.ntmps27
  go_wp2_with fail
  refine (Ref.ac_any a A c hla f0a f1a _ (hsa.below (by (repeat (first | with_reducible exact Below.refl _ _ | with_reducible assumption | (with_reducible refine bl_set ?_ (by simp; try omega) _) | (with_reducible refine bl_alloc ?_ _) | (with_reducible refine bl_dn ?_ _) | (with_reducible refine bl_drew ?_) | (with_reducible refine bl_then ?_ (by with_reducible assumption))))))).mono ?_
  rintro e w1 ⟨rfl, hg⟩
  obtain ⟨hc, hf, hz⟩ := bcell hg
  (have zw0 : w.heap.size < w1.heap.size := by have := hg.size; simp at this; omega); (have zw1 : w.heap.size + 1 < w1.heap.size := by have := hg.size; simp at this; omega); (have zw2 : w.heap.size + 1 + 1 < w1.heap.size := by have := hg.size; simp at this; omega)
  go_wp2_with fail
  refine (Ref.ac_any b B d hlb f0b f1b _ (hsb.below (by (repeat (first | with_reducible exact Below.refl _ _ | with_reducible assumption | (with_reducible refine bl_set ?_ (by simp; try omega) _) | (with_reducible refine bl_alloc ?_ _) | (with_reducible refine bl_dn ?_ _) | (with_reducible refine bl_drew ?_) | (with_reducible refine bl_then ?_ (by with_reducible assumption))))))).mono ?_
  rintro e w2 ⟨rfl, hg2⟩
  obtain ⟨hc2, hf2, hz2⟩ := bcell hg2
  (have zx0 : w.heap.size < w2.heap.size := by omega); (have zx1 : w.heap.size + 1 < w2.heap.size := by omega); (have zx2 : w.heap.size + 1 + 1 < w2.heap.size := by omega)
  go_wp2
  go_region_held3 (fun w' => w'.cell? ⟨w.heap.size, 1, none⟩ = some (.int .i64 a.r) ∧ w'.cell? ⟨w.heap.size, 2, none⟩ = some (.int .i64 a.l0) ∧ w'.cell? ⟨w.heap.size, 3, none⟩ = some (.int .i64 a.l1)) (simp [go_sem, *]) (fail)
  go_wp2
  exact bodyPost_ret (v := .tuple #[.int .i64 a.r, .agg #[.int .i64 a.l0, .int .i64 a.l1], .int .i64 0]) (by simp [results, Try.results27, go_sem, hc, hf, hz, zw0, zw1, zw2, hc2, hf2, hz2, zx0, zx1, zx2]) rfl ⟨rfl, by (repeat (first | with_reducible exact Below.refl _ _ | with_reducible assumption | (with_reducible refine bl_set ?_ (by simp; try omega) _) | (with_reducible refine bl_alloc ?_ _) | (with_reducible refine bl_dn ?_ _) | (with_reducible refine bl_drew ?_) | (with_reducible refine bl_then ?_ (by with_reducible assumption))))⟩
theorem chk_sh {a : Arr} (h : chk a = 0) : shCheck a.r a.l0 a.l1 = 0 ∧ (a.xs.length : Int) = prod a.r a.l0 a.l1 := by
  unfold chk at h
  by_cases h1 : a.k ≠ 1 ∧ a.k ≠ 2
  · rw [if_pos h1] at h; cases h
  rw [if_neg h1] at h
  by_cases h2 : shCheck a.r a.l0 a.l1 = 0
  · rw [if_neg (by simpa using h2)] at h
    refine ⟨h2, ?_⟩
    by_cases h3 : (a.xs.length : Int) = prod a.r a.l0 a.l1
    · exact h3
    · rw [if_pos h3] at h; cases h
  · rw [if_pos h2] at h; exact absurd h h2
theorem chk_zero {a : Arr} (h : chk a = 0) (hr : a.r = 0) : a.l0 = 0 ∧ a.l1 = 0 ∧ a.xs.length = 1 := by
  obtain ⟨h1, h2⟩ := chk_sh h
  rw [hr] at h1 h2
  rw [prod_0] at h2
  by_cases h3 : a.l0 ≠ 0 ∨ a.l1 ≠ 0
  · rw [sh_0f h3] at h1; cases h1
  · exact ⟨by omega, by omega, by omega⟩
theorem lens_eqB {a b : Arr} : (a.l0 == b.l0 && a.l1 == b.l1) = false ↔ (a.l0 ≠ b.l0 ∨ a.l1 ≠ b.l1) := by
  by_cases h1 : a.l0 = b.l0 <;> by_cases h2 : a.l1 = b.l1 <;> simp [h1, h2]
theorem lens_any (a : Arr) (A : Option Addr) (c : Nat) (hla : a.xs.length ≤ 9223372036854775807) (f0a : Fits a.l0) (f1a : Fits a.l1) (b : Arr) (B : Option Addr) (d : Nat) (hlb : b.xs.length ≤ 9223372036854775807) (f0b : Fits b.l0) (f1b : Fits b.l1) (w : World) (hsa : Sl w A a.xs) (hsb : Sl w B b.xs) :
    Calls Try.prog 26 #[.agg #[.int .i64 a.k, .int .i64 a.r, .int .i64 a.l0, .int .i64 a.l1, .slice A a.xs.length c], .agg #[.int .i64 b.k, .int .i64 b.r, .int .i64 b.l0, .int .i64 b.l1, .slice B b.xs.length d]] w fun e w' => e = lensRet (extLens a b) ∧ Below w.heap.size w w' := by
  unfold extLens
  by_cases h : chk2 a b = 0
  · rw [if_neg (by simpa using h)]
    by_cases h0 : a.r = 0
    · rw [if_pos h0]; exact lens_a0 a A c hla f0a f1a b B d hlb f0b f1b h h0 w hsa hsb
    rw [if_neg h0]
    by_cases h1 : b.r = 0
    · rw [if_pos h1]; exact lens_b0 a A c hla f0a f1a b B d hlb f0b f1b h h0 h1 w hsa hsb
    rw [if_neg h1]
    by_cases h2 : a.r = b.r
    · rw [if_neg (by simpa using h2)]
      cases h3 : (a.l0 == b.l0 && a.l1 == b.l1)
      · rw [if_pos (lens_eqB.1 h3)]; exact lens_l a A c hla f0a f1a b B d hlb f0b f1b h h0 h1 h2 h3 w hsa hsb
      · rw [if_neg (fun e => by rw [lens_eqB.2 e] at h3; cases h3)]; exact lens_ok a A c hla f0a f1a b B d hlb f0b f1b h h0 h1 h2 h3 w hsa hsb
    · rw [if_pos h2]; exact lens_r a A c hla f0a f1a b B d hlb f0b f1b h h0 h1 h2 w hsa hsb
  · rw [if_pos h]; exact lens_bad a A c hla f0a f1a b B d hlb f0b f1b h w hsa hsb
theorem rlens_any (a : Arr) (A : Option Addr) (c : Nat) (hla : a.xs.length ≤ 9223372036854775807) (f0a : Fits a.l0) (f1a : Fits a.l1) (b : Arr) (B : Option Addr) (d : Nat) (hlb : b.xs.length ≤ 9223372036854775807) (f0b : Fits b.l0) (f1b : Fits b.l1) (w : World) (hsa : Sl w A a.xs) (hsb : Sl w B b.xs) :
    Calls Try.prog 27 #[.agg #[.int .i64 a.k, .int .i64 a.r, .int .i64 a.l0, .int .i64 a.l1, .slice A a.xs.length c], .agg #[.int .i64 b.k, .int .i64 b.r, .int .i64 b.l0, .int .i64 b.l1, .slice B b.xs.length d]] w fun e w' => e = lensRet (extLens a b) ∧ Below w.heap.size w w' := by
  unfold extLens
  by_cases ha : chk a = 0
  · rw [chk2_ok ha]
    by_cases hb : chk b = 0
    · rw [if_neg (by simpa using hb)]
      by_cases h2 : a.r = b.r
      · cases h3 : (a.l0 == b.l0 && a.l1 == b.l1)
        · have h0 : a.r ≠ 0 := fun e => by
            have := chk_zero ha e; have := chk_zero hb (h2.symm.trans e)
            rcases lens_eqB.1 h3 with h | h <;> omega
          rw [if_neg h0, if_neg (by omega), if_neg (by simpa using h2), if_pos (lens_eqB.1 h3)]
          exact rlens_6 a A c hla f0a f1a b B d hlb f0b f1b ha hb h2 h3 w hsa hsb
        · by_cases h0 : a.r = 0
          · rw [if_pos h0]; exact rlens_7 a A c hla f0a f1a b B d hlb f0b f1b ha hb h2 h3 h0 w hsa hsb
          · rw [if_neg h0, if_neg (by omega), if_neg (by simpa using h2), if_neg (fun e => by rw [lens_eqB.2 e] at h3; cases h3)]
            exact rlens_8 a A c hla f0a f1a b B d hlb f0b f1b ha hb h2 h3 h0 w hsa hsb
      · by_cases h0 : a.r = 0
        · rw [if_pos h0]; exact rlens_4 a A c hla f0a f1a b B d hlb f0b f1b ha hb h2 h0 w hsa hsb
        · rw [if_neg h0]
          by_cases h1 : b.r = 0
          · rw [if_pos h1]; exact rlens_5 a A c hla f0a f1a b B d hlb f0b f1b ha hb h2 h0 h1 w hsa hsb
          · rw [if_neg h1, if_pos h2]; exact rlens_3 a A c hla f0a f1a b B d hlb f0b f1b ha hb h2 h0 h1 w hsa hsb
    · rw [if_pos hb]; exact rlens_2 a A c hla f0a f1a b B d hlb f0b f1b ha hb w hsa hsb
  · rw [chk2_bad ha, if_pos ha]; exact rlens_1 a A c hla f0a f1a b B d hlb f0b f1b ha w hsa hsb
end Ar
end Go.Proofs.Ytfpnafeildigaaa
