/-
Contracts of extend.Lens, of the program and of the reference (chapter 10).
-/
import Derived.Test.YtfpnafeildigaaaArW
import Derived.BigRegion
set_option linter.unusedSimpArgs false
set_option linter.unusedVariables false
namespace Go.Proofs.Ytfpnafeildigaaa
namespace Ar
open Go.RowKit Sc

abbrev lensRet (r : Int × Int × Int × Int) : Ending := .returned (.tuple #[.int .i64 r.2.1, .agg #[.int .i64 r.2.2.1, .int .i64 r.2.2.2], .int .i64 r.1])
theorem neq_lens (a b c d : Int) (w : World) : (binOp .neq 22 (.agg #[.int .i64 a, .int .i64 b]) (.agg #[.int .i64 c, .int .i64 d])).run Try.prog w = .ok (.bool (!(a == c && b == d))) w := by
  obtain ⟨i0, hi, _, hz, _⟩ := info_parts info_int
  rw [run_neq_struct, run_eql_arr2 _ _ Try.underlying22 Try.underlying3 hi hz, Result.andThen_ok]
set_option maxHeartbeats 1000000 in
theorem lens_bad (a : Arr) (A : Option Addr) (c : Nat) (hla : a.xs.length ≤ 9223372036854775807) (f0a : Fits a.l0) (f1a : Fits a.l1) (b : Arr) (B : Option Addr) (d : Nat) (hlb : b.xs.length ≤ 9223372036854775807) (f0b : Fits b.l0) (f1b : Fits b.l1) (h : chk2 a b ≠ 0) (w : World) (hsa : Sl w A a.xs) (hsb : Sl w B b.xs) :
    Calls Try.prog 26 #[.agg #[.int .i64 a.k, .int .i64 a.r, .int .i64 a.l0, .int .i64 a.l1, .slice A a.xs.length c], .agg #[.int .i64 b.k, .int .i64 b.r, .int .i64 b.l0, .int .i64 b.l1, .slice B b.xs.length d]] w fun e w' => e = lensRet (chk2 a b, 0, 0, 0) ∧ Below w.heap.size w w' := by
  have n1 : (chk2 a b != 0) = true := by simpa using h
  clear h
  go_enter Try.func26, Try.ntmps26
  go_wp2_with (go_at_call 65; refine (check2_any a A c hla f0a f1a b B d hlb f0b f1b _ (hsa.below (by (repeat (first | with_reducible exact Below.refl _ _ | with_reducible assumption | (with_reducible refine bl_set ?_ (by simp; try omega) _) | (with_reducible refine bl_alloc ?_ _) | (with_reducible refine bl_dn ?_ _) | (with_reducible refine bl_drew ?_) | (with_reducible refine bl_then ?_ (by with_reducible assumption)))))) (hsb.below (by (repeat (first | with_reducible exact Below.refl _ _ | with_reducible assumption | (with_reducible refine bl_set ?_ (by simp; try omega) _) | (with_reducible refine bl_alloc ?_ _) | (with_reducible refine bl_dn ?_ _) | (with_reducible refine bl_drew ?_) | (with_reducible refine bl_then ?_ (by with_reducible assumption))))))).mono ?_; rintro e w1 ⟨rfl, hg⟩; obtain ⟨hc, hf, hz⟩ := bcell hg; (have zw2 : w.heap.size + 1 + 1 < w1.heap.size := by have := hg.size; simp at this; omega))
  exact bodyPost_ret (v := .tuple #[.int .i64 0, .agg #[.int .i64 0, .int .i64 0], .int .i64 (chk2 a b)]) (by simp [results, Try.results26, go_sem, hc, hf, hz, zw2]) rfl ⟨rfl, by (repeat (first | with_reducible exact Below.refl _ _ | with_reducible assumption | (with_reducible refine bl_set ?_ (by simp; try omega) _) | (with_reducible refine bl_alloc ?_ _) | (with_reducible refine bl_dn ?_ _) | (with_reducible refine bl_drew ?_) | (with_reducible refine bl_then ?_ (by with_reducible assumption))))⟩
set_option maxHeartbeats 1000000 in
theorem lens_a0 (a : Arr) (A : Option Addr) (c : Nat) (hla : a.xs.length ≤ 9223372036854775807) (f0a : Fits a.l0) (f1a : Fits a.l1) (b : Arr) (B : Option Addr) (d : Nat) (hlb : b.xs.length ≤ 9223372036854775807) (f0b : Fits b.l0) (f1b : Fits b.l1) (h : chk2 a b = 0) (h0 : a.r = 0) (w : World) (hsa : Sl w A a.xs) (hsb : Sl w B b.xs) :
    Calls Try.prog 26 #[.agg #[.int .i64 a.k, .int .i64 a.r, .int .i64 a.l0, .int .i64 a.l1, .slice A a.xs.length c], .agg #[.int .i64 b.k, .int .i64 b.r, .int .i64 b.l0, .int .i64 b.l1, .slice B b.xs.length d]] w fun e w' => e = lensRet (0, b.r, b.l0, b.l1) ∧ Below w.heap.size w w' := by
  have n1 : (chk2 a b != 0) = false := by simpa using h
  have n2 : (a.r == 0) = true := by simpa using h0
  clear h0
  have neqs := fun (p q r s : Int) (w : World) => neq_lens p q r s w
  clear h
  go_enter Try.func26, Try.ntmps26
  go_wp2_with (go_at_call 65; refine (check2_any a A c hla f0a f1a b B d hlb f0b f1b _ (hsa.below (by (repeat (first | with_reducible exact Below.refl _ _ | with_reducible assumption | (with_reducible refine bl_set ?_ (by simp; try omega) _) | (with_reducible refine bl_alloc ?_ _) | (with_reducible refine bl_dn ?_ _) | (with_reducible refine bl_drew ?_) | (with_reducible refine bl_then ?_ (by with_reducible assumption)))))) (hsb.below (by (repeat (first | with_reducible exact Below.refl _ _ | with_reducible assumption | (with_reducible refine bl_set ?_ (by simp; try omega) _) | (with_reducible refine bl_alloc ?_ _) | (with_reducible refine bl_dn ?_ _) | (with_reducible refine bl_drew ?_) | (with_reducible refine bl_then ?_ (by with_reducible assumption))))))).mono ?_; rintro e w1 ⟨rfl, hg⟩; obtain ⟨hc, hf, hz⟩ := bcell hg; (have zw0 : w.heap.size < w1.heap.size := by have := hg.size; simp at this; omega); (have zw1 : w.heap.size + 1 < w1.heap.size := by have := hg.size; simp at this; omega); (have zw2 : w.heap.size + 1 + 1 < w1.heap.size := by have := hg.size; simp at this; omega))
  go_region_held3 (fun w' => w'.cell? ⟨w.heap.size + 1, 1, none⟩ = some (.int .i64 b.r) ∧ w'.cell? ⟨w.heap.size + 1, 2, none⟩ = some (.int .i64 b.l0) ∧ w'.cell? ⟨w.heap.size + 1, 3, none⟩ = some (.int .i64 b.l1)) (simp [go_sem, *]) (fail)
  go_wp2
  exact bodyPost_ret (v := .tuple #[.int .i64 b.r, .agg #[.int .i64 b.l0, .int .i64 b.l1], .int .i64 0]) (by simp [results, Try.results26, go_sem, hc, hf, hz, zw0, zw1, zw2]) rfl ⟨rfl, by (repeat (first | with_reducible exact Below.refl _ _ | with_reducible assumption | (with_reducible refine bl_set ?_ (by simp; try omega) _) | (with_reducible refine bl_alloc ?_ _) | (with_reducible refine bl_dn ?_ _) | (with_reducible refine bl_drew ?_) | (with_reducible refine bl_then ?_ (by with_reducible assumption))))⟩
set_option maxHeartbeats 1000000 in
theorem lens_b0 (a : Arr) (A : Option Addr) (c : Nat) (hla : a.xs.length ≤ 9223372036854775807) (f0a : Fits a.l0) (f1a : Fits a.l1) (b : Arr) (B : Option Addr) (d : Nat) (hlb : b.xs.length ≤ 9223372036854775807) (f0b : Fits b.l0) (f1b : Fits b.l1) (h : chk2 a b = 0) (h0 : a.r ≠ 0) (h1 : b.r = 0) (w : World) (hsa : Sl w A a.xs) (hsb : Sl w B b.xs) :
    Calls Try.prog 26 #[.agg #[.int .i64 a.k, .int .i64 a.r, .int .i64 a.l0, .int .i64 a.l1, .slice A a.xs.length c], .agg #[.int .i64 b.k, .int .i64 b.r, .int .i64 b.l0, .int .i64 b.l1, .slice B b.xs.length d]] w fun e w' => e = lensRet (0, a.r, a.l0, a.l1) ∧ Below w.heap.size w w' := by
  have n1 : (chk2 a b != 0) = false := by simpa using h
  have n2 : (a.r == 0) = false := by simpa using h0
  have n3 : (b.r == 0) = true := by simpa using h1
  clear h0 h1
  have neqs := fun (p q r s : Int) (w : World) => neq_lens p q r s w
  clear h
  go_enter Try.func26, Try.ntmps26
  go_wp2_with (go_at_call 65; refine (check2_any a A c hla f0a f1a b B d hlb f0b f1b _ (hsa.below (by (repeat (first | with_reducible exact Below.refl _ _ | with_reducible assumption | (with_reducible refine bl_set ?_ (by simp; try omega) _) | (with_reducible refine bl_alloc ?_ _) | (with_reducible refine bl_dn ?_ _) | (with_reducible refine bl_drew ?_) | (with_reducible refine bl_then ?_ (by with_reducible assumption)))))) (hsb.below (by (repeat (first | with_reducible exact Below.refl _ _ | with_reducible assumption | (with_reducible refine bl_set ?_ (by simp; try omega) _) | (with_reducible refine bl_alloc ?_ _) | (with_reducible refine bl_dn ?_ _) | (with_reducible refine bl_drew ?_) | (with_reducible refine bl_then ?_ (by with_reducible assumption))))))).mono ?_; rintro e w1 ⟨rfl, hg⟩; obtain ⟨hc, hf, hz⟩ := bcell hg; (have zw0 : w.heap.size < w1.heap.size := by have := hg.size; simp at this; omega); (have zw1 : w.heap.size + 1 < w1.heap.size := by have := hg.size; simp at this; omega); (have zw2 : w.heap.size + 1 + 1 < w1.heap.size := by have := hg.size; simp at this; omega))
  go_region_held3 (fun w' => w'.cell? ⟨w.heap.size, 1, none⟩ = some (.int .i64 a.r) ∧ w'.cell? ⟨w.heap.size, 2, none⟩ = some (.int .i64 a.l0) ∧ w'.cell? ⟨w.heap.size, 3, none⟩ = some (.int .i64 a.l1)) (simp [go_sem, *]) (fail)
  go_wp2
  exact bodyPost_ret (v := .tuple #[.int .i64 a.r, .agg #[.int .i64 a.l0, .int .i64 a.l1], .int .i64 0]) (by simp [results, Try.results26, go_sem, hc, hf, hz, zw0, zw1, zw2]) rfl ⟨rfl, by (repeat (first | with_reducible exact Below.refl _ _ | with_reducible assumption | (with_reducible refine bl_set ?_ (by simp; try omega) _) | (with_reducible refine bl_alloc ?_ _) | (with_reducible refine bl_dn ?_ _) | (with_reducible refine bl_drew ?_) | (with_reducible refine bl_then ?_ (by with_reducible assumption))))⟩
set_option maxHeartbeats 1000000 in
theorem lens_r (a : Arr) (A : Option Addr) (c : Nat) (hla : a.xs.length ≤ 9223372036854775807) (f0a : Fits a.l0) (f1a : Fits a.l1) (b : Arr) (B : Option Addr) (d : Nat) (hlb : b.xs.length ≤ 9223372036854775807) (f0b : Fits b.l0) (f1b : Fits b.l1) (h : chk2 a b = 0) (h0 : a.r ≠ 0) (h1 : b.r ≠ 0) (h2 : a.r ≠ b.r) (w : World) (hsa : Sl w A a.xs) (hsb : Sl w B b.xs) :
    Calls Try.prog 26 #[.agg #[.int .i64 a.k, .int .i64 a.r, .int .i64 a.l0, .int .i64 a.l1, .slice A a.xs.length c], .agg #[.int .i64 b.k, .int .i64 b.r, .int .i64 b.l0, .int .i64 b.l1, .slice B b.xs.length d]] w fun e w' => e = lensRet (22, 0, 0, 0) ∧ Below w.heap.size w w' := by
  have n1 : (chk2 a b != 0) = false := by simpa using h
  have n2 : (a.r == 0) = false := by simpa using h0
  have n3 : (b.r == 0) = false := by simpa using h1
  have n4 : (a.r != b.r) = true := by simpa using h2
  clear h0 h1 h2
  have neqs := fun (p q r s : Int) (w : World) => neq_lens p q r s w
  clear h
  go_enter Try.func26, Try.ntmps26
  go_wp2_with (go_at_call 65; refine (check2_any a A c hla f0a f1a b B d hlb f0b f1b _ (hsa.below (by (repeat (first | with_reducible exact Below.refl _ _ | with_reducible assumption | (with_reducible refine bl_set ?_ (by simp; try omega) _) | (with_reducible refine bl_alloc ?_ _) | (with_reducible refine bl_dn ?_ _) | (with_reducible refine bl_drew ?_) | (with_reducible refine bl_then ?_ (by with_reducible assumption)))))) (hsb.below (by (repeat (first | with_reducible exact Below.refl _ _ | with_reducible assumption | (with_reducible refine bl_set ?_ (by simp; try omega) _) | (with_reducible refine bl_alloc ?_ _) | (with_reducible refine bl_dn ?_ _) | (with_reducible refine bl_drew ?_) | (with_reducible refine bl_then ?_ (by with_reducible assumption))))))).mono ?_; rintro e w1 ⟨rfl, hg⟩; obtain ⟨hc, hf, hz⟩ := bcell hg; (have zw0 : w.heap.size < w1.heap.size := by have := hg.size; simp at this; omega); (have zw1 : w.heap.size + 1 < w1.heap.size := by have := hg.size; simp at this; omega); (have zw2 : w.heap.size + 1 + 1 < w1.heap.size := by have := hg.size; simp at this; omega))
  exact bodyPost_ret (v := .tuple #[.int .i64 0, .agg #[.int .i64 0, .int .i64 0], .int .i64 22]) (by simp [results, Try.results26, go_sem, hc, hf, hz, zw2]) rfl ⟨rfl, by (repeat (first | with_reducible exact Below.refl _ _ | with_reducible assumption | (with_reducible refine bl_set ?_ (by simp; try omega) _) | (with_reducible refine bl_alloc ?_ _) | (with_reducible refine bl_dn ?_ _) | (with_reducible refine bl_drew ?_) | (with_reducible refine bl_then ?_ (by with_reducible assumption))))⟩
set_option maxHeartbeats 1000000 in
theorem lens_l (a : Arr) (A : Option Addr) (c : Nat) (hla : a.xs.length ≤ 9223372036854775807) (f0a : Fits a.l0) (f1a : Fits a.l1) (b : Arr) (B : Option Addr) (d : Nat) (hlb : b.xs.length ≤ 9223372036854775807) (f0b : Fits b.l0) (f1b : Fits b.l1) (h : chk2 a b = 0) (h0 : a.r ≠ 0) (h1 : b.r ≠ 0) (h2 : a.r = b.r) (h3 : (a.l0 == b.l0 && a.l1 == b.l1) = false) (w : World) (hsa : Sl w A a.xs) (hsb : Sl w B b.xs) :
    Calls Try.prog 26 #[.agg #[.int .i64 a.k, .int .i64 a.r, .int .i64 a.l0, .int .i64 a.l1, .slice A a.xs.length c], .agg #[.int .i64 b.k, .int .i64 b.r, .int .i64 b.l0, .int .i64 b.l1, .slice B b.xs.length d]] w fun e w' => e = lensRet (11, 0, 0, 0) ∧ Below w.heap.size w w' := by
  have n1 : (chk2 a b != 0) = false := by simpa using h
  have n2 : (a.r == 0) = false := by simpa using h0
  have n3 : (b.r == 0) = false := by simpa using h1
  have n4 : (a.r != b.r) = false := by simpa using h2
  have n5 : (!(a.l0 == b.l0 && a.l1 == b.l1)) = true := by rw [h3]; rfl
  clear h0 h1 h2 h3
  have neqs := fun (p q r s : Int) (w : World) => neq_lens p q r s w
  clear h
  go_enter Try.func26, Try.ntmps26
  go_wp2_with (go_at_call 65; refine (check2_any a A c hla f0a f1a b B d hlb f0b f1b _ (hsa.below (by (repeat (first | with_reducible exact Below.refl _ _ | with_reducible assumption | (with_reducible refine bl_set ?_ (by simp; try omega) _) | (with_reducible refine bl_alloc ?_ _) | (with_reducible refine bl_dn ?_ _) | (with_reducible refine bl_drew ?_) | (with_reducible refine bl_then ?_ (by with_reducible assumption)))))) (hsb.below (by (repeat (first | with_reducible exact Below.refl _ _ | with_reducible assumption | (with_reducible refine bl_set ?_ (by simp; try omega) _) | (with_reducible refine bl_alloc ?_ _) | (with_reducible refine bl_dn ?_ _) | (with_reducible refine bl_drew ?_) | (with_reducible refine bl_then ?_ (by with_reducible assumption))))))).mono ?_; rintro e w1 ⟨rfl, hg⟩; obtain ⟨hc, hf, hz⟩ := bcell hg; (have zw0 : w.heap.size < w1.heap.size := by have := hg.size; simp at this; omega); (have zw1 : w.heap.size + 1 < w1.heap.size := by have := hg.size; simp at this; omega); (have zw2 : w.heap.size + 1 + 1 < w1.heap.size := by have := hg.size; simp at this; omega))
  exact bodyPost_ret (v := .tuple #[.int .i64 0, .agg #[.int .i64 0, .int .i64 0], .int .i64 11]) (by simp [results, Try.results26, go_sem, hc, hf, hz, zw2]) rfl ⟨rfl, by (repeat (first | with_reducible exact Below.refl _ _ | with_reducible assumption | (with_reducible refine bl_set ?_ (by simp; try omega) _) | (with_reducible refine bl_alloc ?_ _) | (with_reducible refine bl_dn ?_ _) | (with_reducible refine bl_drew ?_) | (with_reducible refine bl_then ?_ (by with_reducible assumption))))⟩
set_option maxHeartbeats 1000000 in
theorem lens_ok (a : Arr) (A : Option Addr) (c : Nat) (hla : a.xs.length ≤ 9223372036854775807) (f0a : Fits a.l0) (f1a : Fits a.l1) (b : Arr) (B : Option Addr) (d : Nat) (hlb : b.xs.length ≤ 9223372036854775807) (f0b : Fits b.l0) (f1b : Fits b.l1) (h : chk2 a b = 0) (h0 : a.r ≠ 0) (h1 : b.r ≠ 0) (h2 : a.r = b.r) (h3 : (a.l0 == b.l0 && a.l1 == b.l1) = true) (w : World) (hsa : Sl w A a.xs) (hsb : Sl w B b.xs) :
    Calls Try.prog 26 #[.agg #[.int .i64 a.k, .int .i64 a.r, .int .i64 a.l0, .int .i64 a.l1, .slice A a.xs.length c], .agg #[.int .i64 b.k, .int .i64 b.r, .int .i64 b.l0, .int .i64 b.l1, .slice B b.xs.length d]] w fun e w' => e = lensRet (0, a.r, a.l0, a.l1) ∧ Below w.heap.size w w' := by
  have n1 : (chk2 a b != 0) = false := by simpa using h
  have n2 : (a.r == 0) = false := by simpa using h0
  have n3 : (b.r == 0) = false := by simpa using h1
  have n4 : (a.r != b.r) = false := by simpa using h2
  have n5 : (!(a.l0 == b.l0 && a.l1 == b.l1)) = false := by rw [h3]; rfl
  clear h0 h1 h2 h3
  have neqs := fun (p q r s : Int) (w : World) => neq_lens p q r s w
  clear h
  go_enter Try.func26, Try.ntmps26
  go_wp2_with (go_at_call 65; refine (check2_any a A c hla f0a f1a b B d hlb f0b f1b _ (hsa.below (by (repeat (first | with_reducible exact Below.refl _ _ | with_reducible assumption | (with_reducible refine bl_set ?_ (by simp; try omega) _) | (with_reducible refine bl_alloc ?_ _) | (with_reducible refine bl_dn ?_ _) | (with_reducible refine bl_drew ?_) | (with_reducible refine bl_then ?_ (by with_reducible assumption)))))) (hsb.below (by (repeat (first | with_reducible exact Below.refl _ _ | with_reducible assumption | (with_reducible refine bl_set ?_ (by simp; try omega) _) | (with_reducible refine bl_alloc ?_ _) | (with_reducible refine bl_dn ?_ _) | (with_reducible refine bl_drew ?_) | (with_reducible refine bl_then ?_ (by with_reducible assumption))))))).mono ?_; rintro e w1 ⟨rfl, hg⟩; obtain ⟨hc, hf, hz⟩ := bcell hg; (have zw0 : w.heap.size < w1.heap.size := by have := hg.size; simp at this; omega); (have zw1 : w.heap.size + 1 < w1.heap.size := by have := hg.size; simp at this; omega); (have zw2 : w.heap.size + 1 + 1 < w1.heap.size := by have := hg.size; simp at this; omega))
  go_region_held3 (fun w' => w'.cell? ⟨w.heap.size, 1, none⟩ = some (.int .i64 a.r) ∧ w'.cell? ⟨w.heap.size, 2, none⟩ = some (.int .i64 a.l0) ∧ w'.cell? ⟨w.heap.size, 3, none⟩ = some (.int .i64 a.l1)) (simp [go_sem, *]) (fail)
  go_wp2
  exact bodyPost_ret (v := .tuple #[.int .i64 a.r, .agg #[.int .i64 a.l0, .int .i64 a.l1], .int .i64 0]) (by simp [results, Try.results26, go_sem, hc, hf, hz, zw0, zw1, zw2]) rfl ⟨rfl, by (repeat (first | with_reducible exact Below.refl _ _ | with_reducible assumption | (with_reducible refine bl_set ?_ (by simp; try omega) _) | (with_reducible refine bl_alloc ?_ _) | (with_reducible refine bl_dn ?_ _) | (with_reducible refine bl_drew ?_) | (with_reducible refine bl_then ?_ (by with_reducible assumption))))⟩
end Ar
end Go.Proofs.Ytfpnafeildigaaa
