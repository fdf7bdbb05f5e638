/-
The walk of ExtendTwos (chapter 10).
-/
import Derived.Test.YtfpnafeildigaaaArL1
set_option linter.unusedSimpArgs false
set_option linter.unusedVariables false
namespace Go.Proofs.Ytfpnafeildigaaa
namespace Ar
open Go.RowKit Sc
theorem extLens_any (a b : Arr) : ∃ er r l0 l1, extLens a b = (er, r, l0, l1) := ⟨_, _, _, _, rfl⟩
set_option maxHeartbeats 1000000 in
theorem twos_far (p : Int) (a b : Arr) (A B : Option Addr) (c d : Nat) (w : World) (h : 405 < a.xs.length ∨ 405 < b.xs.length) :
    Calls Try.prog 4 #[.int .i64 p, .agg #[.int .i64 a.k, .int .i64 a.r, .int .i64 a.l0, .int .i64 a.l1, .slice A a.xs.length c], .agg #[.int .i64 b.k, .int .i64 b.r, .int .i64 b.l0, .int .i64 b.l1, .slice B b.xs.length d]] w fun e w' => e = .returned (.bool true) ∧ Below w.heap.size w w' := by
  by_cases ha : 405 < a.xs.length
  · have HF := hide (far_yes ha)
    clear h ha
    go_enter Try.func4, Try.ntmps4
    go_wp2_with fail
    refine (far_any a A c _).mono ?_
    rw [HF.out]
    rintro e w1 ⟨rfl, hg1⟩
    go_wp2_with fail
    refine (awake10 _).mono ?_
    rintro e w2 ⟨rfl, hg2⟩
    go_wp2
    go_ret
    exact ⟨rfl, by (repeat (first | with_reducible exact Below.refl _ _ | with_reducible assumption | (with_reducible refine bl_set ?_ (by simp; try omega) _) | (with_reducible refine bl_alloc ?_ _) | (with_reducible refine bl_dn ?_ _) | (with_reducible refine bl_drew ?_) | (with_reducible refine bl_then ?_ (by with_reducible assumption))))⟩
  · have HF := hide (far_no ha)
    have HG := hide (far_yes (a := b) (by omega))
    clear h ha
    go_enter Try.func4, Try.ntmps4
    go_wp2_with fail
    refine (far_any a A c _).mono ?_
    rw [HF.out]
    rintro e w1 ⟨rfl, hg1⟩
    obtain ⟨hc1, hf1, hz1⟩ := bcell hg1
    (have z0_w1 : w.heap.size < w1.heap.size := by have := hg1.size; simp at this; omega); (have z1_w1 : w.heap.size + 1 < w1.heap.size := by have := hg1.size; simp at this; omega)
    go_wp2_with fail
    refine (far_any b B d _).mono ?_
    rw [HG.out]
    rintro e w2 ⟨rfl, hg2⟩
    go_wp2_with fail
    refine (awake10 _).mono ?_
    rintro e w3 ⟨rfl, hg3⟩
    go_wp2
    go_ret
    exact ⟨rfl, by (repeat (first | with_reducible exact Below.refl _ _ | with_reducible assumption | (with_reducible refine bl_set ?_ (by simp; try omega) _) | (with_reducible refine bl_alloc ?_ _) | (with_reducible refine bl_dn ?_ _) | (with_reducible refine bl_drew ?_) | (with_reducible refine bl_then ?_ (by with_reducible assumption))))⟩
set_option maxRecDepth 100000 in
set_option maxHeartbeats 2000000 in
theorem twos_near (p : Int) (a b : Arr) (A B : Option Addr) (c d : Nat) (f0 : Fits a.l0) (f1 : Fits a.l1) (hx : ∀ x ∈ a.xs, Fits x) (g0 : Fits b.l0) (g1 : Fits b.l1) (hy : ∀ x ∈ b.xs, Fits x) (h : ¬ 405 < a.xs.length) (h2 : ¬ 405 < b.xs.length) (w : World) (hs : Sl w A a.xs) (ht : Sl w B b.xs) :
    Calls Try.prog 4 #[.int .i64 p, .agg #[.int .i64 a.k, .int .i64 a.r, .int .i64 a.l0, .int .i64 a.l1, .slice A a.xs.length c], .agg #[.int .i64 b.k, .int .i64 b.r, .int .i64 b.l0, .int .i64 b.l1, .slice B b.xs.length d]] w fun e w' => e = .returned (.bool true) ∧ Below w.heap.size w w' := by
  have HF := hide (far_no h)
  have HG := hide (far_no h2)
  have HL : Hid (a.xs.length ≤ 405) := by show _ ≤ _; omega
  have HM : Hid (b.xs.length ≤ 405) := by show _ ≤ _; omega
  have HX := hide hx
  have HY := hide hy
  obtain ⟨er, R, hR⟩ : ∃ er R, extTwo p a b = (er, R) := ⟨_, _, rfl⟩
  have HR : Hid (R.xs.length ≤ 810) := by show _ ≤ _; have hh := extTwo_len p a b; rw [hR] at hh; have := HL.out; have := HM.out; exact Nat.le_trans hh (by omega)
  have HE := hide hR
  obtain ⟨el, r, l0, l1, hN⟩ := extLens_any a b
  have HN := hide hN
  have heq := fun (p q r s : Int) (w : World) => eql_lens p q r s w
  clear h h2 hx hy hR hN
  go_enter Try.func4, Try.ntmps4
  go_wp2_with fail
  refine (far_any a A c _).mono ?_
  rw [HF.out]
  rintro e w1 ⟨rfl, hg1⟩
  obtain ⟨hc1, hf1, hz1⟩ := bcell hg1
  (have z0_w1 : w.heap.size < w1.heap.size := by have := hg1.size; simp at this; omega); (have z1_w1 : w.heap.size + 1 < w1.heap.size := by have := hg1.size; simp at this; omega)
  go_wp2_with fail
  refine (far_any b B d _).mono ?_
  rw [HG.out]
  rintro e w2 ⟨rfl, hg2⟩
  obtain ⟨hc2, hf2, hz2⟩ := bcell hg2
  (have u0 : w.heap.size < w2.heap.size := by omega); (have u1 : w.heap.size + 1 < w2.heap.size := by omega)
  go_wp2_with fail
  refine (two_any p a b A B c d (by have := HL.out; omega) f0 f1 (by have := HM.out; omega) g0 g1 HX.out HY.out _ (hs.below (by (repeat (first | with_reducible exact Below.refl _ _ | with_reducible assumption | (with_reducible refine bl_set ?_ (by simp; try omega) _) | (with_reducible refine bl_alloc ?_ _) | (with_reducible refine bl_dn ?_ _) | (with_reducible refine bl_drew ?_) | (with_reducible refine bl_then ?_ (by with_reducible assumption)))))) (ht.below (by (repeat (first | with_reducible exact Below.refl _ _ | with_reducible assumption | (with_reducible refine bl_set ?_ (by simp; try omega) _) | (with_reducible refine bl_alloc ?_ _) | (with_reducible refine bl_dn ?_ _) | (with_reducible refine bl_drew ?_) | (with_reducible refine bl_then ?_ (by with_reducible assumption))))))).mono ?_
  rw [HE.out]
  rintro e w3 ⟨hg3, C, cc, rfl, hsC, hgeC⟩
  have hsC := hide hsC
  obtain ⟨hc3, hf3, hz3⟩ := bcell hg3
  (have v0 : w.heap.size < w3.heap.size := by omega); (have v1 : w.heap.size + 1 < w3.heap.size := by omega)
  go_wp2_with fail
  refine (rtwo_any p a b A B c d (by have := HL.out; omega) f0 f1 (by have := HM.out; omega) g0 g1 HX.out HY.out _ (hs.below (by (repeat (first | with_reducible exact Below.refl _ _ | with_reducible assumption | (with_reducible refine bl_set ?_ (by simp; try omega) _) | (with_reducible refine bl_alloc ?_ _) | (with_reducible refine bl_dn ?_ _) | (with_reducible refine bl_drew ?_) | (with_reducible refine bl_then ?_ (by with_reducible assumption)))))) (ht.below (by (repeat (first | with_reducible exact Below.refl _ _ | with_reducible assumption | (with_reducible refine bl_set ?_ (by simp; try omega) _) | (with_reducible refine bl_alloc ?_ _) | (with_reducible refine bl_dn ?_ _) | (with_reducible refine bl_drew ?_) | (with_reducible refine bl_then ?_ (by with_reducible assumption))))))).mono ?_
  rw [HE.out]
  rintro e w4 ⟨hg4, D, cd, rfl, hsD, hgeD⟩
  have hsD := hide hsD
  obtain ⟨hc4, hf4, hz4⟩ := bcell hg4
  (have y3 : w3.heap.size < w4.heap.size := by have := hg4.size; simp at this; omega)
  (have y0 : w.heap.size < w4.heap.size := by omega); (have y1 : w.heap.size + 1 < w4.heap.size := by omega)
  go_wp2_with fail
  refine (lens_any a A c (by have := HL.out; omega) f0 f1 b B d (by have := HM.out; omega) g0 g1 _ (hs.below (by (repeat (first | with_reducible exact Below.refl _ _ | with_reducible assumption | (with_reducible refine bl_set ?_ (by simp; try omega) _) | (with_reducible refine bl_alloc ?_ _) | (with_reducible refine bl_dn ?_ _) | (with_reducible refine bl_drew ?_) | (with_reducible refine bl_then ?_ (by with_reducible assumption)))))) (ht.below (by (repeat (first | with_reducible exact Below.refl _ _ | with_reducible assumption | (with_reducible refine bl_set ?_ (by simp; try omega) _) | (with_reducible refine bl_alloc ?_ _) | (with_reducible refine bl_dn ?_ _) | (with_reducible refine bl_drew ?_) | (with_reducible refine bl_then ?_ (by with_reducible assumption))))))).mono ?_
  rw [HN.out]
  rintro e w5 ⟨rfl, hg5⟩
  obtain ⟨hc5, hf5, hz5⟩ := bcell hg5
  (have x4 : w4.heap.size < w5.heap.size := by have := hg5.size; simp at this; omega)
  (have x3 : w3.heap.size < w5.heap.size := by omega); (have x0 : w.heap.size < w5.heap.size := by omega); (have x1 : w.heap.size + 1 < w5.heap.size := by omega)
  go_wp2_with fail
  refine (rlens_any a A c (by have := HL.out; omega) f0 f1 b B d (by have := HM.out; omega) g0 g1 _ (hs.below (by (repeat (first | with_reducible exact Below.refl _ _ | with_reducible assumption | (with_reducible refine bl_set ?_ (by simp; try omega) _) | (with_reducible refine bl_alloc ?_ _) | (with_reducible refine bl_dn ?_ _) | (with_reducible refine bl_drew ?_) | (with_reducible refine bl_then ?_ (by with_reducible assumption)))))) (ht.below (by (repeat (first | with_reducible exact Below.refl _ _ | with_reducible assumption | (with_reducible refine bl_set ?_ (by simp; try omega) _) | (with_reducible refine bl_alloc ?_ _) | (with_reducible refine bl_dn ?_ _) | (with_reducible refine bl_drew ?_) | (with_reducible refine bl_then ?_ (by with_reducible assumption))))))).mono ?_
  rw [HN.out]
  rintro e w6 ⟨rfl, hg6⟩
  obtain ⟨hc6, hf6, hz6⟩ := bcell hg6
  (have q5 : w5.heap.size < w6.heap.size := by have := hg6.size; simp at this; omega)
  (have q4 : w4.heap.size < w6.heap.size := by omega); (have q3 : w3.heap.size < w6.heap.size := by omega)
  go_wp2_with fail
  refine (alike_any R R C D cc cd er er (by have := HR.out; omega) (by have := HR.out; omega) _ (hsC.out.below (by (repeat (first | with_reducible exact Below.refl _ _ | with_reducible assumption | (with_reducible refine bl_set ?_ (by simp; try omega) _) | (with_reducible refine bl_alloc ?_ _) | (with_reducible refine bl_dn ?_ _) | (with_reducible refine bl_drew ?_) | (with_reducible refine bl_then ?_ (by with_reducible assumption)))))) (hsD.out.below (by (repeat (first | with_reducible exact Below.refl _ _ | with_reducible assumption | (with_reducible refine bl_set ?_ (by simp; try omega) _) | (with_reducible refine bl_alloc ?_ _) | (with_reducible refine bl_dn ?_ _) | (with_reducible refine bl_drew ?_) | (with_reducible refine bl_then ?_ (by with_reducible assumption))))))).mono ?_
  rw [same_yes]
  rintro e w7 ⟨rfl, hg7⟩
  obtain ⟨hc7, hf7, hz7⟩ := bcell hg7
  (have k5 : w5.heap.size < w7.heap.size := by have := hg7.size; simp at this; omega)
  (have k6 : w6.heap.size < w7.heap.size := by have := hg7.size; simp at this; omega)
  go_wp2_with fail
  refine (awake10 _).mono ?_
  rintro e w8 ⟨rfl, hg8⟩
  go_wp2
  go_ret
  exact ⟨rfl, by (repeat (first | with_reducible exact Below.refl _ _ | with_reducible assumption | (with_reducible refine bl_set ?_ (by simp; try omega) _) | (with_reducible refine bl_alloc ?_ _) | (with_reducible refine bl_dn ?_ _) | (with_reducible refine bl_drew ?_) | (with_reducible refine bl_then ?_ (by with_reducible assumption))))⟩
theorem twos_walk (p : Int) (a b : Arr) (A B : Option Addr) (c d : Nat) (f0 : Fits a.l0) (f1 : Fits a.l1) (hx : ∀ x ∈ a.xs, Fits x) (g0 : Fits b.l0) (g1 : Fits b.l1) (hy : ∀ x ∈ b.xs, Fits x) (w : World) (hs : Sl w A a.xs) (ht : Sl w B b.xs) :
    Calls Try.prog 4 #[.int .i64 p, .agg #[.int .i64 a.k, .int .i64 a.r, .int .i64 a.l0, .int .i64 a.l1, .slice A a.xs.length c], .agg #[.int .i64 b.k, .int .i64 b.r, .int .i64 b.l0, .int .i64 b.l1, .slice B b.xs.length d]] w fun e w' => e = .returned (.bool true) ∧ Below w.heap.size w w' := by
  by_cases h : 405 < a.xs.length ∨ 405 < b.xs.length
  · exact twos_far p a b A B c d w h
  · exact twos_near p a b A B c d f0 f1 hx g0 g1 hy (by omega) (by omega) w hs ht
end Ar
end Go.Proofs.Ytfpnafeildigaaa
