/-
The walk of ExtendCells where the operands are arrays of numbers, but their shapes do not fit (chapter 10).
-/
import Derived.Test.YtfpnafeildigaaaArL4
set_option linter.unusedSimpArgs false
set_option linter.unusedVariables false
namespace Go.Proofs.Ytfpnafeildigaaa
namespace Ar
open Go.RowKit Sc
theorem extTwo_lens {p : Int} {a b : Arr} (h1 : arity p = (2, 0)) (h2 : chk a = 0) (h3 : chk b = 0) (h4 : a.k = 1) (h5 : b.k = 1) (h6 : (extLens a b).1 ≠ 0) : extTwo p a b = ((extLens a b).1, .zero) := by
  unfold extTwo
  rw [if_neg (by simp [h1]), if_neg (by rw [chk2_ok h2, h3]; simp), if_neg (by unfold kindsOk; simp [h4, h5]), if_pos h6]
theorem extTwo_run {p : Int} {a b : Arr} (h1 : arity p = (2, 0)) (h2 : chk a = 0) (h3 : chk b = 0) (h4 : a.k = 1) (h5 : b.k = 1) {r l0 l1 : Int} (h6 : extLens a b = (0, r, l0, l1)) : extTwo p a b = twoRes p a b r l0 l1 := by
  unfold extTwo twoRes
  rw [if_neg (by simp [h1]), if_neg (by rw [chk2_ok h2, h3]; simp), if_neg (by unfold kindsOk; simp [h4, h5]), if_neg (by rw [h6]; simp), h6]
set_option maxRecDepth 100000 in
set_option maxHeartbeats 4000000 in
theorem cells_lens (p : Int) (a b : Arr) (A B : Option Addr) (c d : Nat) (hla : a.xs.length ≤ 9223372036854775807) (f0 : Fits a.l0) (f1 : Fits a.l1) (hxa : ∀ x ∈ a.xs, Fits x) (hlb : b.xs.length ≤ 9223372036854775807) (g0 : Fits b.l0) (g1 : Fits b.l1) (hxb : ∀ x ∈ b.xs, Fits x) (w : World) (hs : Sl w A a.xs) (ht : Sl w B b.xs) (h : idle p a b = false) (h2 : (extLens a b).1 ≠ 0) :
    Calls Try.prog 5 #[.int .i64 p, .agg #[.int .i64 a.k, .int .i64 a.r, .int .i64 a.l0, .int .i64 a.l1, .slice A a.xs.length c], .agg #[.int .i64 b.k, .int .i64 b.r, .int .i64 b.l0, .int .i64 b.l1, .slice B b.xs.length d]] w fun e w' => e = .returned (.bool true) ∧ Below w.heap.size w w' := by
  have HI := hide h
  obtain ⟨er, r, l0, l1, hL⟩ := extLens_any a b
  obtain ⟨k1, k2, k3, k4, k5, k6, k7⟩ := idle_no h
  have HT : Hid (extTwo p a b = (er, .zero)) := by show _ = _; rw [extTwo_lens k3 k4 k5 k6 k7 h2, hL]
  have HE : Hid (er = 22 ∨ er = 11) := by have := ext_err k4 k5 h2; rw [hL] at this; exact this
  have HL := hide hL
  have n1 : (er != 0) = true := by rw [hL] at h2; simpa using h2
  have HXA := hide hxa; have HXB := hide hxb; have K1 := hide k1; have K2 := hide k2
  clear h hL k1 k2 k3 k4 k5 k6 k7 h2 hxa hxb
  obtain ⟨n, en, hN⟩ : ∃ n en, arity p = (n, en) := ⟨_, _, rfl⟩
  have HN := hide hN
  clear hN
  go_enter Try.func5, Try.ntmps5
  go_wp2_with fail
  refine (Sc.Ref.arity_any p _).mono ?_
  rw [HN.out]
  rintro e w1 ⟨rfl, hg1⟩
  have st1 : Hid (TwoBox w w1 a b A B c d) := TwoBox.below (w := w) (a := a) (b := b) (A := A) (B := B) (c := c) (d := d) ⟨⟨by simp [go_sem], by simp [go_sem], by simp [go_sem], by simp [go_sem], by simp [go_sem]⟩, ⟨by simp [go_sem], by simp [go_sem], by simp [go_sem], by simp [go_sem], by simp [go_sem]⟩, by simp, by (repeat (first | with_reducible exact Below.refl _ _ | with_reducible assumption | (with_reducible refine bl_set ?_ (by simp; try omega) _) | (with_reducible refine bl_alloc ?_ _) | (with_reducible refine bl_dn ?_ _) | (with_reducible refine bl_drew ?_) | (with_reducible refine bl_then ?_ (by with_reducible assumption))))⟩ hg1
  clear hg1
  obtain ⟨⟨a0, a1, a2, a3, a4⟩, ⟨b0, b1, b2, b3, b4⟩, z1, hb1⟩ := st1.out
  have z0 : w.heap.size < w1.heap.size := by omega
  go_upto_region 2 with fail
  go_cut [56] from 18 (fun s56 wx => s56 = .bool (idle p a b) ∧ Below w1.heap.size w1 wx)
  case first =>
    cases t1 : (decide (405 < (a.xs.length : Int)))
    rotate_left
    · have HK : Hid (idle p a b = true) := by show _ = _; unfold idle; rw [HN.out]; simp only [t1]; simp
      have Fa : Hid (decide (405 < (a.xs.length : Int)) = true) := t1
      clear t1
      go_wp2_with fail
      refine (far_any a A c _).mono ?_
      rw [Fa.out]
      rintro e wfa ⟨rfl, hgfa⟩
      obtain ⟨hcfa, hffa, hzfa⟩ := bcell hgfa
      (have uf0a : w.heap.size < wfa.heap.size := by omega); (have uf1a : w.heap.size + 1 < wfa.heap.size := by omega)
      go_wp2_with fail
      go_meet
      exact ⟨by rw [HK.out], by (repeat (first | with_reducible exact Below.refl _ _ | with_reducible assumption | (with_reducible refine bl_set ?_ (by simp; try omega) _) | (with_reducible refine bl_alloc ?_ _) | (with_reducible refine bl_dn ?_ _) | (with_reducible refine bl_drew ?_) | (with_reducible refine bl_then ?_ (by with_reducible assumption))))⟩
    cases t2 : (decide (405 < (b.xs.length : Int)))
    rotate_left
    · have HK : Hid (idle p a b = true) := by show _ = _; unfold idle; rw [HN.out]; simp only [t1, t2]; simp
      have Fa : Hid (decide (405 < (a.xs.length : Int)) = false) := t1
      have Fb : Hid (decide (405 < (b.xs.length : Int)) = true) := t2
      clear t1 t2
      go_wp2_with fail
      refine (far_any a A c _).mono ?_
      rw [Fa.out]
      rintro e wfa ⟨rfl, hgfa⟩
      obtain ⟨hcfa, hffa, hzfa⟩ := bcell hgfa
      (have uf0a : w.heap.size < wfa.heap.size := by omega); (have uf1a : w.heap.size + 1 < wfa.heap.size := by omega)
      go_wp2_with fail
      refine (far_any b B d _).mono ?_
      rw [Fb.out]
      rintro e wfb ⟨rfl, hgfb⟩
      obtain ⟨hcfb, hffb, hzfb⟩ := bcell hgfb
      (have uf0b : w.heap.size < wfb.heap.size := by omega); (have uf1b : w.heap.size + 1 < wfb.heap.size := by omega)
      go_wp2_with fail
      go_meet
      exact ⟨by rw [HK.out], by (repeat (first | with_reducible exact Below.refl _ _ | with_reducible assumption | (with_reducible refine bl_set ?_ (by simp; try omega) _) | (with_reducible refine bl_alloc ?_ _) | (with_reducible refine bl_dn ?_ _) | (with_reducible refine bl_drew ?_) | (with_reducible refine bl_then ?_ (by with_reducible assumption))))⟩
    cases t3 : (en != 0)
    rotate_left
    · have HK : Hid (idle p a b = true) := by show _ = _; unfold idle; rw [HN.out]; simp only [t1, t2, t3]; simp
      have Fa : Hid (decide (405 < (a.xs.length : Int)) = false) := t1
      have Fb : Hid (decide (405 < (b.xs.length : Int)) = false) := t2
      clear t1 t2
      go_wp2_with fail
      refine (far_any a A c _).mono ?_
      rw [Fa.out]
      rintro e wfa ⟨rfl, hgfa⟩
      obtain ⟨hcfa, hffa, hzfa⟩ := bcell hgfa
      (have uf0a : w.heap.size < wfa.heap.size := by omega); (have uf1a : w.heap.size + 1 < wfa.heap.size := by omega)
      go_wp2_with fail
      refine (far_any b B d _).mono ?_
      rw [Fb.out]
      rintro e wfb ⟨rfl, hgfb⟩
      obtain ⟨hcfb, hffb, hzfb⟩ := bcell hgfb
      (have uf0b : w.heap.size < wfb.heap.size := by omega); (have uf1b : w.heap.size + 1 < wfb.heap.size := by omega)
      go_wp2_with fail
      go_meet
      exact ⟨by rw [HK.out], by (repeat (first | with_reducible exact Below.refl _ _ | with_reducible assumption | (with_reducible refine bl_set ?_ (by simp; try omega) _) | (with_reducible refine bl_alloc ?_ _) | (with_reducible refine bl_dn ?_ _) | (with_reducible refine bl_drew ?_) | (with_reducible refine bl_then ?_ (by with_reducible assumption))))⟩
    cases t4 : (n != 2)
    rotate_left
    · have HK : Hid (idle p a b = true) := by show _ = _; unfold idle; rw [HN.out]; simp only [t1, t2, t3, t4]; simp
      have Fa : Hid (decide (405 < (a.xs.length : Int)) = false) := t1
      have Fb : Hid (decide (405 < (b.xs.length : Int)) = false) := t2
      clear t1 t2
      go_wp2_with fail
      refine (far_any a A c _).mono ?_
      rw [Fa.out]
      rintro e wfa ⟨rfl, hgfa⟩
      obtain ⟨hcfa, hffa, hzfa⟩ := bcell hgfa
      (have uf0a : w.heap.size < wfa.heap.size := by omega); (have uf1a : w.heap.size + 1 < wfa.heap.size := by omega)
      go_wp2_with fail
      refine (far_any b B d _).mono ?_
      rw [Fb.out]
      rintro e wfb ⟨rfl, hgfb⟩
      obtain ⟨hcfb, hffb, hzfb⟩ := bcell hgfb
      (have uf0b : w.heap.size < wfb.heap.size := by omega); (have uf1b : w.heap.size + 1 < wfb.heap.size := by omega)
      go_wp2_with fail
      go_meet
      exact ⟨by rw [HK.out], by (repeat (first | with_reducible exact Below.refl _ _ | with_reducible assumption | (with_reducible refine bl_set ?_ (by simp; try omega) _) | (with_reducible refine bl_alloc ?_ _) | (with_reducible refine bl_dn ?_ _) | (with_reducible refine bl_drew ?_) | (with_reducible refine bl_then ?_ (by with_reducible assumption))))⟩
    cases t5 : (chk a != 0)
    rotate_left
    · have HK : Hid (idle p a b = true) := by show _ = _; unfold idle; rw [HN.out]; simp only [t1, t2, t3, t4, t5]; simp
      have Fa : Hid (decide (405 < (a.xs.length : Int)) = false) := t1
      have Fb : Hid (decide (405 < (b.xs.length : Int)) = false) := t2
      clear t1 t2
      go_wp2_with fail
      refine (far_any a A c _).mono ?_
      rw [Fa.out]
      rintro e wfa ⟨rfl, hgfa⟩
      obtain ⟨hcfa, hffa, hzfa⟩ := bcell hgfa
      (have uf0a : w.heap.size < wfa.heap.size := by omega); (have uf1a : w.heap.size + 1 < wfa.heap.size := by omega)
      go_wp2_with fail
      refine (far_any b B d _).mono ?_
      rw [Fb.out]
      rintro e wfb ⟨rfl, hgfb⟩
      obtain ⟨hcfb, hffb, hzfb⟩ := bcell hgfb
      (have uf0b : w.heap.size < wfb.heap.size := by omega); (have uf1b : w.heap.size + 1 < wfb.heap.size := by omega)
      go_wp2_with fail
      refine (Ref.ac_any a A c hla f0 f1 _ (hs.below (by (repeat (first | with_reducible exact Below.refl _ _ | with_reducible assumption | (with_reducible refine bl_set ?_ (by simp; try omega) _) | (with_reducible refine bl_alloc ?_ _) | (with_reducible refine bl_dn ?_ _) | (with_reducible refine bl_drew ?_) | (with_reducible refine bl_then ?_ (by with_reducible assumption))))))).mono ?_
      rintro e wka ⟨rfl, hgka⟩
      obtain ⟨hcka, hfka, hzka⟩ := bcell hgka
      (have uk0a : w.heap.size < wka.heap.size := by omega); (have uk1a : w.heap.size + 1 < wka.heap.size := by omega)
      go_wp2_with fail
      go_meet
      exact ⟨by rw [HK.out], by (repeat (first | with_reducible exact Below.refl _ _ | with_reducible assumption | (with_reducible refine bl_set ?_ (by simp; try omega) _) | (with_reducible refine bl_alloc ?_ _) | (with_reducible refine bl_dn ?_ _) | (with_reducible refine bl_drew ?_) | (with_reducible refine bl_then ?_ (by with_reducible assumption))))⟩
    cases t6 : (chk b != 0)
    rotate_left
    · have HK : Hid (idle p a b = true) := by show _ = _; unfold idle; rw [HN.out]; simp only [t1, t2, t3, t4, t5, t6]; simp
      have Fa : Hid (decide (405 < (a.xs.length : Int)) = false) := t1
      have Fb : Hid (decide (405 < (b.xs.length : Int)) = false) := t2
      clear t1 t2
      go_wp2_with fail
      refine (far_any a A c _).mono ?_
      rw [Fa.out]
      rintro e wfa ⟨rfl, hgfa⟩
      obtain ⟨hcfa, hffa, hzfa⟩ := bcell hgfa
      (have uf0a : w.heap.size < wfa.heap.size := by omega); (have uf1a : w.heap.size + 1 < wfa.heap.size := by omega)
      go_wp2_with fail
      refine (far_any b B d _).mono ?_
      rw [Fb.out]
      rintro e wfb ⟨rfl, hgfb⟩
      obtain ⟨hcfb, hffb, hzfb⟩ := bcell hgfb
      (have uf0b : w.heap.size < wfb.heap.size := by omega); (have uf1b : w.heap.size + 1 < wfb.heap.size := by omega)
      go_wp2_with fail
      refine (Ref.ac_any a A c hla f0 f1 _ (hs.below (by (repeat (first | with_reducible exact Below.refl _ _ | with_reducible assumption | (with_reducible refine bl_set ?_ (by simp; try omega) _) | (with_reducible refine bl_alloc ?_ _) | (with_reducible refine bl_dn ?_ _) | (with_reducible refine bl_drew ?_) | (with_reducible refine bl_then ?_ (by with_reducible assumption))))))).mono ?_
      rintro e wka ⟨rfl, hgka⟩
      obtain ⟨hcka, hfka, hzka⟩ := bcell hgka
      (have uk0a : w.heap.size < wka.heap.size := by omega); (have uk1a : w.heap.size + 1 < wka.heap.size := by omega)
      go_wp2_with fail
      refine (Ref.ac_any b B d hlb g0 g1 _ (ht.below (by (repeat (first | with_reducible exact Below.refl _ _ | with_reducible assumption | (with_reducible refine bl_set ?_ (by simp; try omega) _) | (with_reducible refine bl_alloc ?_ _) | (with_reducible refine bl_dn ?_ _) | (with_reducible refine bl_drew ?_) | (with_reducible refine bl_then ?_ (by with_reducible assumption))))))).mono ?_
      rintro e wkb ⟨rfl, hgkb⟩
      obtain ⟨hckb, hfkb, hzkb⟩ := bcell hgkb
      (have uk0b : w.heap.size < wkb.heap.size := by omega); (have uk1b : w.heap.size + 1 < wkb.heap.size := by omega)
      go_wp2_with fail
      go_meet
      exact ⟨by rw [HK.out], by (repeat (first | with_reducible exact Below.refl _ _ | with_reducible assumption | (with_reducible refine bl_set ?_ (by simp; try omega) _) | (with_reducible refine bl_alloc ?_ _) | (with_reducible refine bl_dn ?_ _) | (with_reducible refine bl_drew ?_) | (with_reducible refine bl_then ?_ (by with_reducible assumption))))⟩
    cases t7 : (a.k != 1)
    rotate_left
    · have HK : Hid (idle p a b = true) := by show _ = _; unfold idle; rw [HN.out]; simp only [t1, t2, t3, t4, t5, t6, t7]; simp
      have Fa : Hid (decide (405 < (a.xs.length : Int)) = false) := t1
      have Fb : Hid (decide (405 < (b.xs.length : Int)) = false) := t2
      clear t1 t2
      go_wp2_with fail
      refine (far_any a A c _).mono ?_
      rw [Fa.out]
      rintro e wfa ⟨rfl, hgfa⟩
      obtain ⟨hcfa, hffa, hzfa⟩ := bcell hgfa
      (have uf0a : w.heap.size < wfa.heap.size := by omega); (have uf1a : w.heap.size + 1 < wfa.heap.size := by omega)
      go_wp2_with fail
      refine (far_any b B d _).mono ?_
      rw [Fb.out]
      rintro e wfb ⟨rfl, hgfb⟩
      obtain ⟨hcfb, hffb, hzfb⟩ := bcell hgfb
      (have uf0b : w.heap.size < wfb.heap.size := by omega); (have uf1b : w.heap.size + 1 < wfb.heap.size := by omega)
      go_wp2_with fail
      refine (Ref.ac_any a A c hla f0 f1 _ (hs.below (by (repeat (first | with_reducible exact Below.refl _ _ | with_reducible assumption | (with_reducible refine bl_set ?_ (by simp; try omega) _) | (with_reducible refine bl_alloc ?_ _) | (with_reducible refine bl_dn ?_ _) | (with_reducible refine bl_drew ?_) | (with_reducible refine bl_then ?_ (by with_reducible assumption))))))).mono ?_
      rintro e wka ⟨rfl, hgka⟩
      obtain ⟨hcka, hfka, hzka⟩ := bcell hgka
      (have uk0a : w.heap.size < wka.heap.size := by omega); (have uk1a : w.heap.size + 1 < wka.heap.size := by omega)
      go_wp2_with fail
      refine (Ref.ac_any b B d hlb g0 g1 _ (ht.below (by (repeat (first | with_reducible exact Below.refl _ _ | with_reducible assumption | (with_reducible refine bl_set ?_ (by simp; try omega) _) | (with_reducible refine bl_alloc ?_ _) | (with_reducible refine bl_dn ?_ _) | (with_reducible refine bl_drew ?_) | (with_reducible refine bl_then ?_ (by with_reducible assumption))))))).mono ?_
      rintro e wkb ⟨rfl, hgkb⟩
      obtain ⟨hckb, hfkb, hzkb⟩ := bcell hgkb
      (have uk0b : w.heap.size < wkb.heap.size := by omega); (have uk1b : w.heap.size + 1 < wkb.heap.size := by omega)
      go_wp2_with fail
      go_meet
      exact ⟨by rw [HK.out], by (repeat (first | with_reducible exact Below.refl _ _ | with_reducible assumption | (with_reducible refine bl_set ?_ (by simp; try omega) _) | (with_reducible refine bl_alloc ?_ _) | (with_reducible refine bl_dn ?_ _) | (with_reducible refine bl_drew ?_) | (with_reducible refine bl_then ?_ (by with_reducible assumption))))⟩
    have HK : Hid (idle p a b = (b.k != 1)) := by show _ = _; unfold idle; rw [HN.out]; simp only [t1, t2, t3, t4, t5, t6, t7]; simp
    have Fa : Hid (decide (405 < (a.xs.length : Int)) = false) := t1
    have Fb : Hid (decide (405 < (b.xs.length : Int)) = false) := t2
    clear t1 t2
    go_wp2_with fail
    refine (far_any a A c _).mono ?_
    rw [Fa.out]
    rintro e wfa ⟨rfl, hgfa⟩
    obtain ⟨hcfa, hffa, hzfa⟩ := bcell hgfa
    (have uf0a : w.heap.size < wfa.heap.size := by omega); (have uf1a : w.heap.size + 1 < wfa.heap.size := by omega)
    go_wp2_with fail
    refine (far_any b B d _).mono ?_
    rw [Fb.out]
    rintro e wfb ⟨rfl, hgfb⟩
    obtain ⟨hcfb, hffb, hzfb⟩ := bcell hgfb
    (have uf0b : w.heap.size < wfb.heap.size := by omega); (have uf1b : w.heap.size + 1 < wfb.heap.size := by omega)
    go_wp2_with fail
    refine (Ref.ac_any a A c hla f0 f1 _ (hs.below (by (repeat (first | with_reducible exact Below.refl _ _ | with_reducible assumption | (with_reducible refine bl_set ?_ (by simp; try omega) _) | (with_reducible refine bl_alloc ?_ _) | (with_reducible refine bl_dn ?_ _) | (with_reducible refine bl_drew ?_) | (with_reducible refine bl_then ?_ (by with_reducible assumption))))))).mono ?_
    rintro e wka ⟨rfl, hgka⟩
    obtain ⟨hcka, hfka, hzka⟩ := bcell hgka
    (have uk0a : w.heap.size < wka.heap.size := by omega); (have uk1a : w.heap.size + 1 < wka.heap.size := by omega)
    go_wp2_with fail
    refine (Ref.ac_any b B d hlb g0 g1 _ (ht.below (by (repeat (first | with_reducible exact Below.refl _ _ | with_reducible assumption | (with_reducible refine bl_set ?_ (by simp; try omega) _) | (with_reducible refine bl_alloc ?_ _) | (with_reducible refine bl_dn ?_ _) | (with_reducible refine bl_drew ?_) | (with_reducible refine bl_then ?_ (by with_reducible assumption))))))).mono ?_
    rintro e wkb ⟨rfl, hgkb⟩
    obtain ⟨hckb, hfkb, hzkb⟩ := bcell hgkb
    (have uk0b : w.heap.size < wkb.heap.size := by omega); (have uk1b : w.heap.size + 1 < wkb.heap.size := by omega)
    go_wp2_with fail
    go_meet
    exact ⟨by rw [HK.out], by (repeat (first | with_reducible exact Below.refl _ _ | with_reducible assumption | (with_reducible refine bl_set ?_ (by simp; try omega) _) | (with_reducible refine bl_alloc ?_ _) | (with_reducible refine bl_dn ?_ _) | (with_reducible refine bl_drew ?_) | (with_reducible refine bl_then ?_ (by with_reducible assumption))))⟩
  case rest =>
    obtain ⟨rfl, hg⟩ := hcut
    obtain ⟨w2, rfl⟩ : ∃ w2 : World, w2 = wc := ⟨_, rfl⟩
    rw [HI.out]
    obtain ⟨hc2, hf2, hz2⟩ := bcell hg
    (have y0 : w.heap.size < w2.heap.size := by omega); (have y1 : w.heap.size + 1 < w2.heap.size := by omega)
    go_wp2_with fail
    refine (lens_any a A c hla f0 f1 b B d hlb g0 g1 _ (hs.below (by (repeat (first | with_reducible exact Below.refl _ _ | with_reducible assumption | (with_reducible refine bl_set ?_ (by simp; try omega) _) | (with_reducible refine bl_alloc ?_ _) | (with_reducible refine bl_dn ?_ _) | (with_reducible refine bl_drew ?_) | (with_reducible refine bl_then ?_ (by with_reducible assumption)))))) (ht.below (by (repeat (first | with_reducible exact Below.refl _ _ | with_reducible assumption | (with_reducible refine bl_set ?_ (by simp; try omega) _) | (with_reducible refine bl_alloc ?_ _) | (with_reducible refine bl_dn ?_ _) | (with_reducible refine bl_drew ?_) | (with_reducible refine bl_then ?_ (by with_reducible assumption))))))).mono ?_
    rw [HL.out]
    rintro e w3 ⟨rfl, hg3⟩
    obtain ⟨hc3, hf3, hz3⟩ := bcell hg3
    (have x0 : w.heap.size < w3.heap.size := by omega); (have x1 : w.heap.size + 1 < w3.heap.size := by omega)
    go_wp2_with fail
    refine (two_any p a b A B c d (by have := K1.out; omega) f0 f1 (by have := K2.out; omega) g0 g1 HXA.out HXB.out _ (hs.below (by (repeat (first | with_reducible exact Below.refl _ _ | with_reducible assumption | (with_reducible refine bl_set ?_ (by simp; try omega) _) | (with_reducible refine bl_alloc ?_ _) | (with_reducible refine bl_dn ?_ _) | (with_reducible refine bl_drew ?_) | (with_reducible refine bl_then ?_ (by with_reducible assumption)))))) (ht.below (by (repeat (first | with_reducible exact Below.refl _ _ | with_reducible assumption | (with_reducible refine bl_set ?_ (by simp; try omega) _) | (with_reducible refine bl_alloc ?_ _) | (with_reducible refine bl_dn ?_ _) | (with_reducible refine bl_drew ?_) | (with_reducible refine bl_then ?_ (by with_reducible assumption))))))).mono ?_
    rw [HT.out]
    rintro e w4 ⟨hg4, C, cc, rfl, hsC, hgeC⟩
    obtain ⟨hc4, hf4, hz4⟩ := bcell hg4
    rcases HE.out with rfl | rfl
    all_goals
      go_wp2_with fail
      refine (awake10 _).mono ?_
      rintro e w8 ⟨rfl, hg8⟩
      go_wp2
      go_ret
      exact ⟨rfl, by (repeat (first | with_reducible exact Below.refl _ _ | with_reducible assumption | (with_reducible refine bl_set ?_ (by simp; try omega) _) | (with_reducible refine bl_alloc ?_ _) | (with_reducible refine bl_dn ?_ _) | (with_reducible refine bl_drew ?_) | (with_reducible refine bl_then ?_ (by with_reducible assumption))))⟩
end Ar
end Go.Proofs.Ytfpnafeildigaaa
