/-
The walk of ExtendCells over the cells (chapter 10).
-/
import Derived.Test.YtfpnafeildigaaaArL5
set_option linter.unusedSimpArgs false
set_option linter.unusedVariables false
namespace Go.Proofs.Ytfpnafeildigaaa
namespace Ar
open Go.RowKit Sc
theorem mapP_get {f : Int × Int → Int × Int} {l : List (Int × Int)} {zs : List Int} (h : mapP f l = (0, zs)) {k : Nat} (hk : k < l.length) : (f (l.getD k (0, 0))).2 = 0 ∧ zs.getD k 0 = (f (l.getD k (0, 0))).1 := by
  induction l generalizing zs k with
  | nil => simp at hk
  | cons x l ih =>
    rw [mapP_cons] at h
    by_cases h1 : (f x).2 ≠ 0
    · rw [if_pos h1] at h; exact absurd (congrArg Prod.fst h) h1
    rw [if_neg h1] at h
    by_cases h2 : (mapP f l).1 ≠ 0
    · rw [if_pos h2] at h; exact absurd (congrArg Prod.fst h) h2
    rw [if_neg h2] at h
    have e : zs = (f x).1 :: (mapP f l).2 := (congrArg Prod.snd h).symm
    subst e
    cases k with
    | zero => exact ⟨by simpa using h1, rfl⟩
    | succ k => exact ih (zs := (mapP f l).2) (Prod.ext (by simpa using h2) rfl) (by simpa using hk)
theorem twoRes_ok {p : Int} {a b R : Arr} {r l0 l1 : Int} (h : twoRes p a b r l0 l1 = (0, R)) : ∃ zs, mapP (fun q : Int × Int => two p q.1 q.2) (pairs a b) = (0, zs) ∧ R = ⟨1, r, l0, l1, zs⟩ := by
  unfold twoRes at h
  by_cases h1 : (mapP (fun q : Int × Int => two p q.1 q.2) (pairs a b)).1 ≠ 0
  · rw [if_pos h1] at h; exact absurd (congrArg Prod.fst h) h1
  · rw [if_neg h1] at h; exact ⟨_, Prod.ext (by simpa using h1) rfl, (congrArg Prod.snd h).symm⟩
theorem twoRes_no {p : Int} {a b R : Arr} {r l0 l1 er : Int} (h : twoRes p a b r l0 l1 = (er, R)) (he : er ≠ 0) : (mapP (fun q : Int × Int => two p q.1 q.2) (pairs a b)).1 = er ∧ R = .zero := by
  unfold twoRes at h
  by_cases h1 : (mapP (fun q : Int × Int => two p q.1 q.2) (pairs a b)).1 ≠ 0
  · rw [if_pos h1] at h; exact ⟨congrArg Prod.fst h, (congrArg Prod.snd h).symm⟩
  · rw [if_neg h1] at h; exact absurd (congrArg Prod.fst h).symm he
theorem sh_fits {r l0 l1 : Int} (h : shCheck r l0 l1 = 0) : Fits l0 ∧ Fits l1 := by
  unfold shCheck at h
  by_cases a : r < 0 ∨ 2 < r
  · rw [if_pos a] at h; cases h
  rw [if_neg a] at h
  by_cases b : (1 ≤ r ∧ l0 < 0) ∨ (2 ≤ r ∧ l1 < 0)
  · rw [if_pos b] at h; cases h
  rw [if_neg b] at h
  by_cases c : (r < 1 ∧ l0 ≠ 0) ∨ (r < 2 ∧ l1 ≠ 0)
  · rw [if_pos c] at h; cases h
  rw [if_neg c] at h
  by_cases d : 400 < l0 ∨ 400 < l1 ∨ 400 < prod r l0 l1
  · rw [if_pos d] at h; cases h
  unfold Fits; omega
def manyA (a b : Arr) : Nat := if a.r = 0 then b.xs.length else max a.xs.length b.xs.length
set_option maxRecDepth 100000 in
set_option maxHeartbeats 4000000 in
theorem cells_run (p : Int) (a b : Arr) (A B : Option Addr) (c d : Nat) (hla : a.xs.length ≤ 9223372036854775807) (f0 : Fits a.l0) (f1 : Fits a.l1) (hxa : ∀ x ∈ a.xs, Fits x) (hlb : b.xs.length ≤ 9223372036854775807) (g0 : Fits b.l0) (g1 : Fits b.l1) (hxb : ∀ x ∈ b.xs, Fits x) (w : World) (hs : Sl w A a.xs) (ht : Sl w B b.xs) (h : idle p a b = false) (r l0 l1 : Int) (hL : extLens a b = (0, r, l0, l1)) :
    Calls Try.prog 5 #[.int .i64 p, .agg #[.int .i64 a.k, .int .i64 a.r, .int .i64 a.l0, .int .i64 a.l1, .slice A a.xs.length c], .agg #[.int .i64 b.k, .int .i64 b.r, .int .i64 b.l0, .int .i64 b.l1, .slice B b.xs.length d]] w fun e w' => e = .returned (.bool true) ∧ Below w.heap.size w w' := by
  have HI := hide h
  obtain ⟨k1, k2, k3, k4, k5, k6, k7⟩ := idle_no h
  obtain ⟨er, R, hT⟩ : ∃ er R, extTwo p a b = (er, R) := ⟨_, _, rfl⟩
  have HT := hide hT
  have HW : Hid (twoRes p a b r l0 l1 = (er, R)) := by show _ = _; rw [← extTwo_run k3 k4 k5 k6 k7 hL, hT]
  have HL := hide hL
  have HXA := hide hxa; have HXB := hide hxb; have K1 := hide k1; have K2 := hide k2
  have HMY : Hid (manyL a b = many a b) := manyL_eq (by rw [hL])
  clear h hL hT k1 k2 k3 k4 k5 k6 k7 hxa hxb
  obtain ⟨n, en, hN⟩ : ∃ n en, arity p = (n, en) := ⟨_, _, rfl⟩
  have HN := hide hN
  clear hN
  go_enter Try.func5, Try.ntmps5
  go_wp2_with fail
  refine (Sc.Ref.arity_any p _).mono ?_
  rw [HN.out]
  rintro e w1 ⟨rfl, hg1⟩
  have st1 : Hid (TwoBox w w1 a b A B c d) := TwoBox.below (w := w) (a := a) (b := b) (A := A) (B := B) (c := c) (d := d) ⟨⟨by simp [go_sem], by simp [go_sem], by simp [go_sem], by simp [go_sem], by simp [go_sem]⟩, ⟨by simp [go_sem], by simp [go_sem], by simp [go_sem], by simp [go_sem], by simp [go_sem]⟩, by simp, by (repeat (first | with_reducible exact Below.refl _ _ | with_reducible assumption | (with_reducible refine bl_set ?_ (by simp; try omega) _) | (with_reducible refine bl_alloc ?_ _) | (with_reducible refine bl_dn ?_ _) | (with_reducible refine bl_drew ?_) | (with_reducible refine bl_then ?_ (by with_reducible assumption))))⟩ hg1
  clear hg1
  obtain ⟨⟨a0, a1, a2, a3, a4⟩, ⟨b0, b1, b2, b3, b4⟩, z1, hb1⟩ := st1.out
  have z0 : w.heap.size < w1.heap.size := by omega
  go_upto_region 2 with fail
  go_cut [56] from 18 (fun s56 wx => s56 = .bool (idle p a b) ∧ Below w1.heap.size w1 wx)
  case first =>
    cases t1 : (decide (405 < (a.xs.length : Int)))
    rotate_left
    · have HK : Hid (idle p a b = true) := by show _ = _; unfold idle; rw [HN.out]; simp only [t1]; simp
      have Fa : Hid (decide (405 < (a.xs.length : Int)) = true) := t1
      clear t1
      go_wp2_with fail
      refine (far_any a A c _).mono ?_
      rw [Fa.out]
      rintro e wfa ⟨rfl, hgfa⟩
      obtain ⟨hcfa, hffa, hzfa⟩ := bcell hgfa
      (have uf0a : w.heap.size < wfa.heap.size := by omega); (have uf1a : w.heap.size + 1 < wfa.heap.size := by omega)
      go_wp2_with fail
      go_meet
      exact ⟨by rw [HK.out], by (repeat (first | with_reducible exact Below.refl _ _ | with_reducible assumption | (with_reducible refine bl_set ?_ (by simp; try omega) _) | (with_reducible refine bl_alloc ?_ _) | (with_reducible refine bl_dn ?_ _) | (with_reducible refine bl_drew ?_) | (with_reducible refine bl_then ?_ (by with_reducible assumption))))⟩
    cases t2 : (decide (405 < (b.xs.length : Int)))
    rotate_left
    · have HK : Hid (idle p a b = true) := by show _ = _; unfold idle; rw [HN.out]; simp only [t1, t2]; simp
      have Fa : Hid (decide (405 < (a.xs.length : Int)) = false) := t1
      have Fb : Hid (decide (405 < (b.xs.length : Int)) = true) := t2
      clear t1 t2
      go_wp2_with fail
      refine (far_any a A c _).mono ?_
      rw [Fa.out]
      rintro e wfa ⟨rfl, hgfa⟩
      obtain ⟨hcfa, hffa, hzfa⟩ := bcell hgfa
      (have uf0a : w.heap.size < wfa.heap.size := by omega); (have uf1a : w.heap.size + 1 < wfa.heap.size := by omega)
      go_wp2_with fail
      refine (far_any b B d _).mono ?_
      rw [Fb.out]
      rintro e wfb ⟨rfl, hgfb⟩
      obtain ⟨hcfb, hffb, hzfb⟩ := bcell hgfb
      (have uf0b : w.heap.size < wfb.heap.size := by omega); (have uf1b : w.heap.size + 1 < wfb.heap.size := by omega)
      go_wp2_with fail
      go_meet
      exact ⟨by rw [HK.out], by (repeat (first | with_reducible exact Below.refl _ _ | with_reducible assumption | (with_reducible refine bl_set ?_ (by simp; try omega) _) | (with_reducible refine bl_alloc ?_ _) | (with_reducible refine bl_dn ?_ _) | (with_reducible refine bl_drew ?_) | (with_reducible refine bl_then ?_ (by with_reducible assumption))))⟩
    cases t3 : (en != 0)
    rotate_left
    · have HK : Hid (idle p a b = true) := by show _ = _; unfold idle; rw [HN.out]; simp only [t1, t2, t3]; simp
      have Fa : Hid (decide (405 < (a.xs.length : Int)) = false) := t1
      have Fb : Hid (decide (405 < (b.xs.length : Int)) = false) := t2
      clear t1 t2
      go_wp2_with fail
      refine (far_any a A c _).mono ?_
      rw [Fa.out]
      rintro e wfa ⟨rfl, hgfa⟩
      obtain ⟨hcfa, hffa, hzfa⟩ := bcell hgfa
      (have uf0a : w.heap.size < wfa.heap.size := by omega); (have uf1a : w.heap.size + 1 < wfa.heap.size := by omega)
      go_wp2_with fail
      refine (far_any b B d _).mono ?_
      rw [Fb.out]
      rintro e wfb ⟨rfl, hgfb⟩
      obtain ⟨hcfb, hffb, hzfb⟩ := bcell hgfb
      (have uf0b : w.heap.size < wfb.heap.size := by omega); (have uf1b : w.heap.size + 1 < wfb.heap.size := by omega)
      go_wp2_with fail
      go_meet
      exact ⟨by rw [HK.out], by (repeat (first | with_reducible exact Below.refl _ _ | with_reducible assumption | (with_reducible refine bl_set ?_ (by simp; try omega) _) | (with_reducible refine bl_alloc ?_ _) | (with_reducible refine bl_dn ?_ _) | (with_reducible refine bl_drew ?_) | (with_reducible refine bl_then ?_ (by with_reducible assumption))))⟩
    cases t4 : (n != 2)
    rotate_left
    · have HK : Hid (idle p a b = true) := by show _ = _; unfold idle; rw [HN.out]; simp only [t1, t2, t3, t4]; simp
      have Fa : Hid (decide (405 < (a.xs.length : Int)) = false) := t1
      have Fb : Hid (decide (405 < (b.xs.length : Int)) = false) := t2
      clear t1 t2
      go_wp2_with fail
      refine (far_any a A c _).mono ?_
      rw [Fa.out]
      rintro e wfa ⟨rfl, hgfa⟩
      obtain ⟨hcfa, hffa, hzfa⟩ := bcell hgfa
      (have uf0a : w.heap.size < wfa.heap.size := by omega); (have uf1a : w.heap.size + 1 < wfa.heap.size := by omega)
      go_wp2_with fail
      refine (far_any b B d _).mono ?_
      rw [Fb.out]
      rintro e wfb ⟨rfl, hgfb⟩
      obtain ⟨hcfb, hffb, hzfb⟩ := bcell hgfb
      (have uf0b : w.heap.size < wfb.heap.size := by omega); (have uf1b : w.heap.size + 1 < wfb.heap.size := by omega)
      go_wp2_with fail
      go_meet
      exact ⟨by rw [HK.out], by (repeat (first | with_reducible exact Below.refl _ _ | with_reducible assumption | (with_reducible refine bl_set ?_ (by simp; try omega) _) | (with_reducible refine bl_alloc ?_ _) | (with_reducible refine bl_dn ?_ _) | (with_reducible refine bl_drew ?_) | (with_reducible refine bl_then ?_ (by with_reducible assumption))))⟩
    cases t5 : (chk a != 0)
    rotate_left
    · have HK : Hid (idle p a b = true) := by show _ = _; unfold idle; rw [HN.out]; simp only [t1, t2, t3, t4, t5]; simp
      have Fa : Hid (decide (405 < (a.xs.length : Int)) = false) := t1
      have Fb : Hid (decide (405 < (b.xs.length : Int)) = false) := t2
      clear t1 t2
      go_wp2_with fail
      refine (far_any a A c _).mono ?_
      rw [Fa.out]
      rintro e wfa ⟨rfl, hgfa⟩
      obtain ⟨hcfa, hffa, hzfa⟩ := bcell hgfa
      (have uf0a : w.heap.size < wfa.heap.size := by omega); (have uf1a : w.heap.size + 1 < wfa.heap.size := by omega)
      go_wp2_with fail
      refine (far_any b B d _).mono ?_
      rw [Fb.out]
      rintro e wfb ⟨rfl, hgfb⟩
      obtain ⟨hcfb, hffb, hzfb⟩ := bcell hgfb
      (have uf0b : w.heap.size < wfb.heap.size := by omega); (have uf1b : w.heap.size + 1 < wfb.heap.size := by omega)
      go_wp2_with fail
      refine (Ref.ac_any a A c hla f0 f1 _ (hs.below (by (repeat (first | with_reducible exact Below.refl _ _ | with_reducible assumption | (with_reducible refine bl_set ?_ (by simp; try omega) _) | (with_reducible refine bl_alloc ?_ _) | (with_reducible refine bl_dn ?_ _) | (with_reducible refine bl_drew ?_) | (with_reducible refine bl_then ?_ (by with_reducible assumption))))))).mono ?_
      rintro e wka ⟨rfl, hgka⟩
      obtain ⟨hcka, hfka, hzka⟩ := bcell hgka
      (have uk0a : w.heap.size < wka.heap.size := by omega); (have uk1a : w.heap.size + 1 < wka.heap.size := by omega)
      go_wp2_with fail
      go_meet
      exact ⟨by rw [HK.out], by (repeat (first | with_reducible exact Below.refl _ _ | with_reducible assumption | (with_reducible refine bl_set ?_ (by simp; try omega) _) | (with_reducible refine bl_alloc ?_ _) | (with_reducible refine bl_dn ?_ _) | (with_reducible refine bl_drew ?_) | (with_reducible refine bl_then ?_ (by with_reducible assumption))))⟩
    cases t6 : (chk b != 0)
    rotate_left
    · have HK : Hid (idle p a b = true) := by show _ = _; unfold idle; rw [HN.out]; simp only [t1, t2, t3, t4, t5, t6]; simp
      have Fa : Hid (decide (405 < (a.xs.length : Int)) = false) := t1
      have Fb : Hid (decide (405 < (b.xs.length : Int)) = false) := t2
      clear t1 t2
      go_wp2_with fail
      refine (far_any a A c _).mono ?_
      rw [Fa.out]
      rintro e wfa ⟨rfl, hgfa⟩
      obtain ⟨hcfa, hffa, hzfa⟩ := bcell hgfa
      (have uf0a : w.heap.size < wfa.heap.size := by omega); (have uf1a : w.heap.size + 1 < wfa.heap.size := by omega)
      go_wp2_with fail
      refine (far_any b B d _).mono ?_
      rw [Fb.out]
      rintro e wfb ⟨rfl, hgfb⟩
      obtain ⟨hcfb, hffb, hzfb⟩ := bcell hgfb
      (have uf0b : w.heap.size < wfb.heap.size := by omega); (have uf1b : w.heap.size + 1 < wfb.heap.size := by omega)
      go_wp2_with fail
      refine (Ref.ac_any a A c hla f0 f1 _ (hs.below (by (repeat (first | with_reducible exact Below.refl _ _ | with_reducible assumption | (with_reducible refine bl_set ?_ (by simp; try omega) _) | (with_reducible refine bl_alloc ?_ _) | (with_reducible refine bl_dn ?_ _) | (with_reducible refine bl_drew ?_) | (with_reducible refine bl_then ?_ (by with_reducible assumption))))))).mono ?_
      rintro e wka ⟨rfl, hgka⟩
      obtain ⟨hcka, hfka, hzka⟩ := bcell hgka
      (have uk0a : w.heap.size < wka.heap.size := by omega); (have uk1a : w.heap.size + 1 < wka.heap.size := by omega)
      go_wp2_with fail
      refine (Ref.ac_any b B d hlb g0 g1 _ (ht.below (by (repeat (first | with_reducible exact Below.refl _ _ | with_reducible assumption | (with_reducible refine bl_set ?_ (by simp; try omega) _) | (with_reducible refine bl_alloc ?_ _) | (with_reducible refine bl_dn ?_ _) | (with_reducible refine bl_drew ?_) | (with_reducible refine bl_then ?_ (by with_reducible assumption))))))).mono ?_
      rintro e wkb ⟨rfl, hgkb⟩
      obtain ⟨hckb, hfkb, hzkb⟩ := bcell hgkb
      (have uk0b : w.heap.size < wkb.heap.size := by omega); (have uk1b : w.heap.size + 1 < wkb.heap.size := by omega)
      go_wp2_with fail
      go_meet
      exact ⟨by rw [HK.out], by (repeat (first | with_reducible exact Below.refl _ _ | with_reducible assumption | (with_reducible refine bl_set ?_ (by simp; try omega) _) | (with_reducible refine bl_alloc ?_ _) | (with_reducible refine bl_dn ?_ _) | (with_reducible refine bl_drew ?_) | (with_reducible refine bl_then ?_ (by with_reducible assumption))))⟩
    cases t7 : (a.k != 1)
    rotate_left
    · have HK : Hid (idle p a b = true) := by show _ = _; unfold idle; rw [HN.out]; simp only [t1, t2, t3, t4, t5, t6, t7]; simp
      have Fa : Hid (decide (405 < (a.xs.length : Int)) = false) := t1
      have Fb : Hid (decide (405 < (b.xs.length : Int)) = false) := t2
      clear t1 t2
      go_wp2_with fail
      refine (far_any a A c _).mono ?_
      rw [Fa.out]
      rintro e wfa ⟨rfl, hgfa⟩
      obtain ⟨hcfa, hffa, hzfa⟩ := bcell hgfa
      (have uf0a : w.heap.size < wfa.heap.size := by omega); (have uf1a : w.heap.size + 1 < wfa.heap.size := by omega)
      go_wp2_with fail
      refine (far_any b B d _).mono ?_
      rw [Fb.out]
      rintro e wfb ⟨rfl, hgfb⟩
      obtain ⟨hcfb, hffb, hzfb⟩ := bcell hgfb
      (have uf0b : w.heap.size < wfb.heap.size := by omega); (have uf1b : w.heap.size + 1 < wfb.heap.size := by omega)
      go_wp2_with fail
      refine (Ref.ac_any a A c hla f0 f1 _ (hs.below (by (repeat (first | with_reducible exact Below.refl _ _ | with_reducible assumption | (with_reducible refine bl_set ?_ (by simp; try omega) _) | (with_reducible refine bl_alloc ?_ _) | (with_reducible refine bl_dn ?_ _) | (with_reducible refine bl_drew ?_) | (with_reducible refine bl_then ?_ (by with_reducible assumption))))))).mono ?_
      rintro e wka ⟨rfl, hgka⟩
      obtain ⟨hcka, hfka, hzka⟩ := bcell hgka
      (have uk0a : w.heap.size < wka.heap.size := by omega); (have uk1a : w.heap.size + 1 < wka.heap.size := by omega)
      go_wp2_with fail
      refine (Ref.ac_any b B d hlb g0 g1 _ (ht.below (by (repeat (first | with_reducible exact Below.refl _ _ | with_reducible assumption | (with_reducible refine bl_set ?_ (by simp; try omega) _) | (with_reducible refine bl_alloc ?_ _) | (with_reducible refine bl_dn ?_ _) | (with_reducible refine bl_drew ?_) | (with_reducible refine bl_then ?_ (by with_reducible assumption))))))).mono ?_
      rintro e wkb ⟨rfl, hgkb⟩
      obtain ⟨hckb, hfkb, hzkb⟩ := bcell hgkb
      (have uk0b : w.heap.size < wkb.heap.size := by omega); (have uk1b : w.heap.size + 1 < wkb.heap.size := by omega)
      go_wp2_with fail
      go_meet
      exact ⟨by rw [HK.out], by (repeat (first | with_reducible exact Below.refl _ _ | with_reducible assumption | (with_reducible refine bl_set ?_ (by simp; try omega) _) | (with_reducible refine bl_alloc ?_ _) | (with_reducible refine bl_dn ?_ _) | (with_reducible refine bl_drew ?_) | (with_reducible refine bl_then ?_ (by with_reducible assumption))))⟩
    have HK : Hid (idle p a b = (b.k != 1)) := by show _ = _; unfold idle; rw [HN.out]; simp only [t1, t2, t3, t4, t5, t6, t7]; simp
    have Fa : Hid (decide (405 < (a.xs.length : Int)) = false) := t1
    have Fb : Hid (decide (405 < (b.xs.length : Int)) = false) := t2
    clear t1 t2
    go_wp2_with fail
    refine (far_any a A c _).mono ?_
    rw [Fa.out]
    rintro e wfa ⟨rfl, hgfa⟩
    obtain ⟨hcfa, hffa, hzfa⟩ := bcell hgfa
    (have uf0a : w.heap.size < wfa.heap.size := by omega); (have uf1a : w.heap.size + 1 < wfa.heap.size := by omega)
    go_wp2_with fail
    refine (far_any b B d _).mono ?_
    rw [Fb.out]
    rintro e wfb ⟨rfl, hgfb⟩
    obtain ⟨hcfb, hffb, hzfb⟩ := bcell hgfb
    (have uf0b : w.heap.size < wfb.heap.size := by omega); (have uf1b : w.heap.size + 1 < wfb.heap.size := by omega)
    go_wp2_with fail
    refine (Ref.ac_any a A c hla f0 f1 _ (hs.below (by (repeat (first | with_reducible exact Below.refl _ _ | with_reducible assumption | (with_reducible refine bl_set ?_ (by simp; try omega) _) | (with_reducible refine bl_alloc ?_ _) | (with_reducible refine bl_dn ?_ _) | (with_reducible refine bl_drew ?_) | (with_reducible refine bl_then ?_ (by with_reducible assumption))))))).mono ?_
    rintro e wka ⟨rfl, hgka⟩
    obtain ⟨hcka, hfka, hzka⟩ := bcell hgka
    (have uk0a : w.heap.size < wka.heap.size := by omega); (have uk1a : w.heap.size + 1 < wka.heap.size := by omega)
    go_wp2_with fail
    refine (Ref.ac_any b B d hlb g0 g1 _ (ht.below (by (repeat (first | with_reducible exact Below.refl _ _ | with_reducible assumption | (with_reducible refine bl_set ?_ (by simp; try omega) _) | (with_reducible refine bl_alloc ?_ _) | (with_reducible refine bl_dn ?_ _) | (with_reducible refine bl_drew ?_) | (with_reducible refine bl_then ?_ (by with_reducible assumption))))))).mono ?_
    rintro e wkb ⟨rfl, hgkb⟩
    obtain ⟨hckb, hfkb, hzkb⟩ := bcell hgkb
    (have uk0b : w.heap.size < wkb.heap.size := by omega); (have uk1b : w.heap.size + 1 < wkb.heap.size := by omega)
    go_wp2_with fail
    go_meet
    exact ⟨by rw [HK.out], by (repeat (first | with_reducible exact Below.refl _ _ | with_reducible assumption | (with_reducible refine bl_set ?_ (by simp; try omega) _) | (with_reducible refine bl_alloc ?_ _) | (with_reducible refine bl_dn ?_ _) | (with_reducible refine bl_drew ?_) | (with_reducible refine bl_then ?_ (by with_reducible assumption))))⟩
  case rest =>
    obtain ⟨rfl, hg⟩ := hcut
    obtain ⟨w2, rfl⟩ : ∃ w2 : World, w2 = wc := ⟨_, rfl⟩
    rw [HI.out]
    obtain ⟨hc2, hf2, hz2⟩ := bcell hg
    (have y0 : w.heap.size < w2.heap.size := by omega); (have y1 : w.heap.size + 1 < w2.heap.size := by omega)
    go_wp2_with fail
    refine (lens_any a A c hla f0 f1 b B d hlb g0 g1 _ (hs.below (by (repeat (first | with_reducible exact Below.refl _ _ | with_reducible assumption | (with_reducible refine bl_set ?_ (by simp; try omega) _) | (with_reducible refine bl_alloc ?_ _) | (with_reducible refine bl_dn ?_ _) | (with_reducible refine bl_drew ?_) | (with_reducible refine bl_then ?_ (by with_reducible assumption)))))) (ht.below (by (repeat (first | with_reducible exact Below.refl _ _ | with_reducible assumption | (with_reducible refine bl_set ?_ (by simp; try omega) _) | (with_reducible refine bl_alloc ?_ _) | (with_reducible refine bl_dn ?_ _) | (with_reducible refine bl_drew ?_) | (with_reducible refine bl_then ?_ (by with_reducible assumption))))))).mono ?_
    rw [HL.out]
    rintro e w3 ⟨rfl, hg3⟩
    obtain ⟨hc3, hf3, hz3⟩ := bcell hg3
    (have x0 : w.heap.size < w3.heap.size := by omega); (have x1 : w.heap.size + 1 < w3.heap.size := by omega)
    go_wp2_with fail
    refine (two_any p a b A B c d (by have := K1.out; omega) f0 f1 (by have := K2.out; omega) g0 g1 HXA.out HXB.out _ (hs.below (by (repeat (first | with_reducible exact Below.refl _ _ | with_reducible assumption | (with_reducible refine bl_set ?_ (by simp; try omega) _) | (with_reducible refine bl_alloc ?_ _) | (with_reducible refine bl_dn ?_ _) | (with_reducible refine bl_drew ?_) | (with_reducible refine bl_then ?_ (by with_reducible assumption)))))) (ht.below (by (repeat (first | with_reducible exact Below.refl _ _ | with_reducible assumption | (with_reducible refine bl_set ?_ (by simp; try omega) _) | (with_reducible refine bl_alloc ?_ _) | (with_reducible refine bl_dn ?_ _) | (with_reducible refine bl_drew ?_) | (with_reducible refine bl_then ?_ (by with_reducible assumption))))))).mono ?_
    rw [HT.out]
    rintro e w4 ⟨hg4, C, cc, rfl, hsC, hgeC⟩
    obtain ⟨hc4, hf4, hz4⟩ := bcell hg4
    (have v3 : w3.heap.size < w4.heap.size := by have := hg4.size; simp at this; omega); (have v0 : w.heap.size < w4.heap.size := by omega); (have v1 : w.heap.size + 1 < w4.heap.size := by omega)
    have HU : Hid (TwoBox w (w4.alloc (.cells #[.int .i64 R.k, .int .i64 R.r, .int .i64 R.l0, .int .i64 R.l1, .slice C R.xs.length cc] 25)) a b A B c d) := (st1.out.below (bl_then (bl_alloc (bl_then hg hg3) _) hg4)).below (by (repeat (first | with_reducible exact Below.refl _ _ | with_reducible assumption | (with_reducible refine bl_set ?_ (by simp; try omega) _) | (with_reducible refine bl_alloc ?_ _) | (with_reducible refine bl_dn ?_ _) | (with_reducible refine bl_drew ?_) | (with_reducible refine bl_then ?_ (by with_reducible assumption)))))
    have HC : Hid (ArrAt (w4.alloc (.cells #[.int .i64 R.k, .int .i64 R.r, .int .i64 R.l0, .int .i64 R.l1, .slice C R.xs.length cc] 25)) w4.heap.size R) := ArrAt.new (w0 := w) hsC _
    go_upto_region 8 with fail
    have yC : w4.heap.size < (w4.alloc (.cells #[.int .i64 R.k, .int .i64 R.r, .int .i64 R.l0, .int .i64 R.l1, .slice C R.xs.length cc] 25)).heap.size := by simp
    have hL0 : Hid ((w4.alloc (.cells #[.int .i64 R.k, .int .i64 R.r, .int .i64 R.l0, .int .i64 R.l1, .slice C R.xs.length cc] 25)).cell? ⟨w3.heap.size, 0, none⟩ = some (.int .i64 l0)) := by show _ = _; simp [go_sem, *]
    have hL1 : Hid ((w4.alloc (.cells #[.int .i64 R.k, .int .i64 R.r, .int .i64 R.l0, .int .i64 R.l1, .slice C R.xs.length cc] 25)).cell? ⟨w3.heap.size, 1, none⟩ = some (.int .i64 l1)) := by show _ = _; simp [go_sem, *]
    have yL : w3.heap.size < (w4.alloc (.cells #[.int .i64 R.k, .int .i64 R.r, .int .i64 R.l0, .int .i64 R.l1, .slice C R.xs.length cc] 25)).heap.size := by simp; omega
    clear hc2 hf2 hc3 hf3 hc4 hf4 a0 a1 a2 a3 a4 b0 b1 b2 b3 b4
    change Code.wp _ _ _ _ (w4.alloc (.cells #[.int .i64 R.k, .int .i64 R.r, .int .i64 R.l0, .int .i64 R.l1, .slice C R.xs.length cc] 25))
    generalize (w4.alloc (.cells #[.int .i64 R.k, .int .i64 R.r, .int .i64 R.l0, .int .i64 R.l1, .slice C R.xs.length cc] 25)) = w5 at *
    generalize w4.heap.size = gc at *
    generalize w3.heap.size = gl at *
    obtain ⟨⟨a0, a1, a2, a3, a4⟩, ⟨b0, b1, b2, b3, b4⟩, z5, hb5⟩ := HU.out
    have z50 : w.heap.size < w5.heap.size := by omega
    go_cut [14] from 18 (fun s14 wx => s14 = .int .i64 ((max a.xs.length b.xs.length : Nat) : Int) ∧ w5 = wx)
    case first =>
      by_cases hm : a.xs.length < b.xs.length
      · have HM : Hid (max a.xs.length b.xs.length = b.xs.length) := by show _ = _; omega
        go_wp2_with fail
        go_meet
        exact ⟨by rw [HM.out], rfl⟩
      · have HM : Hid (max a.xs.length b.xs.length = a.xs.length) := by show _ = _; omega
        go_wp2_with fail
        go_meet
        exact ⟨by rw [HM.out], rfl⟩
    case rest =>
      obtain ⟨rfl, rfl⟩ := hcut
      go_upto_if 97 with fail
      go_cut [14] from 18 (fun s14 wx => s14 = .int .i64 ((manyA a b : Nat) : Int) ∧ w5 = wx)
      case first =>
        cases hk : (a.r == 0)
        · have HK : Hid (manyA a b = max a.xs.length b.xs.length) := if_neg (by simpa using hk)
          go_wp2_with fail
          go_meet
          exact ⟨by rw [HK.out], rfl⟩
        · have HK : Hid (manyA a b = b.xs.length) := if_pos (by simpa using hk)
          go_wp2_with fail
          go_meet
          exact ⟨by rw [HK.out], rfl⟩
      case rest =>
        obtain ⟨rfl, rfl⟩ := hcut
        go_upto_if 103 with fail
        go_cut [14] from 18 (fun s14 wx => s14 = .int .i64 ((many a b : Nat) : Int) ∧ w5 = wx)
        case first =>
          cases hk : (b.r == 0)
          · have HK : Hid (many a b = manyA a b) := by show _ = _; rw [← HMY.out]; unfold manyL manyA; rw [if_neg (by simpa using hk)]
            go_wp2_with fail
            go_meet
            exact ⟨by rw [HK.out], rfl⟩
          · have HK : Hid (many a b = a.xs.length) := by show _ = _; rw [← HMY.out]; unfold manyL; rw [if_pos (by simpa using hk)]
            go_wp2_with fail
            go_meet
            exact ⟨by rw [HK.out], rfl⟩
        case rest =>
          obtain ⟨rfl, rfl⟩ := hcut
          have hmz : Hid (many a b ≤ 100000) := by show many a b ≤ _; have := K1.out; have := K2.out; unfold many; split <;> omega
          obtain ⟨n, hn⟩ : ∃ n, many a b = n := ⟨_, rfl⟩
          rw [hn] at hmz ⊢
          have HN := hide hn
          clear hn HMY
          have hnn : n ≤ 9223372036854775807 := by have := hmz.out; omega
          have HL1 : Hid ((extLens a b).1 = 0) := by show _ = _; rw [HL.out]
          have heq := fun (p q r s : Int) (w : World) => eql_lens p q r s w
          by_cases he0 : er = 0
          · subst he0
            obtain ⟨zs, hzm, rfl⟩ := twoRes_ok HW.out
            have HZ := hide hzm
            have HZL : Hid (zs.length = n) := by show _ = _; rw [mapP_len hzm, pairs_len HL1.out, HN.out]
            have HSF := hide (sh_fits (ext_shape HL.out).1)
            have HCK : Hid (chk ⟨1, r, l0, l1, zs⟩ = 0) := by have e := ext_shape HL.out; exact chk_res e.1 (by rw [HZL.out, ← HN.out]; exact e.2)
            obtain ⟨C, cc, hq, hsR⟩ := HC.out
            have hq : Hid (Arr5 w5 gc (.int .i64 1) (.int .i64 r) (.int .i64 l0) (.int .i64 l1) (.slice C n cc)) := by have e := HZL.out; subst e; exact hq
            have hsR := hide hsR
            clear hzm HC HT HW a0 a1 a2 a3 a4 b0 b1 b2 b3 b4
            go_wp2
            go_loopw [15] (fun i wr => ∃ k : Nat, k ≤ n ∧ i = .int .i64 k ∧ Hid (Below w5.heap.size w5 wr)) (fun i _ => n - (intOf i).toNat)
            case atStart => exact ⟨0, Nat.zero_le _, rfl, Below.refl _ _⟩
            case round =>
              obtain ⟨k, hk, rfl, hbr⟩ := hrel
              obtain ⟨⟨a0, a1, a2, a3, a4⟩, ⟨b0, b1, b2, b3, b4⟩, zr1, hbw⟩ := HU.out.below hbr.out
              have zr0 : w.heap.size < wr.heap.size := by omega
              have hl0 : wr.cell? ⟨gl, 0, none⟩ = some (.int .i64 l0) := (hbr.out.cell (p := ⟨gl, 0, none⟩) yL).trans hL0.out
              have hl1 : wr.cell? ⟨gl, 1, none⟩ = some (.int .i64 l1) := (hbr.out.cell (p := ⟨gl, 1, none⟩) yL).trans hL1.out
              have yLr : gl < wr.heap.size := Nat.lt_of_lt_of_le yL hbr.out.size
              have yCr : gc < wr.heap.size := Nat.lt_of_lt_of_le yC hbr.out.size
              by_cases hlt : k < n
              · obtain ⟨hia, hib, hpk⟩ := pairs_get (a := a) (b := b) HL1.out (k := k) (by rw [HN.out]; exact hlt)
                obtain ⟨x, hx⟩ : ∃ x, Hid (a.xs.getD (idx a.r k) 0 = x) := ⟨_, rfl⟩
                obtain ⟨y, hyy⟩ : ∃ y, Hid (b.xs.getD (idx b.r k) 0 = y) := ⟨_, rfl⟩
                have hfx : Hid (Fits x) := HXA.out x (by rw [← hx.out]; exact getD_in 0 hia)
                have hfy : Hid (Fits y) := HXB.out y (by rw [← hyy.out]; exact getD_in 0 hib)
                have HPL : Hid (k < (pairs a b).length) := by show k < _; rw [pairs_len HL1.out, HN.out]; exact hlt
                have HIA := hide hia; have HIB := hide hib
                have HPK : Hid ((pairs a b).getD k (0, 0) = (x, y)) := by show _ = _; rw [hpk, hx.out, hyy.out]
                clear hia hib hpk
                go_upto_region 16 with fail
                go_cut [16, 17] from 107 to 154 (fun s16 s17 wx => s16 = .int .i64 (two p x y).1 ∧ s17 = .int .i64 (two p x y).2 ∧ Below wr.heap.size wr wx)
                case first =>
                  go_region_held3 (fun w' => Below wr.heap.size wr w' ∧ ∀ b o, b < wr.heap.size → w'.cell? ⟨b, o, none⟩ = wr.cell? ⟨b, o, none⟩) (first | assumption | exact ⟨bl_drew (Below.refl _ _), fun _ _ _ => rfl⟩)
                    (first
                      | (go_at_call_of 31 (Value.agg #[.int .i64 a.k, .int .i64 a.r, .int .i64 a.l0, .int .i64 a.l1, .slice A a.xs.length c]); (obtain ⟨hbb, _⟩ := (by assumption : Below wr.heap.size wr _ ∧ _)); refine (at_any a A c k x _ hla HIA.out hx.out (hs.below (bl_then hbw hbb))).mono ?_; rintro e w' ⟨rfl, hg⟩; have hS := same_of (bl_then hbb hg))
                      | (go_at_call_of 31 (Value.agg #[.int .i64 b.k, .int .i64 b.r, .int .i64 b.l0, .int .i64 b.l1, .slice B b.xs.length d]); (obtain ⟨hbb, _⟩ := (by assumption : Below wr.heap.size wr _ ∧ _)); refine (at_any b B d k y _ hlb HIB.out hyy.out (ht.below (bl_then hbw hbb))).mono ?_; rintro e w' ⟨rfl, hg⟩; have hS := same_of (bl_then hbb hg))
                      | (go_at_call 30; (obtain ⟨hbb, _⟩ := (by assumption : Below wr.heap.size wr _ ∧ _)); refine (Sc.Ref.Two_any p x y hfx.out hfy.out _).mono ?_; rintro e w' ⟨rfl, hg⟩; have hS := same_of (bl_then hbb hg)))
                  all_goals
                    go_wp2_with fail
                    go_meet
                    exact ⟨rfl, rfl, by first | assumption | exact hS.1⟩
                case rest =>
                  obtain ⟨rfl, rfl, hg7⟩ := hcut
                  obtain ⟨w7, rfl⟩ : ∃ w7 : World, w7 = wc := ⟨_, rfl⟩
                  obtain ⟨he, hzk⟩ := mapP_get HZ.out HPL.out
                  rw [HPK.out] at he hzk
                  have n3 : ((two p x y).2 != 0) = false := by simpa using he
                  obtain ⟨gb, ob, x', rfl, hbk, hck, hxk⟩ := (hsR.out.below (bl_then hbr.out hg7)).at_ (k := k) (by show k < zs.length; rw [HZL.out]; exact hlt)
                  have hxk : x' = (two p x y).1 := hxk.out.symm.trans hzk
                  subst hxk
                  obtain ⟨q0, q1, q2, q3, q4⟩ := hq.out.below (bl_then hbr.out hg7)
                  clear a0 a1 a2 a3 a4 b0 b1 b2 b3 b4 he hzk
                  go_wp2
                  go_roundw
                  case rel => exact ⟨k + 1, by omega, by go_num, by show Below _ _ _; have := hbr.out; (repeat (first | with_reducible exact Below.refl _ _ | with_reducible assumption | (with_reducible refine bl_set ?_ (by simp; try omega) _) | (with_reducible refine bl_alloc ?_ _) | (with_reducible refine bl_dn ?_ _) | (with_reducible refine bl_drew ?_) | (with_reducible refine bl_then ?_ (by with_reducible assumption))))⟩
                  case measure => simp [intOf]; omega
              · have hkn : k = n := by omega
                subst hkn
                obtain ⟨q0, q1, q2, q3, q4⟩ := hq.out.below hbr.out
                rw [← HZL.out] at q4
                have e14 := HZL.out
                clear a0 a1 a2 a3 a4 b0 b1 b2 b3 b4
                subst e14
                go_wp2_with fail
                refine (Ref.ac_any ⟨1, r, l0, l1, zs⟩ C cc (by have := hmz.out; show zs.length ≤ _; omega) HSF.out.1 HSF.out.2 _ (hsR.out.below (by have := hbr.out; (repeat (first | with_reducible exact Below.refl _ _ | with_reducible assumption | (with_reducible refine bl_set ?_ (by simp; try omega) _) | (with_reducible refine bl_alloc ?_ _) | (with_reducible refine bl_dn ?_ _) | (with_reducible refine bl_drew ?_) | (with_reducible refine bl_then ?_ (by with_reducible assumption))))))).mono ?_
                rw [HCK.out]
                rintro e w8 ⟨rfl, hg8⟩
                go_wp2_with fail
                refine (awake10 _).mono ?_
                rintro e w9 ⟨rfl, hg9⟩
                go_wp2
                go_ret
                exact ⟨rfl, by have := hbr.out; (repeat (first | with_reducible exact Below.refl _ _ | with_reducible assumption | (with_reducible refine bl_set ?_ (by simp; try omega) _) | (with_reducible refine bl_alloc ?_ _) | (with_reducible refine bl_dn ?_ _) | (with_reducible refine bl_drew ?_) | (with_reducible refine bl_then ?_ (by with_reducible assumption))))⟩
          · obtain ⟨hme, rfl⟩ := twoRes_no HW.out he0
            have HME := hide hme
            have n0 : (er == 0) = false := by simpa using he0
            obtain ⟨C, cc, hq, hsR⟩ := HC.out
            have hq : Hid (Arr5 w5 gc (.int .i64 0) (.int .i64 0) (.int .i64 0) (.int .i64 0) (.slice C 0 cc)) := hq
            clear hme HC HT HW hsR a0 a1 a2 a3 a4 b0 b1 b2 b3 b4
            go_wp2
            go_loopw [15] (fun i wr => ∃ (k : Nat) (ys : List Int), k ≤ n ∧ i = .int .i64 k ∧ Hid (mapP (fun q : Int × Int => two p q.1 q.2) ((pairs a b).take k) = (0, ys)) ∧ Hid (Below w5.heap.size w5 wr)) (fun i _ => n - (intOf i).toNat)
            case atStart => exact ⟨0, [], Nat.zero_le _, rfl, rfl, Below.refl _ _⟩
            case round =>
              obtain ⟨k, ys, hk, rfl, hm, hbr⟩ := hrel
              obtain ⟨⟨a0, a1, a2, a3, a4⟩, ⟨b0, b1, b2, b3, b4⟩, zr1, hbw⟩ := HU.out.below hbr.out
              have zr0 : w.heap.size < wr.heap.size := by omega
              have hl0 : wr.cell? ⟨gl, 0, none⟩ = some (.int .i64 l0) := (hbr.out.cell (p := ⟨gl, 0, none⟩) yL).trans hL0.out
              have hl1 : wr.cell? ⟨gl, 1, none⟩ = some (.int .i64 l1) := (hbr.out.cell (p := ⟨gl, 1, none⟩) yL).trans hL1.out
              have yLr : gl < wr.heap.size := Nat.lt_of_lt_of_le yL hbr.out.size
              have yCr : gc < wr.heap.size := Nat.lt_of_lt_of_le yC hbr.out.size
              by_cases hlt : k < n
              · obtain ⟨hia, hib, hpk⟩ := pairs_get (a := a) (b := b) HL1.out (k := k) (by rw [HN.out]; exact hlt)
                obtain ⟨x, hx⟩ : ∃ x, Hid (a.xs.getD (idx a.r k) 0 = x) := ⟨_, rfl⟩
                obtain ⟨y, hyy⟩ : ∃ y, Hid (b.xs.getD (idx b.r k) 0 = y) := ⟨_, rfl⟩
                have hfx : Hid (Fits x) := HXA.out x (by rw [← hx.out]; exact getD_in 0 hia)
                have hfy : Hid (Fits y) := HXB.out y (by rw [← hyy.out]; exact getD_in 0 hib)
                have HPL : Hid (k < (pairs a b).length) := by show k < _; rw [pairs_len HL1.out, HN.out]; exact hlt
                have HIA := hide hia; have HIB := hide hib
                have HPK : Hid ((pairs a b).getD k (0, 0) = (x, y)) := by show _ = _; rw [hpk, hx.out, hyy.out]
                clear hia hib hpk
                go_upto_region 16 with fail
                go_cut [16, 17] from 107 to 154 (fun s16 s17 wx => s16 = .int .i64 (two p x y).1 ∧ s17 = .int .i64 (two p x y).2 ∧ Below wr.heap.size wr wx)
                case first =>
                  go_region_held3 (fun w' => Below wr.heap.size wr w' ∧ ∀ b o, b < wr.heap.size → w'.cell? ⟨b, o, none⟩ = wr.cell? ⟨b, o, none⟩) (first | assumption | exact ⟨bl_drew (Below.refl _ _), fun _ _ _ => rfl⟩)
                    (first
                      | (go_at_call_of 31 (Value.agg #[.int .i64 a.k, .int .i64 a.r, .int .i64 a.l0, .int .i64 a.l1, .slice A a.xs.length c]); (obtain ⟨hbb, _⟩ := (by assumption : Below wr.heap.size wr _ ∧ _)); refine (at_any a A c k x _ hla HIA.out hx.out (hs.below (bl_then hbw hbb))).mono ?_; rintro e w' ⟨rfl, hg⟩; have hS := same_of (bl_then hbb hg))
                      | (go_at_call_of 31 (Value.agg #[.int .i64 b.k, .int .i64 b.r, .int .i64 b.l0, .int .i64 b.l1, .slice B b.xs.length d]); (obtain ⟨hbb, _⟩ := (by assumption : Below wr.heap.size wr _ ∧ _)); refine (at_any b B d k y _ hlb HIB.out hyy.out (ht.below (bl_then hbw hbb))).mono ?_; rintro e w' ⟨rfl, hg⟩; have hS := same_of (bl_then hbb hg))
                      | (go_at_call 30; (obtain ⟨hbb, _⟩ := (by assumption : Below wr.heap.size wr _ ∧ _)); refine (Sc.Ref.Two_any p x y hfx.out hfy.out _).mono ?_; rintro e w' ⟨rfl, hg⟩; have hS := same_of (bl_then hbb hg)))
                  all_goals
                    go_wp2_with fail
                    go_meet
                    exact ⟨rfl, rfl, by first | assumption | exact hS.1⟩
                case rest =>
                  obtain ⟨rfl, rfl, hg7⟩ := hcut
                  obtain ⟨w7, rfl⟩ : ∃ w7 : World, w7 = wc := ⟨_, rfl⟩
                  obtain ⟨q0, q1, q2, q3, q4⟩ := hq.out.below (bl_then hbr.out hg7)
                  clear a0 a1 a2 a3 a4 b0 b1 b2 b3 b4
                  by_cases he : (two p x y).2 = 0
                  · have n3 : ((two p x y).2 != 0) = false := by simpa using he
                    have HE := hide he
                    clear he
                    go_wp2
                    go_roundw
                    case rel => exact ⟨k + 1, ys ++ [(two p x y).1], by omega, by go_num, (by show _ = _; rw [take_succ_getDP HPL.out, HPK.out]; exact mapP_step hm.out HE.out), (by show Below _ _ _; have := hbr.out; (repeat (first | with_reducible exact Below.refl _ _ | with_reducible assumption | (with_reducible refine bl_set ?_ (by simp; try omega) _) | (with_reducible refine bl_alloc ?_ _) | (with_reducible refine bl_dn ?_ _) | (with_reducible refine bl_drew ?_) | (with_reducible refine bl_then ?_ (by with_reducible assumption)))))⟩
                    case measure => simp [intOf]; omega
                  · have e7 : (two p x y).2 = er := by
                      have := mapP_err (f := fun q : Int × Int => two p q.1 q.2) (r := (pairs a b).drop (k + 1)) (x := (x, y)) hm.out he
                      rw [← HPK.out, ← take_splitP HPL.out, HPK.out, HME.out] at this
                      exact this.symm
                    rw [e7] at he ⊢
                    have n3 : (er != 0) = true := by simpa using he
                    clear he e7
                    go_wp2_with fail
                    refine (awake10 _).mono ?_
                    rintro e w9 ⟨rfl, hg9⟩
                    go_wp2
                    go_ret
                    exact ⟨rfl, by have := hbr.out; (repeat (first | with_reducible exact Below.refl _ _ | with_reducible assumption | (with_reducible refine bl_set ?_ (by simp; try omega) _) | (with_reducible refine bl_alloc ?_ _) | (with_reducible refine bl_dn ?_ _) | (with_reducible refine bl_drew ?_) | (with_reducible refine bl_then ?_ (by with_reducible assumption))))⟩
              · exfalso
                have e := hm.out
                rw [List.take_of_length_le (by rw [pairs_len HL1.out, HN.out]; omega)] at e
                exact he0 (by rw [← HME.out, e])
theorem cells_walk (p : Int) (a b : Arr) (A B : Option Addr) (c d : Nat) (hla : a.xs.length ≤ 9223372036854775807) (hlb : b.xs.length ≤ 9223372036854775807) (f0 : Fits a.l0) (f1 : Fits a.l1) (hx : ∀ x ∈ a.xs, Fits x) (g0 : Fits b.l0) (g1 : Fits b.l1) (hy : ∀ x ∈ b.xs, Fits x) (w : World) (hs : Sl w A a.xs) (ht : Sl w B b.xs) :
    Calls Try.prog 5 #[.int .i64 p, .agg #[.int .i64 a.k, .int .i64 a.r, .int .i64 a.l0, .int .i64 a.l1, .slice A a.xs.length c], .agg #[.int .i64 b.k, .int .i64 b.r, .int .i64 b.l0, .int .i64 b.l1, .slice B b.xs.length d]] w fun e w' => e = .returned (.bool true) ∧ Below w.heap.size w w' := by
  cases h : idle p a b
  · by_cases h2 : (extLens a b).1 ≠ 0
    · exact cells_lens p a b A B c d hla f0 f1 hx hlb g0 g1 hy w hs ht h h2
    · exact cells_run p a b A B c d hla f0 f1 hx hlb g0 g1 hy w hs ht h (extLens a b).2.1 (extLens a b).2.2.1 (extLens a b).2.2.2 (Prod.ext (by simpa using h2) rfl)
  · exact cells_idle p a b A B c d hla f0 f1 hlb g0 g1 w hs ht h
end Ar
end Go.Proofs.Ytfpnafeildigaaa
