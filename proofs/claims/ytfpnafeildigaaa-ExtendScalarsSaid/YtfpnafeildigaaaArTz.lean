/-
extend.Two where its operands do not fit (chapter 10).
-/
import Derived.Test.YtfpnafeildigaaaArTx
set_option linter.unusedSimpArgs false
set_option linter.unusedVariables false
namespace Go.Proofs.Ytfpnafeildigaaa
namespace Ar
open Go.RowKit Sc
set_option maxRecDepth 100000 in
theorem two_arity (p : Int) (a b : Arr) (A B : Option Addr) (c d : Nat) (hla : a.xs.length ≤ 9223372036854775807) (f0a : Fits a.l0) (f1a : Fits a.l1) (hlb : b.xs.length ≤ 9223372036854775807) (f0b : Fits b.l0) (f1b : Fits b.l1) (h : arity p ≠ (2, 0)) (w : World) (hsa : Sl w A a.xs) (hsb : Sl w B b.xs) :
    Calls Try.prog 24 #[.int .i64 p, .agg #[.int .i64 a.k, .int .i64 a.r, .int .i64 a.l0, .int .i64 a.l1, .slice A a.xs.length c], .agg #[.int .i64 b.k, .int .i64 b.r, .int .i64 b.l0, .int .i64 b.l1, .slice B b.xs.length d]] w fun e w' => ArrRet w (2, .zero) e w' := by
  obtain h1 | h1 : arity p = (1, 0) ∨ arity p = (0, 2) := by
    unfold arity at h ⊢
    by_cases a : 1 ≤ p ∧ p ≤ 3
    · left; rw [if_pos a]
    · by_cases b : 15 ≤ p ∧ p ≤ 32
      · rw [if_neg a, if_pos b] at h; exact absurd rfl h
      · right; rw [if_neg a, if_neg b]
  all_goals
    have H := hide h1
    clear h h1
    have hmf : ∀ (fn : Fn) (first cap : Array Value) (w : World), (Instr.makeFunc fn first cap).run Try.prog w = .ok (.func fn first cap) w := fun _ _ _ _ => rfl
    go_enter_defers Try.func24, Try.ntmps24
    go_wp2_with fail
    have st0 : Hid (TwoSt w (((((w.alloc (.cells #[.int .i64 p] 3)).alloc (.cells #[.int .i64 a.k, .int .i64 a.r, .int .i64 a.l0, .int .i64 a.l1, .slice A a.xs.length c] 25)).alloc (.cells #[.int .i64 b.k, .int .i64 b.r, .int .i64 b.l0, .int .i64 b.l1, .slice B b.xs.length d] 25)).alloc
        (.cells #[.int .i64 0, .int .i64 0, .int .i64 0, .int .i64 0, .slice none 0 0] 25)).alloc (.cells #[.int .i64 0] 28)) p a b A B c d) := by
      refine ⟨by simp [go_sem], ⟨by simp [go_sem], by simp [go_sem], by simp [go_sem], by simp [go_sem], by simp [go_sem]⟩, ⟨by simp [go_sem], by simp [go_sem], by simp [go_sem], by simp [go_sem], by simp [go_sem]⟩, ⟨by simp [go_sem], by simp [go_sem], by simp [go_sem], by simp [go_sem], by simp [go_sem]⟩, by simp [go_sem], fun i => by simp [go_sem], by simp [go_sem], by simp, by (repeat (first | with_reducible exact Below.refl _ _ | with_reducible assumption | (with_reducible refine bl_set ?_ (by simp; try omega) _) | (with_reducible refine bl_alloc ?_ _) | (with_reducible refine bl_dn ?_ _) | (with_reducible refine bl_drew ?_) | (with_reducible refine bl_then ?_ (by with_reducible assumption))))⟩
    refine (arity_any p _).mono ?_
    rw [H.out]
    rintro e w1 ⟨rfl, hg⟩
    have st1 := hide (st0.out.below hg)
    obtain ⟨p0_w1, ⟨a0_w1, a1_w1, a2_w1, a3_w1, a4_w1⟩, ⟨b0_w1, b1_w1, b2_w1, b3_w1, b4_w1⟩, ⟨c0_w1, c1_w1, c2_w1, c3_w1, c4_w1⟩, e0_w1, fc_w1, fe_w1, z_w1, hb_w1⟩ := st1.out; (have y0_w1 : w.heap.size < w1.heap.size := by omega); (have y1_w1 : w.heap.size + 1 < w1.heap.size := by omega); (have y2_w1 : w.heap.size + 1 + 1 < w1.heap.size := by omega); (have y3_w1 : w.heap.size + 1 + 1 + 1 < w1.heap.size := by omega)
    clear hg st0
    go_wp2
    simp [bodyPostD, Leaves, settle, results, Try.results24, go_sem, *]
    exact arr_zero _ (by (repeat (first | with_reducible exact Below.refl _ _ | with_reducible assumption | (with_reducible refine bl_set ?_ (by simp; try omega) _) | (with_reducible refine bl_alloc ?_ _) | (with_reducible refine bl_dn ?_ _) | (with_reducible refine bl_drew ?_) | (with_reducible refine bl_then ?_ (by with_reducible assumption)))))
set_option maxRecDepth 100000 in
theorem two_check (p : Int) (a b : Arr) (A B : Option Addr) (c d : Nat) (hla : a.xs.length ≤ 9223372036854775807) (f0a : Fits a.l0) (f1a : Fits a.l1) (hlb : b.xs.length ≤ 9223372036854775807) (f0b : Fits b.l0) (f1b : Fits b.l1) (h : arity p = (2, 0)) (h2 : chk2 a b ≠ 0) (w : World) (hsa : Sl w A a.xs) (hsb : Sl w B b.xs) :
    Calls Try.prog 24 #[.int .i64 p, .agg #[.int .i64 a.k, .int .i64 a.r, .int .i64 a.l0, .int .i64 a.l1, .slice A a.xs.length c], .agg #[.int .i64 b.k, .int .i64 b.r, .int .i64 b.l0, .int .i64 b.l1, .slice B b.xs.length d]] w fun e w' => ArrRet w (chk2 a b, .zero) e w' := by
  have H := hide h
  have n1 : (chk2 a b != 0) = true := by simpa using h2
  clear h h2
  have hmf : ∀ (fn : Fn) (first cap : Array Value) (w : World), (Instr.makeFunc fn first cap).run Try.prog w = .ok (.func fn first cap) w := fun _ _ _ _ => rfl
  go_enter_defers Try.func24, Try.ntmps24
  go_wp2_with fail
  have st0 : Hid (TwoSt w (((((w.alloc (.cells #[.int .i64 p] 3)).alloc (.cells #[.int .i64 a.k, .int .i64 a.r, .int .i64 a.l0, .int .i64 a.l1, .slice A a.xs.length c] 25)).alloc (.cells #[.int .i64 b.k, .int .i64 b.r, .int .i64 b.l0, .int .i64 b.l1, .slice B b.xs.length d] 25)).alloc
      (.cells #[.int .i64 0, .int .i64 0, .int .i64 0, .int .i64 0, .slice none 0 0] 25)).alloc (.cells #[.int .i64 0] 28)) p a b A B c d) := by
    refine ⟨by simp [go_sem], ⟨by simp [go_sem], by simp [go_sem], by simp [go_sem], by simp [go_sem], by simp [go_sem]⟩, ⟨by simp [go_sem], by simp [go_sem], by simp [go_sem], by simp [go_sem], by simp [go_sem]⟩, ⟨by simp [go_sem], by simp [go_sem], by simp [go_sem], by simp [go_sem], by simp [go_sem]⟩, by simp [go_sem], fun i => by simp [go_sem], by simp [go_sem], by simp, by (repeat (first | with_reducible exact Below.refl _ _ | with_reducible assumption | (with_reducible refine bl_set ?_ (by simp; try omega) _) | (with_reducible refine bl_alloc ?_ _) | (with_reducible refine bl_dn ?_ _) | (with_reducible refine bl_drew ?_) | (with_reducible refine bl_then ?_ (by with_reducible assumption))))⟩
  refine (arity_any p _).mono ?_
  rw [H.out]
  rintro e w1 ⟨rfl, hg⟩
  have st1 := hide (st0.out.below hg)
  obtain ⟨p0_w1, ⟨a0_w1, a1_w1, a2_w1, a3_w1, a4_w1⟩, ⟨b0_w1, b1_w1, b2_w1, b3_w1, b4_w1⟩, ⟨c0_w1, c1_w1, c2_w1, c3_w1, c4_w1⟩, e0_w1, fc_w1, fe_w1, z_w1, hb_w1⟩ := st1.out; (have y0_w1 : w.heap.size < w1.heap.size := by omega); (have y1_w1 : w.heap.size + 1 < w1.heap.size := by omega); (have y2_w1 : w.heap.size + 1 + 1 < w1.heap.size := by omega); (have y3_w1 : w.heap.size + 1 + 1 + 1 < w1.heap.size := by omega)
  clear hg st0
  go_wp2_with fail
  refine (check2_any a A c hla f0a f1a b B d hlb f0b f1b _ (hsa.below (by (repeat (first | with_reducible exact Below.refl _ _ | with_reducible assumption | (with_reducible refine bl_set ?_ (by simp; try omega) _) | (with_reducible refine bl_alloc ?_ _) | (with_reducible refine bl_dn ?_ _) | (with_reducible refine bl_drew ?_) | (with_reducible refine bl_then ?_ (by with_reducible assumption)))))) (hsb.below (by (repeat (first | with_reducible exact Below.refl _ _ | with_reducible assumption | (with_reducible refine bl_set ?_ (by simp; try omega) _) | (with_reducible refine bl_alloc ?_ _) | (with_reducible refine bl_dn ?_ _) | (with_reducible refine bl_drew ?_) | (with_reducible refine bl_then ?_ (by with_reducible assumption))))))).mono ?_
  rintro e w2 ⟨rfl, hg⟩
  have st2 := hide (st1.out.below hg)
  clear p0_w1 a0_w1 a1_w1 a2_w1 a3_w1 a4_w1 b0_w1 b1_w1 b2_w1 b3_w1 b4_w1 c0_w1 c1_w1 c2_w1 c3_w1 c4_w1 e0_w1 fc_w1 fe_w1 z_w1 hb_w1 y0_w1 y1_w1 y2_w1 y3_w1
  clear st1 hg
  obtain ⟨p0_w2, ⟨a0_w2, a1_w2, a2_w2, a3_w2, a4_w2⟩, ⟨b0_w2, b1_w2, b2_w2, b3_w2, b4_w2⟩, ⟨c0_w2, c1_w2, c2_w2, c3_w2, c4_w2⟩, e0_w2, fc_w2, fe_w2, z_w2, hb_w2⟩ := st2.out; (have y0_w2 : w.heap.size < w2.heap.size := by omega); (have y1_w2 : w.heap.size + 1 < w2.heap.size := by omega); (have y2_w2 : w.heap.size + 1 + 1 < w2.heap.size := by omega); (have y3_w2 : w.heap.size + 1 + 1 + 1 < w2.heap.size := by omega)
  go_wp2
  simp [bodyPostD, Leaves, settle, results, Try.results24, go_sem, *]
  exact arr_zero _ (by (repeat (first | with_reducible exact Below.refl _ _ | with_reducible assumption | (with_reducible refine bl_set ?_ (by simp; try omega) _) | (with_reducible refine bl_alloc ?_ _) | (with_reducible refine bl_dn ?_ _) | (with_reducible refine bl_drew ?_) | (with_reducible refine bl_then ?_ (by with_reducible assumption)))))
set_option maxRecDepth 100000 in
theorem two_kind (p : Int) (a b : Arr) (A B : Option Addr) (c d : Nat) (hla : a.xs.length ≤ 9223372036854775807) (f0a : Fits a.l0) (f1a : Fits a.l1) (hlb : b.xs.length ≤ 9223372036854775807) (f0b : Fits b.l0) (f1b : Fits b.l1) (h : arity p = (2, 0)) (h2 : chk2 a b = 0) (h3 : kindsOk p a b = false) (w : World) (hsa : Sl w A a.xs) (hsb : Sl w B b.xs) :
    Calls Try.prog 24 #[.int .i64 p, .agg #[.int .i64 a.k, .int .i64 a.r, .int .i64 a.l0, .int .i64 a.l1, .slice A a.xs.length c], .agg #[.int .i64 b.k, .int .i64 b.r, .int .i64 b.l0, .int .i64 b.l1, .slice B b.xs.length d]] w fun e w' => ArrRet w (21, .zero) e w' := by
  have H := hide h
  have H2 := hide h2
  have H3 := hide h3
  clear h h2 h3
  have hmf : ∀ (fn : Fn) (first cap : Array Value) (w : World), (Instr.makeFunc fn first cap).run Try.prog w = .ok (.func fn first cap) w := fun _ _ _ _ => rfl
  go_enter_defers Try.func24, Try.ntmps24
  go_wp2_with fail
  have st0 : Hid (TwoSt w (((((w.alloc (.cells #[.int .i64 p] 3)).alloc (.cells #[.int .i64 a.k, .int .i64 a.r, .int .i64 a.l0, .int .i64 a.l1, .slice A a.xs.length c] 25)).alloc (.cells #[.int .i64 b.k, .int .i64 b.r, .int .i64 b.l0, .int .i64 b.l1, .slice B b.xs.length d] 25)).alloc
      (.cells #[.int .i64 0, .int .i64 0, .int .i64 0, .int .i64 0, .slice none 0 0] 25)).alloc (.cells #[.int .i64 0] 28)) p a b A B c d) := by
    refine ⟨by simp [go_sem], ⟨by simp [go_sem], by simp [go_sem], by simp [go_sem], by simp [go_sem], by simp [go_sem]⟩, ⟨by simp [go_sem], by simp [go_sem], by simp [go_sem], by simp [go_sem], by simp [go_sem]⟩, ⟨by simp [go_sem], by simp [go_sem], by simp [go_sem], by simp [go_sem], by simp [go_sem]⟩, by simp [go_sem], fun i => by simp [go_sem], by simp [go_sem], by simp, by (repeat (first | with_reducible exact Below.refl _ _ | with_reducible assumption | (with_reducible refine bl_set ?_ (by simp; try omega) _) | (with_reducible refine bl_alloc ?_ _) | (with_reducible refine bl_dn ?_ _) | (with_reducible refine bl_drew ?_) | (with_reducible refine bl_then ?_ (by with_reducible assumption))))⟩
  refine (arity_any p _).mono ?_
  rw [H.out]
  rintro e w1 ⟨rfl, hg⟩
  have st1 := hide (st0.out.below hg)
  obtain ⟨p0_w1, ⟨a0_w1, a1_w1, a2_w1, a3_w1, a4_w1⟩, ⟨b0_w1, b1_w1, b2_w1, b3_w1, b4_w1⟩, ⟨c0_w1, c1_w1, c2_w1, c3_w1, c4_w1⟩, e0_w1, fc_w1, fe_w1, z_w1, hb_w1⟩ := st1.out; (have y0_w1 : w.heap.size < w1.heap.size := by omega); (have y1_w1 : w.heap.size + 1 < w1.heap.size := by omega); (have y2_w1 : w.heap.size + 1 + 1 < w1.heap.size := by omega); (have y3_w1 : w.heap.size + 1 + 1 + 1 < w1.heap.size := by omega)
  clear hg st0
  go_wp2_with fail
  refine (check2_any a A c hla f0a f1a b B d hlb f0b f1b _ (hsa.below (by (repeat (first | with_reducible exact Below.refl _ _ | with_reducible assumption | (with_reducible refine bl_set ?_ (by simp; try omega) _) | (with_reducible refine bl_alloc ?_ _) | (with_reducible refine bl_dn ?_ _) | (with_reducible refine bl_drew ?_) | (with_reducible refine bl_then ?_ (by with_reducible assumption)))))) (hsb.below (by (repeat (first | with_reducible exact Below.refl _ _ | with_reducible assumption | (with_reducible refine bl_set ?_ (by simp; try omega) _) | (with_reducible refine bl_alloc ?_ _) | (with_reducible refine bl_dn ?_ _) | (with_reducible refine bl_drew ?_) | (with_reducible refine bl_then ?_ (by with_reducible assumption))))))).mono ?_
  rw [H2.out]
  rintro e w2 ⟨rfl, hg⟩
  have st2 := hide (st1.out.below hg)
  clear p0_w1 a0_w1 a1_w1 a2_w1 a3_w1 a4_w1 b0_w1 b1_w1 b2_w1 b3_w1 b4_w1 c0_w1 c1_w1 c2_w1 c3_w1 c4_w1 e0_w1 fc_w1 fe_w1 z_w1 hb_w1 y0_w1 y1_w1 y2_w1 y3_w1
  clear st1 hg
  obtain ⟨p0_w2, ⟨a0_w2, a1_w2, a2_w2, a3_w2, a4_w2⟩, ⟨b0_w2, b1_w2, b2_w2, b3_w2, b4_w2⟩, ⟨c0_w2, c1_w2, c2_w2, c3_w2, c4_w2⟩, e0_w2, fc_w2, fe_w2, z_w2, hb_w2⟩ := st2.out; (have y0_w2 : w.heap.size < w2.heap.size := by omega); (have y1_w2 : w.heap.size + 1 < w2.heap.size := by omega); (have y2_w2 : w.heap.size + 1 + 1 < w2.heap.size := by omega); (have y3_w2 : w.heap.size + 1 + 1 + 1 < w2.heap.size := by omega)
  go_upto_region 7 with fail
  go_cut [11] from 18 (fun s11 wx => s11 = .bool (kb p a b) ∧ Below w2.heap.size w2 wx)
  case first =>
    cases hk : (a.k == b.k)
    · have HK : Hid (kb p a b = false) := by show _ = _; unfold kb; rw [hk]; rfl
      go_wp2_with fail
      go_meet
      exact ⟨by rw [HK.out], by (repeat (first | with_reducible exact Below.refl _ _ | with_reducible assumption | (with_reducible refine bl_set ?_ (by simp; try omega) _) | (with_reducible refine bl_alloc ?_ _) | (with_reducible refine bl_dn ?_ _) | (with_reducible refine bl_drew ?_) | (with_reducible refine bl_then ?_ (by with_reducible assumption))))⟩
    · have HK : Hid (kb p a b = isEq p) := by show _ = _; unfold kb; rw [hk]; rfl
      go_wp2_with (go_at_call 66; refine (contains_eq p _ _ (by simp [go_sem]) (by simp [go_sem])).mono ?_; rintro e w' ⟨rfl, rfl⟩)
      go_meet
      exact ⟨by rw [HK.out], by (repeat (first | with_reducible exact Below.refl _ _ | with_reducible assumption | (with_reducible refine bl_set ?_ (by simp; try omega) _) | (with_reducible refine bl_alloc ?_ _) | (with_reducible refine bl_dn ?_ _) | (with_reducible refine bl_drew ?_) | (with_reducible refine bl_then ?_ (by with_reducible assumption))))⟩
  case rest =>
    obtain ⟨rfl, hg⟩ := hcut
    obtain ⟨w3, rfl⟩ : ∃ w3 : World, w3 = wc := ⟨_, rfl⟩
    have st3 := hide (st2.out.below hg)
    clear p0_w2 a0_w2 a1_w2 a2_w2 a3_w2 a4_w2 b0_w2 b1_w2 b2_w2 b3_w2 b4_w2 c0_w2 c1_w2 c2_w2 c3_w2 c4_w2 e0_w2 fc_w2 fe_w2 z_w2 hb_w2 y0_w2 y1_w2 y2_w2 y3_w2
    clear st2 hg
    obtain ⟨p0_w3, ⟨a0_w3, a1_w3, a2_w3, a3_w3, a4_w3⟩, ⟨b0_w3, b1_w3, b2_w3, b3_w3, b4_w3⟩, ⟨c0_w3, c1_w3, c2_w3, c3_w3, c4_w3⟩, e0_w3, fc_w3, fe_w3, z_w3, hb_w3⟩ := st3.out; (have y0_w3 : w.heap.size < w3.heap.size := by omega); (have y1_w3 : w.heap.size + 1 < w3.heap.size := by omega); (have y2_w3 : w.heap.size + 1 + 1 < w3.heap.size := by omega); (have y3_w3 : w.heap.size + 1 + 1 + 1 < w3.heap.size := by omega)
    go_upto_region 8 with fail
    have KZ : Hid (kz p a b = true) := by show _ = _; rw [kz_eq, H3.out]; rfl
    go_cut [11, 58] from 18 (fun _ s58 wx => s58 = .bool true ∧ w3 = wx)
    case first =>
      cases hk : kb p a b
      · cases hk1 : (a.k != 1)
        · have HK : Hid (kz p a b = (b.k != 1)) := by show _ = _; unfold kz; rw [hk, hk1]; rfl
          go_wp2_with fail
          go_meet
          exact ⟨by rw [← KZ.out, HK.out], rfl⟩
        · have HK : Hid (kz p a b = true) := by show _ = _; unfold kz; rw [hk, hk1]; rfl
          go_wp2_with fail
          go_meet
          exact ⟨by rw [← KZ.out, HK.out], rfl⟩
      · have HK : Hid (kz p a b = false) := by show _ = _; unfold kz; rw [hk]; rfl
        go_wp2_with fail
        go_meet
        exact ⟨by rw [← KZ.out, HK.out], rfl⟩
    case rest =>
      obtain ⟨rfl, rfl⟩ := hcut
      go_wp2
      simp [bodyPostD, Leaves, settle, results, Try.results24, go_sem, *]
      exact arr_zero _ (by (repeat (first | with_reducible exact Below.refl _ _ | with_reducible assumption | (with_reducible refine bl_set ?_ (by simp; try omega) _) | (with_reducible refine bl_alloc ?_ _) | (with_reducible refine bl_dn ?_ _) | (with_reducible refine bl_drew ?_) | (with_reducible refine bl_then ?_ (by with_reducible assumption)))))
set_option maxRecDepth 100000 in
theorem two_lens (p : Int) (a b : Arr) (A B : Option Addr) (c d : Nat) (hla : a.xs.length ≤ 9223372036854775807) (f0a : Fits a.l0) (f1a : Fits a.l1) (hlb : b.xs.length ≤ 9223372036854775807) (f0b : Fits b.l0) (f1b : Fits b.l1) (h : arity p = (2, 0)) (h2 : chk2 a b = 0) (h3 : kindsOk p a b = true) (er r l0 l1 : Int) (h4 : extLens a b = (er, r, l0, l1)) (h5 : er ≠ 0) (w : World) (hsa : Sl w A a.xs) (hsb : Sl w B b.xs) :
    Calls Try.prog 24 #[.int .i64 p, .agg #[.int .i64 a.k, .int .i64 a.r, .int .i64 a.l0, .int .i64 a.l1, .slice A a.xs.length c], .agg #[.int .i64 b.k, .int .i64 b.r, .int .i64 b.l0, .int .i64 b.l1, .slice B b.xs.length d]] w fun e w' => ArrRet w (er, .zero) e w' := by
  have H := hide h
  have H2 := hide h2
  have H3 := hide h3
  have H4 := hide h4
  have n1 : (er != 0) = true := by simpa using h5
  clear h h2 h3 h4 h5
  have hmf : ∀ (fn : Fn) (first cap : Array Value) (w : World), (Instr.makeFunc fn first cap).run Try.prog w = .ok (.func fn first cap) w := fun _ _ _ _ => rfl
  go_enter_defers Try.func24, Try.ntmps24
  go_wp2_with fail
  have st0 : Hid (TwoSt w (((((w.alloc (.cells #[.int .i64 p] 3)).alloc (.cells #[.int .i64 a.k, .int .i64 a.r, .int .i64 a.l0, .int .i64 a.l1, .slice A a.xs.length c] 25)).alloc (.cells #[.int .i64 b.k, .int .i64 b.r, .int .i64 b.l0, .int .i64 b.l1, .slice B b.xs.length d] 25)).alloc
      (.cells #[.int .i64 0, .int .i64 0, .int .i64 0, .int .i64 0, .slice none 0 0] 25)).alloc (.cells #[.int .i64 0] 28)) p a b A B c d) := by
    refine ⟨by simp [go_sem], ⟨by simp [go_sem], by simp [go_sem], by simp [go_sem], by simp [go_sem], by simp [go_sem]⟩, ⟨by simp [go_sem], by simp [go_sem], by simp [go_sem], by simp [go_sem], by simp [go_sem]⟩, ⟨by simp [go_sem], by simp [go_sem], by simp [go_sem], by simp [go_sem], by simp [go_sem]⟩, by simp [go_sem], fun i => by simp [go_sem], by simp [go_sem], by simp, by (repeat (first | with_reducible exact Below.refl _ _ | with_reducible assumption | (with_reducible refine bl_set ?_ (by simp; try omega) _) | (with_reducible refine bl_alloc ?_ _) | (with_reducible refine bl_dn ?_ _) | (with_reducible refine bl_drew ?_) | (with_reducible refine bl_then ?_ (by with_reducible assumption))))⟩
  refine (arity_any p _).mono ?_
  rw [H.out]
  rintro e w1 ⟨rfl, hg⟩
  have st1 := hide (st0.out.below hg)
  obtain ⟨p0_w1, ⟨a0_w1, a1_w1, a2_w1, a3_w1, a4_w1⟩, ⟨b0_w1, b1_w1, b2_w1, b3_w1, b4_w1⟩, ⟨c0_w1, c1_w1, c2_w1, c3_w1, c4_w1⟩, e0_w1, fc_w1, fe_w1, z_w1, hb_w1⟩ := st1.out; (have y0_w1 : w.heap.size < w1.heap.size := by omega); (have y1_w1 : w.heap.size + 1 < w1.heap.size := by omega); (have y2_w1 : w.heap.size + 1 + 1 < w1.heap.size := by omega); (have y3_w1 : w.heap.size + 1 + 1 + 1 < w1.heap.size := by omega)
  clear hg st0
  go_wp2_with fail
  refine (check2_any a A c hla f0a f1a b B d hlb f0b f1b _ (hsa.below (by (repeat (first | with_reducible exact Below.refl _ _ | with_reducible assumption | (with_reducible refine bl_set ?_ (by simp; try omega) _) | (with_reducible refine bl_alloc ?_ _) | (with_reducible refine bl_dn ?_ _) | (with_reducible refine bl_drew ?_) | (with_reducible refine bl_then ?_ (by with_reducible assumption)))))) (hsb.below (by (repeat (first | with_reducible exact Below.refl _ _ | with_reducible assumption | (with_reducible refine bl_set ?_ (by simp; try omega) _) | (with_reducible refine bl_alloc ?_ _) | (with_reducible refine bl_dn ?_ _) | (with_reducible refine bl_drew ?_) | (with_reducible refine bl_then ?_ (by with_reducible assumption))))))).mono ?_
  rw [H2.out]
  rintro e w2 ⟨rfl, hg⟩
  have st2 := hide (st1.out.below hg)
  clear p0_w1 a0_w1 a1_w1 a2_w1 a3_w1 a4_w1 b0_w1 b1_w1 b2_w1 b3_w1 b4_w1 c0_w1 c1_w1 c2_w1 c3_w1 c4_w1 e0_w1 fc_w1 fe_w1 z_w1 hb_w1 y0_w1 y1_w1 y2_w1 y3_w1
  clear st1 hg
  obtain ⟨p0_w2, ⟨a0_w2, a1_w2, a2_w2, a3_w2, a4_w2⟩, ⟨b0_w2, b1_w2, b2_w2, b3_w2, b4_w2⟩, ⟨c0_w2, c1_w2, c2_w2, c3_w2, c4_w2⟩, e0_w2, fc_w2, fe_w2, z_w2, hb_w2⟩ := st2.out; (have y0_w2 : w.heap.size < w2.heap.size := by omega); (have y1_w2 : w.heap.size + 1 < w2.heap.size := by omega); (have y2_w2 : w.heap.size + 1 + 1 < w2.heap.size := by omega); (have y3_w2 : w.heap.size + 1 + 1 + 1 < w2.heap.size := by omega)
  go_upto_region 7 with fail
  go_cut [11] from 18 (fun s11 wx => s11 = .bool (kb p a b) ∧ Below w2.heap.size w2 wx)
  case first =>
    cases hk : (a.k == b.k)
    · have HK : Hid (kb p a b = false) := by show _ = _; unfold kb; rw [hk]; rfl
      go_wp2_with fail
      go_meet
      exact ⟨by rw [HK.out], by (repeat (first | with_reducible exact Below.refl _ _ | with_reducible assumption | (with_reducible refine bl_set ?_ (by simp; try omega) _) | (with_reducible refine bl_alloc ?_ _) | (with_reducible refine bl_dn ?_ _) | (with_reducible refine bl_drew ?_) | (with_reducible refine bl_then ?_ (by with_reducible assumption))))⟩
    · have HK : Hid (kb p a b = isEq p) := by show _ = _; unfold kb; rw [hk]; rfl
      go_wp2_with (go_at_call 66; refine (contains_eq p _ _ (by simp [go_sem]) (by simp [go_sem])).mono ?_; rintro e w' ⟨rfl, rfl⟩)
      go_meet
      exact ⟨by rw [HK.out], by (repeat (first | with_reducible exact Below.refl _ _ | with_reducible assumption | (with_reducible refine bl_set ?_ (by simp; try omega) _) | (with_reducible refine bl_alloc ?_ _) | (with_reducible refine bl_dn ?_ _) | (with_reducible refine bl_drew ?_) | (with_reducible refine bl_then ?_ (by with_reducible assumption))))⟩
  case rest =>
    obtain ⟨rfl, hg⟩ := hcut
    obtain ⟨w3, rfl⟩ : ∃ w3 : World, w3 = wc := ⟨_, rfl⟩
    have st3 := hide (st2.out.below hg)
    clear p0_w2 a0_w2 a1_w2 a2_w2 a3_w2 a4_w2 b0_w2 b1_w2 b2_w2 b3_w2 b4_w2 c0_w2 c1_w2 c2_w2 c3_w2 c4_w2 e0_w2 fc_w2 fe_w2 z_w2 hb_w2 y0_w2 y1_w2 y2_w2 y3_w2
    clear st2 hg
    obtain ⟨p0_w3, ⟨a0_w3, a1_w3, a2_w3, a3_w3, a4_w3⟩, ⟨b0_w3, b1_w3, b2_w3, b3_w3, b4_w3⟩, ⟨c0_w3, c1_w3, c2_w3, c3_w3, c4_w3⟩, e0_w3, fc_w3, fe_w3, z_w3, hb_w3⟩ := st3.out; (have y0_w3 : w.heap.size < w3.heap.size := by omega); (have y1_w3 : w.heap.size + 1 < w3.heap.size := by omega); (have y2_w3 : w.heap.size + 1 + 1 < w3.heap.size := by omega); (have y3_w3 : w.heap.size + 1 + 1 + 1 < w3.heap.size := by omega)
    go_upto_region 8 with fail
    have KZ : Hid (kz p a b = false) := by show _ = _; rw [kz_eq, H3.out]; rfl
    go_cut [11, 58] from 18 (fun _ s58 wx => s58 = .bool false ∧ w3 = wx)
    case first =>
      cases hk : kb p a b
      · cases hk1 : (a.k != 1)
        · have HK : Hid (kz p a b = (b.k != 1)) := by show _ = _; unfold kz; rw [hk, hk1]; rfl
          go_wp2_with fail
          go_meet
          exact ⟨by rw [← KZ.out, HK.out], rfl⟩
        · have HK : Hid (kz p a b = true) := by show _ = _; unfold kz; rw [hk, hk1]; rfl
          go_wp2_with fail
          go_meet
          exact ⟨by rw [← KZ.out, HK.out], rfl⟩
      · have HK : Hid (kz p a b = false) := by show _ = _; unfold kz; rw [hk]; rfl
        go_wp2_with fail
        go_meet
        exact ⟨by rw [← KZ.out, HK.out], rfl⟩
    case rest =>
      obtain ⟨rfl, rfl⟩ := hcut
      go_wp2_with fail
      refine (lens_any a A c hla f0a f1a b B d hlb f0b f1b _ (hsa.below (by (repeat (first | with_reducible exact Below.refl _ _ | with_reducible assumption | (with_reducible refine bl_set ?_ (by simp; try omega) _) | (with_reducible refine bl_alloc ?_ _) | (with_reducible refine bl_dn ?_ _) | (with_reducible refine bl_drew ?_) | (with_reducible refine bl_then ?_ (by with_reducible assumption)))))) (hsb.below (by (repeat (first | with_reducible exact Below.refl _ _ | with_reducible assumption | (with_reducible refine bl_set ?_ (by simp; try omega) _) | (with_reducible refine bl_alloc ?_ _) | (with_reducible refine bl_dn ?_ _) | (with_reducible refine bl_drew ?_) | (with_reducible refine bl_then ?_ (by with_reducible assumption))))))).mono ?_
      rw [H4.out]
      rintro e w5 ⟨rfl, hg⟩
      have st5 := hide (st3.out.below hg)
      have hw : Below w.heap.size w w5 := bl_then hb_w3 hg
      clear p0_w3 a0_w3 a1_w3 a2_w3 a3_w3 a4_w3 b0_w3 b1_w3 b2_w3 b3_w3 b4_w3 c0_w3 c1_w3 c2_w3 c3_w3 c4_w3 e0_w3 fc_w3 fe_w3 z_w3 hb_w3 y0_w3 y1_w3 y2_w3 y3_w3
      clear st3 hg
      obtain ⟨p0_w5, ⟨a0_w5, a1_w5, a2_w5, a3_w5, a4_w5⟩, ⟨b0_w5, b1_w5, b2_w5, b3_w5, b4_w5⟩, ⟨c0_w5, c1_w5, c2_w5, c3_w5, c4_w5⟩, e0_w5, fc_w5, fe_w5, z_w5, hb_w5⟩ := st5.out; (have y0_w5 : w.heap.size < w5.heap.size := by omega); (have y1_w5 : w.heap.size + 1 < w5.heap.size := by omega); (have y2_w5 : w.heap.size + 1 + 1 < w5.heap.size := by omega); (have y3_w5 : w.heap.size + 1 + 1 + 1 < w5.heap.size := by omega)
      go_wp2
      simp [bodyPostD, Leaves, settle, results, Try.results24, go_sem, *]
      exact arr_zero _ (by (repeat (first | with_reducible exact Below.refl _ _ | with_reducible assumption | (with_reducible refine bl_set ?_ (by simp; try omega) _) | (with_reducible refine bl_alloc ?_ _) | (with_reducible refine bl_dn ?_ _) | (with_reducible refine bl_drew ?_) | (with_reducible refine bl_then ?_ (by with_reducible assumption)))))
end Ar
end Go.Proofs.Ytfpnafeildigaaa
