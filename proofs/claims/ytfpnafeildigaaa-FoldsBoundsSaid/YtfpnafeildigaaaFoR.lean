/-
The walks of FoldsSums and FoldsEnds (chapter 11).
-/
import Derived.Test.YtfpnafeildigaaaFoQ
import Derived.Deep.DeepCutAuto
set_option linter.unusedSimpArgs false
set_option linter.unusedVariables false
namespace Go.Proofs.Ytfpnafeildigaaa
namespace Ar
open Go.RowKit Sc
theorem mapG_len_le {α β : Type} (f : α → β × Int) (l : List α) : (mapG f l).2.length ≤ l.length := by
  by_cases h : (mapG f l).1 = 0
  · rw [mapG_map f l h, List.length_map]; exact Nat.le_refl _
  · rw [mapG_bad f l h]; exact Nat.zero_le _
theorem extFold_len (ints : Bool) (f : List Int → Int × Int) (a : Arr) : (extFold ints f a).2.xs.length ≤ 400 := by
  by_cases h : chkF ints a = 0
  · by_cases h2 : (mapG f (rowsL a)).1 = 0
    · rw [extFold_ok (ys := (mapG f (rowsL a)).2) h (Prod.ext h2 rfl)]
      show (foldR a _).xs.length ≤ 400
      rw [foldR_xs]
      have := mapG_len_le f (rowsL a)
      obtain ⟨hk, _, hr⟩ := chkF_ok h
      obtain ⟨m, n, _, _, hm, _, e⟩ := rowsL_nat hk hr
      rw [e, List.length_map, List.length_range] at this
      rw [e]; omega
    · rw [extFold_err h h2]; exact Nat.zero_le _
  · rw [extFold_bad h]; exact Nat.zero_le _
theorem extScan_len (a : Arr) : (extScan a).2.xs.length ≤ 160000 := by
  by_cases h : chkF true a = 0
  · by_cases h2 : (mapG scanRow (rowsL a)).1 = 0
    · have hm : mapG scanRow (rowsL a) = (0, (mapG scanRow (rowsL a)).2) := Prod.ext h2 rfl
      rw [extScan_ok h hm]
      obtain ⟨hk, _, hr⟩ := chkF_ok h
      obtain ⟨h3, h4⟩ := scan_rows hk hr hm
      show (mapG scanRow (rowsL a)).2.flatten.length ≤ _
      have := flat_len h4
      have := Nat.mul_le_mul_right 400 h3
      omega
    · rw [extScan_err h h2]; exact Nat.zero_le _
  · rw [extScan_bad h]; exact Nat.zero_le _
set_option maxRecDepth 100000 in
set_option maxHeartbeats 4000000 in
theorem sums_walk (a : Arr) (A : Option Addr) (c : Nat) (f0 : Fits a.l0) (f1 : Fits a.l1) (hx : ∀ x ∈ a.xs, Fits x) (hcA : a.xs.length ≤ c) (w : World) (hs : Sl w A a.xs) :
    Calls Try.prog 11 #[.agg #[.int .i64 a.k, .int .i64 a.r, .int .i64 a.l0, .int .i64 a.l1, .slice A a.xs.length c]] w fun e w' => e = .returned (.bool true) ∧ Below w.heap.size w w' := by
  have HX := hide hx
  have HC := hide hcA
  clear hx hcA
  go_enter Try.func11, Try.ntmps11
  go_wp2_with fail
  have st0 := hide ((St.init w).box c hs)
  obtain ⟨hbw, ⟨⟨a0, a1, a2, a3, a4⟩, sa, za⟩, _⟩ := st0.out
  go_wp2_with fail
  refine (far_any a A c _).mono ?_
  cases hFa : decide (405 < (a.xs.length : Int))
  rotate_left
  · rintro e w98 ⟨rfl, hg98⟩
    have st98 := hide (st0.out.below hg98)
    clear hbw; clear a0 a1 a2 a3 a4 sa za
    obtain ⟨hbw, ⟨⟨a0, a1, a2, a3, a4⟩, sa, za⟩, _⟩ := st98.out
    (go_wp2_with fail; refine (awake11 _).mono ?_; rintro e w99 ⟨rfl, hg99⟩; go_wp2; go_ret; exact ⟨rfl, by (repeat (first | with_reducible exact Below.refl _ _ | with_reducible assumption | (with_reducible refine bl_set ?_ (by simp; try omega) _) | (with_reducible refine bl_alloc ?_ _) | (with_reducible refine bl_dn ?_ _) | (with_reducible refine bl_drew ?_) | (with_reducible refine bl_then ?_ (by with_reducible assumption))))⟩)
  have hFa := hide hFa
  rintro e w1 ⟨rfl, hg1⟩
  have st1 := hide (st0.out.below hg1)
  clear hbw st0 hg1; clear a0 a1 a2 a3 a4 sa za
  have HA : Hid (Fine a) := ⟨by have := decide_eq_false_iff_not.1 hFa.out; omega, f0, f1, HX.out⟩
  obtain ⟨er, R, hR⟩ : ∃ er R, extSum a = (er, R) := ⟨_, _, rfl⟩
  obtain ⟨es, U, hU⟩ : ∃ er R, extScan a = (er, R) := ⟨_, _, rfl⟩
  have LR : R.xs.length ≤ 9223372036854775807 := by have := extFold_len true sumRow a; rw [show extFold true sumRow a = (er, R) from hR] at this; exact Nat.le_trans this (by decide)
  have LU : U.xs.length ≤ 9223372036854775807 := by have := extScan_len a; rw [hU] at this; exact Nat.le_trans this (by decide)
  have HR := hide hR; have HU := hide hU
  clear hR hU hFa HX hs f0 f1
  obtain ⟨hbw, ⟨⟨a0, a1, a2, a3, a4⟩, sa, za⟩, _⟩ := st1.out
  go_wp2_with fail
  refine (fsum_go a _ HA HC HR _ (sa.below (by (repeat (first | with_reducible exact Below.refl _ _ | with_reducible assumption | (with_reducible refine bl_set ?_ (by simp; try omega) _) | (with_reducible refine bl_alloc ?_ _) | (with_reducible refine bl_dn ?_ _) | (with_reducible refine bl_drew ?_) | (with_reducible refine bl_then ?_ (by with_reducible assumption))))))).mono ?_
  rintro e v2 ⟨hgv2, Cv2, cv2, rfl, hsv2, hgev2, hcpv2⟩
  clear a0 a1 a2 a3 a4 sa za
  have st2x := hide (st1.out.below hgv2)
  clear hbw hgv2 hgev2 st1
  go_upto_region 4 with fail
  have st2 := hide (st2x.out.box cv2 hsv2 25)
  change Code.wp _ _ _ _ (v2.alloc (.cells #[.int .i64 R.k, .int .i64 R.r, .int .i64 R.l0, .int .i64 R.l1, .slice Cv2 R.xs.length cv2] 25))
  generalize (v2.alloc (.cells #[.int .i64 R.k, .int .i64 R.r, .int .i64 R.l0, .int .i64 R.l1, .slice Cv2 R.xs.length cv2] 25)) = w2 at *
  generalize v2.heap.size = P2 at *
  clear st2x
  obtain ⟨hbw, _, ⟨⟨a0, a1, a2, a3, a4⟩, sa, za⟩, _⟩ := st2.out
  go_wp2_with fail
  refine (rsum_go a _ HA HC HR _ (sa.below (by (repeat (first | with_reducible exact Below.refl _ _ | with_reducible assumption | (with_reducible refine bl_set ?_ (by simp; try omega) _) | (with_reducible refine bl_alloc ?_ _) | (with_reducible refine bl_dn ?_ _) | (with_reducible refine bl_drew ?_) | (with_reducible refine bl_then ?_ (by with_reducible assumption))))))).mono ?_
  rintro e v3 ⟨hgv3, Cv3, cv3, rfl, hsv3, hgev3, hcpv3⟩
  clear a0 a1 a2 a3 a4 sa za
  have st3x := hide (st2.out.below hgv3)
  clear hbw hgv3 hgev3 st2
  go_upto_region 5 with fail
  have st3 := hide (st3x.out.box cv3 hsv3 25)
  change Code.wp _ _ _ _ (v3.alloc (.cells #[.int .i64 R.k, .int .i64 R.r, .int .i64 R.l0, .int .i64 R.l1, .slice Cv3 R.xs.length cv3] 25))
  generalize (v3.alloc (.cells #[.int .i64 R.k, .int .i64 R.r, .int .i64 R.l0, .int .i64 R.l1, .slice Cv3 R.xs.length cv3] 25)) = w3 at *
  generalize v3.heap.size = P3 at *
  clear st3x
  obtain ⟨hbw, _, _, ⟨⟨a0, a1, a2, a3, a4⟩, sa, za⟩, _⟩ := st3.out
  go_wp2_with fail
  refine (fscan_go a _ HA HC HU _ (sa.below (by (repeat (first | with_reducible exact Below.refl _ _ | with_reducible assumption | (with_reducible refine bl_set ?_ (by simp; try omega) _) | (with_reducible refine bl_alloc ?_ _) | (with_reducible refine bl_dn ?_ _) | (with_reducible refine bl_drew ?_) | (with_reducible refine bl_then ?_ (by with_reducible assumption))))))).mono ?_
  rintro e v4 ⟨hgv4, Cv4, cv4, rfl, hsv4, hgev4, hcpv4⟩
  clear a0 a1 a2 a3 a4 sa za
  have st4x := hide (st3.out.below hgv4)
  clear hbw hgv4 hgev4 st3
  go_upto_region 6 with fail
  have st4 := hide (st4x.out.box cv4 hsv4 25)
  change Code.wp _ _ _ _ (v4.alloc (.cells #[.int .i64 U.k, .int .i64 U.r, .int .i64 U.l0, .int .i64 U.l1, .slice Cv4 U.xs.length cv4] 25))
  generalize (v4.alloc (.cells #[.int .i64 U.k, .int .i64 U.r, .int .i64 U.l0, .int .i64 U.l1, .slice Cv4 U.xs.length cv4] 25)) = w4 at *
  generalize v4.heap.size = P4 at *
  clear st4x
  obtain ⟨hbw, _, _, _, ⟨⟨a0, a1, a2, a3, a4⟩, sa, za⟩, _⟩ := st4.out
  go_wp2_with fail
  refine (rscan_go a _ HA HC HU _ (sa.below (by (repeat (first | with_reducible exact Below.refl _ _ | with_reducible assumption | (with_reducible refine bl_set ?_ (by simp; try omega) _) | (with_reducible refine bl_alloc ?_ _) | (with_reducible refine bl_dn ?_ _) | (with_reducible refine bl_drew ?_) | (with_reducible refine bl_then ?_ (by with_reducible assumption))))))).mono ?_
  rintro e v5 ⟨hgv5, Cv5, cv5, rfl, hsv5, hgev5, hcpv5⟩
  clear a0 a1 a2 a3 a4 sa za
  have st5x := hide (st4.out.below hgv5)
  clear hbw hgv5 hgev5 st4
  go_upto_region 7 with fail
  have st5 := hide (st5x.out.box cv5 hsv5 25)
  change Code.wp _ _ _ _ (v5.alloc (.cells #[.int .i64 U.k, .int .i64 U.r, .int .i64 U.l0, .int .i64 U.l1, .slice Cv5 U.xs.length cv5] 25))
  generalize (v5.alloc (.cells #[.int .i64 U.k, .int .i64 U.r, .int .i64 U.l0, .int .i64 U.l1, .slice Cv5 U.xs.length cv5] 25)) = w5 at *
  generalize v5.heap.size = P5 at *
  clear st5x
  obtain ⟨hbw, _, _, ⟨⟨y0, y1, y2, y3, y4⟩, sy, zy⟩, ⟨⟨x0, x1, x2, x3, x4⟩, sx, zx⟩, _⟩ := st5.out
  go_wp2_with fail
  refine (alike_any R R _ _ _ _ er er LR LR _ (sx.below (by (repeat (first | with_reducible exact Below.refl _ _ | with_reducible assumption | (with_reducible refine bl_set ?_ (by simp; try omega) _) | (with_reducible refine bl_alloc ?_ _) | (with_reducible refine bl_dn ?_ _) | (with_reducible refine bl_drew ?_) | (with_reducible refine bl_then ?_ (by with_reducible assumption)))))) (sy.below (by (repeat (first | with_reducible exact Below.refl _ _ | with_reducible assumption | (with_reducible refine bl_set ?_ (by simp; try omega) _) | (with_reducible refine bl_alloc ?_ _) | (with_reducible refine bl_dn ?_ _) | (with_reducible refine bl_drew ?_) | (with_reducible refine bl_then ?_ (by with_reducible assumption))))))).mono ?_
  rw [same_yes]
  rintro e v6 ⟨rfl, hgv6⟩
  have st6 := hide (st5.out.below hgv6)
  clear hbw; clear x0 x1 x2 x3 x4 sx zx; clear y0 y1 y2 y3 y4 sy zy
  obtain ⟨hbw, ⟨⟨y0, y1, y2, y3, y4⟩, sy, zy⟩, ⟨⟨x0, x1, x2, x3, x4⟩, sx, zx⟩, _⟩ := st6.out
  go_wp2_with fail
  refine (alike_any U U _ _ _ _ es es LU LU _ (sx.below (by (repeat (first | with_reducible exact Below.refl _ _ | with_reducible assumption | (with_reducible refine bl_set ?_ (by simp; try omega) _) | (with_reducible refine bl_alloc ?_ _) | (with_reducible refine bl_dn ?_ _) | (with_reducible refine bl_drew ?_) | (with_reducible refine bl_then ?_ (by with_reducible assumption)))))) (sy.below (by (repeat (first | with_reducible exact Below.refl _ _ | with_reducible assumption | (with_reducible refine bl_set ?_ (by simp; try omega) _) | (with_reducible refine bl_alloc ?_ _) | (with_reducible refine bl_dn ?_ _) | (with_reducible refine bl_drew ?_) | (with_reducible refine bl_then ?_ (by with_reducible assumption))))))).mono ?_
  rw [same_yes]
  rintro e v7 ⟨rfl, hgv7⟩
  (go_wp2_with fail; refine (awake11 _).mono ?_; rintro e w99 ⟨rfl, hg99⟩; go_wp2; go_ret; exact ⟨rfl, by (repeat (first | with_reducible exact Below.refl _ _ | with_reducible assumption | (with_reducible refine bl_set ?_ (by simp; try omega) _) | (with_reducible refine bl_alloc ?_ _) | (with_reducible refine bl_dn ?_ _) | (with_reducible refine bl_drew ?_) | (with_reducible refine bl_then ?_ (by with_reducible assumption))))⟩)
set_option maxRecDepth 100000 in
set_option maxHeartbeats 4000000 in
theorem ends_walk (a : Arr) (A : Option Addr) (c : Nat) (f0 : Fits a.l0) (f1 : Fits a.l1) (hx : ∀ x ∈ a.xs, Fits x) (hcA : a.xs.length ≤ c) (w : World) (hs : Sl w A a.xs) :
    Calls Try.prog 12 #[.agg #[.int .i64 a.k, .int .i64 a.r, .int .i64 a.l0, .int .i64 a.l1, .slice A a.xs.length c]] w fun e w' => e = .returned (.bool true) ∧ Below w.heap.size w w' := by
  have HX := hide hx
  have HC := hide hcA
  clear hx hcA
  go_enter Try.func12, Try.ntmps12
  go_wp2_with fail
  have st0 := hide ((St.init w).box c hs)
  obtain ⟨hbw, ⟨⟨a0, a1, a2, a3, a4⟩, sa, za⟩, _⟩ := st0.out
  go_wp2_with fail
  refine (far_any a A c _).mono ?_
  cases hFa : decide (405 < (a.xs.length : Int))
  rotate_left
  · rintro e w98 ⟨rfl, hg98⟩
    have st98 := hide (st0.out.below hg98)
    clear hbw; clear a0 a1 a2 a3 a4 sa za
    obtain ⟨hbw, ⟨⟨a0, a1, a2, a3, a4⟩, sa, za⟩, _⟩ := st98.out
    (go_wp2_with fail; refine (awake11 _).mono ?_; rintro e w99 ⟨rfl, hg99⟩; go_wp2; go_ret; exact ⟨rfl, by (repeat (first | with_reducible exact Below.refl _ _ | with_reducible assumption | (with_reducible refine bl_set ?_ (by simp; try omega) _) | (with_reducible refine bl_alloc ?_ _) | (with_reducible refine bl_dn ?_ _) | (with_reducible refine bl_drew ?_) | (with_reducible refine bl_then ?_ (by with_reducible assumption))))⟩)
  have hFa := hide hFa
  rintro e w1 ⟨rfl, hg1⟩
  have st1 := hide (st0.out.below hg1)
  clear hbw st0 hg1; clear a0 a1 a2 a3 a4 sa za
  have HA : Hid (Fine a) := ⟨by have := decide_eq_false_iff_not.1 hFa.out; omega, f0, f1, HX.out⟩
  obtain ⟨er, R, hR⟩ : ∃ er R, extEnd 31 a = (er, R) := ⟨_, _, rfl⟩
  obtain ⟨es, U, hU⟩ : ∃ er R, extEnd 32 a = (er, R) := ⟨_, _, rfl⟩
  obtain ⟨et, T, hT⟩ : ∃ er R, extCount a = (er, R) := ⟨_, _, rfl⟩
  have LR : R.xs.length ≤ 9223372036854775807 := by have := extFold_len true (endRow 31) a; rw [show extFold true (endRow 31) a = (er, R) from hR] at this; exact Nat.le_trans this (by decide)
  have LU : U.xs.length ≤ 9223372036854775807 := by have := extFold_len true (endRow 32) a; rw [show extFold true (endRow 32) a = (es, U) from hU] at this; exact Nat.le_trans this (by decide)
  have LT : T.xs.length ≤ 9223372036854775807 := by have := extFold_len false countRow a; rw [show extFold false countRow a = (et, T) from hT] at this; exact Nat.le_trans this (by decide)
  have HR := hide hR; have HU := hide hU; have HT := hide hT
  clear hR hU hT hFa HX hs f0 f1
  obtain ⟨hbw, ⟨⟨a0, a1, a2, a3, a4⟩, sa, za⟩, _⟩ := st1.out
  go_wp2_with fail
  refine (fleast_go a _ HA HC HR _ (sa.below (by (repeat (first | with_reducible exact Below.refl _ _ | with_reducible assumption | (with_reducible refine bl_set ?_ (by simp; try omega) _) | (with_reducible refine bl_alloc ?_ _) | (with_reducible refine bl_dn ?_ _) | (with_reducible refine bl_drew ?_) | (with_reducible refine bl_then ?_ (by with_reducible assumption))))))).mono ?_
  rintro e v2 ⟨hgv2, Cv2, cv2, rfl, hsv2, hgev2, hcpv2⟩
  clear a0 a1 a2 a3 a4 sa za
  have st2x := hide (st1.out.below hgv2)
  clear hbw hgv2 hgev2 st1
  go_upto_region 4 with fail
  have st2 := hide (st2x.out.box cv2 hsv2 25)
  change Code.wp _ _ _ _ (v2.alloc (.cells #[.int .i64 R.k, .int .i64 R.r, .int .i64 R.l0, .int .i64 R.l1, .slice Cv2 R.xs.length cv2] 25))
  generalize (v2.alloc (.cells #[.int .i64 R.k, .int .i64 R.r, .int .i64 R.l0, .int .i64 R.l1, .slice Cv2 R.xs.length cv2] 25)) = w2 at *
  generalize v2.heap.size = P2 at *
  clear st2x
  obtain ⟨hbw, _, ⟨⟨a0, a1, a2, a3, a4⟩, sa, za⟩, _⟩ := st2.out
  go_wp2_with fail
  refine (rleast_go a _ HA HC HR _ (sa.below (by (repeat (first | with_reducible exact Below.refl _ _ | with_reducible assumption | (with_reducible refine bl_set ?_ (by simp; try omega) _) | (with_reducible refine bl_alloc ?_ _) | (with_reducible refine bl_dn ?_ _) | (with_reducible refine bl_drew ?_) | (with_reducible refine bl_then ?_ (by with_reducible assumption))))))).mono ?_
  rintro e v3 ⟨hgv3, Cv3, cv3, rfl, hsv3, hgev3, hcpv3⟩
  clear a0 a1 a2 a3 a4 sa za
  have st3x := hide (st2.out.below hgv3)
  clear hbw hgv3 hgev3 st2
  go_upto_region 5 with fail
  have st3 := hide (st3x.out.box cv3 hsv3 25)
  change Code.wp _ _ _ _ (v3.alloc (.cells #[.int .i64 R.k, .int .i64 R.r, .int .i64 R.l0, .int .i64 R.l1, .slice Cv3 R.xs.length cv3] 25))
  generalize (v3.alloc (.cells #[.int .i64 R.k, .int .i64 R.r, .int .i64 R.l0, .int .i64 R.l1, .slice Cv3 R.xs.length cv3] 25)) = w3 at *
  generalize v3.heap.size = P3 at *
  clear st3x
  obtain ⟨hbw, _, _, ⟨⟨a0, a1, a2, a3, a4⟩, sa, za⟩, _⟩ := st3.out
  go_wp2_with fail
  refine (fmost_go a _ HA HC HU _ (sa.below (by (repeat (first | with_reducible exact Below.refl _ _ | with_reducible assumption | (with_reducible refine bl_set ?_ (by simp; try omega) _) | (with_reducible refine bl_alloc ?_ _) | (with_reducible refine bl_dn ?_ _) | (with_reducible refine bl_drew ?_) | (with_reducible refine bl_then ?_ (by with_reducible assumption))))))).mono ?_
  rintro e v4 ⟨hgv4, Cv4, cv4, rfl, hsv4, hgev4, hcpv4⟩
  clear a0 a1 a2 a3 a4 sa za
  have st4x := hide (st3.out.below hgv4)
  clear hbw hgv4 hgev4 st3
  go_upto_region 6 with fail
  have st4 := hide (st4x.out.box cv4 hsv4 25)
  change Code.wp _ _ _ _ (v4.alloc (.cells #[.int .i64 U.k, .int .i64 U.r, .int .i64 U.l0, .int .i64 U.l1, .slice Cv4 U.xs.length cv4] 25))
  generalize (v4.alloc (.cells #[.int .i64 U.k, .int .i64 U.r, .int .i64 U.l0, .int .i64 U.l1, .slice Cv4 U.xs.length cv4] 25)) = w4 at *
  generalize v4.heap.size = P4 at *
  clear st4x
  obtain ⟨hbw, _, _, _, ⟨⟨a0, a1, a2, a3, a4⟩, sa, za⟩, _⟩ := st4.out
  go_wp2_with fail
  refine (rmost_go a _ HA HC HU _ (sa.below (by (repeat (first | with_reducible exact Below.refl _ _ | with_reducible assumption | (with_reducible refine bl_set ?_ (by simp; try omega) _) | (with_reducible refine bl_alloc ?_ _) | (with_reducible refine bl_dn ?_ _) | (with_reducible refine bl_drew ?_) | (with_reducible refine bl_then ?_ (by with_reducible assumption))))))).mono ?_
  rintro e v5 ⟨hgv5, Cv5, cv5, rfl, hsv5, hgev5, hcpv5⟩
  clear a0 a1 a2 a3 a4 sa za
  have st5x := hide (st4.out.below hgv5)
  clear hbw hgv5 hgev5 st4
  go_upto_region 7 with fail
  have st5 := hide (st5x.out.box cv5 hsv5 25)
  change Code.wp _ _ _ _ (v5.alloc (.cells #[.int .i64 U.k, .int .i64 U.r, .int .i64 U.l0, .int .i64 U.l1, .slice Cv5 U.xs.length cv5] 25))
  generalize (v5.alloc (.cells #[.int .i64 U.k, .int .i64 U.r, .int .i64 U.l0, .int .i64 U.l1, .slice Cv5 U.xs.length cv5] 25)) = w5 at *
  generalize v5.heap.size = P5 at *
  clear st5x
  obtain ⟨hbw, _, _, _, _, ⟨⟨a0, a1, a2, a3, a4⟩, sa, za⟩, _⟩ := st5.out
  go_wp2_with fail
  refine (fcount_go a _ HA HC HT _ (sa.below (by (repeat (first | with_reducible exact Below.refl _ _ | with_reducible assumption | (with_reducible refine bl_set ?_ (by simp; try omega) _) | (with_reducible refine bl_alloc ?_ _) | (with_reducible refine bl_dn ?_ _) | (with_reducible refine bl_drew ?_) | (with_reducible refine bl_then ?_ (by with_reducible assumption))))))).mono ?_
  rintro e v6 ⟨hgv6, Cv6, cv6, rfl, hsv6, hgev6, hcpv6⟩
  clear a0 a1 a2 a3 a4 sa za
  have st6x := hide (st5.out.below hgv6)
  clear hbw hgv6 hgev6 st5
  go_upto_region 8 with fail
  have st6 := hide (st6x.out.box cv6 hsv6 25)
  change Code.wp _ _ _ _ (v6.alloc (.cells #[.int .i64 T.k, .int .i64 T.r, .int .i64 T.l0, .int .i64 T.l1, .slice Cv6 T.xs.length cv6] 25))
  generalize (v6.alloc (.cells #[.int .i64 T.k, .int .i64 T.r, .int .i64 T.l0, .int .i64 T.l1, .slice Cv6 T.xs.length cv6] 25)) = w6 at *
  generalize v6.heap.size = P6 at *
  clear st6x
  obtain ⟨hbw, _, _, _, _, _, ⟨⟨a0, a1, a2, a3, a4⟩, sa, za⟩, _⟩ := st6.out
  go_wp2_with fail
  refine (rcount_go a _ HA HC HT _ (sa.below (by (repeat (first | with_reducible exact Below.refl _ _ | with_reducible assumption | (with_reducible refine bl_set ?_ (by simp; try omega) _) | (with_reducible refine bl_alloc ?_ _) | (with_reducible refine bl_dn ?_ _) | (with_reducible refine bl_drew ?_) | (with_reducible refine bl_then ?_ (by with_reducible assumption))))))).mono ?_
  rintro e v7 ⟨hgv7, Cv7, cv7, rfl, hsv7, hgev7, hcpv7⟩
  clear a0 a1 a2 a3 a4 sa za
  have st7x := hide (st6.out.below hgv7)
  clear hbw hgv7 hgev7 st6
  go_upto_region 9 with fail
  have st7 := hide (st7x.out.box cv7 hsv7 25)
  change Code.wp _ _ _ _ (v7.alloc (.cells #[.int .i64 T.k, .int .i64 T.r, .int .i64 T.l0, .int .i64 T.l1, .slice Cv7 T.xs.length cv7] 25))
  generalize (v7.alloc (.cells #[.int .i64 T.k, .int .i64 T.r, .int .i64 T.l0, .int .i64 T.l1, .slice Cv7 T.xs.length cv7] 25)) = w7 at *
  generalize v7.heap.size = P7 at *
  clear st7x
  obtain ⟨hbw, _, _, _, _, ⟨⟨y0, y1, y2, y3, y4⟩, sy, zy⟩, ⟨⟨x0, x1, x2, x3, x4⟩, sx, zx⟩, _⟩ := st7.out
  go_wp2_with fail
  refine (alike_any R R _ _ _ _ er er LR LR _ (sx.below (by (repeat (first | with_reducible exact Below.refl _ _ | with_reducible assumption | (with_reducible refine bl_set ?_ (by simp; try omega) _) | (with_reducible refine bl_alloc ?_ _) | (with_reducible refine bl_dn ?_ _) | (with_reducible refine bl_drew ?_) | (with_reducible refine bl_then ?_ (by with_reducible assumption)))))) (sy.below (by (repeat (first | with_reducible exact Below.refl _ _ | with_reducible assumption | (with_reducible refine bl_set ?_ (by simp; try omega) _) | (with_reducible refine bl_alloc ?_ _) | (with_reducible refine bl_dn ?_ _) | (with_reducible refine bl_drew ?_) | (with_reducible refine bl_then ?_ (by with_reducible assumption))))))).mono ?_
  rw [same_yes]
  rintro e v8 ⟨rfl, hgv8⟩
  have st8 := hide (st7.out.below hgv8)
  clear hbw; clear x0 x1 x2 x3 x4 sx zx; clear y0 y1 y2 y3 y4 sy zy
  obtain ⟨hbw, _, _, ⟨⟨y0, y1, y2, y3, y4⟩, sy, zy⟩, ⟨⟨x0, x1, x2, x3, x4⟩, sx, zx⟩, _⟩ := st8.out
  go_wp2_with fail
  refine (alike_any U U _ _ _ _ es es LU LU _ (sx.below (by (repeat (first | with_reducible exact Below.refl _ _ | with_reducible assumption | (with_reducible refine bl_set ?_ (by simp; try omega) _) | (with_reducible refine bl_alloc ?_ _) | (with_reducible refine bl_dn ?_ _) | (with_reducible refine bl_drew ?_) | (with_reducible refine bl_then ?_ (by with_reducible assumption)))))) (sy.below (by (repeat (first | with_reducible exact Below.refl _ _ | with_reducible assumption | (with_reducible refine bl_set ?_ (by simp; try omega) _) | (with_reducible refine bl_alloc ?_ _) | (with_reducible refine bl_dn ?_ _) | (with_reducible refine bl_drew ?_) | (with_reducible refine bl_then ?_ (by with_reducible assumption))))))).mono ?_
  rw [same_yes]
  rintro e v9 ⟨rfl, hgv9⟩
  have st9 := hide (st8.out.below hgv9)
  clear hbw; clear x0 x1 x2 x3 x4 sx zx; clear y0 y1 y2 y3 y4 sy zy
  obtain ⟨hbw, ⟨⟨y0, y1, y2, y3, y4⟩, sy, zy⟩, ⟨⟨x0, x1, x2, x3, x4⟩, sx, zx⟩, _⟩ := st9.out
  go_wp2_with fail
  refine (alike_any T T _ _ _ _ et et LT LT _ (sx.below (by (repeat (first | with_reducible exact Below.refl _ _ | with_reducible assumption | (with_reducible refine bl_set ?_ (by simp; try omega) _) | (with_reducible refine bl_alloc ?_ _) | (with_reducible refine bl_dn ?_ _) | (with_reducible refine bl_drew ?_) | (with_reducible refine bl_then ?_ (by with_reducible assumption)))))) (sy.below (by (repeat (first | with_reducible exact Below.refl _ _ | with_reducible assumption | (with_reducible refine bl_set ?_ (by simp; try omega) _) | (with_reducible refine bl_alloc ?_ _) | (with_reducible refine bl_dn ?_ _) | (with_reducible refine bl_drew ?_) | (with_reducible refine bl_then ?_ (by with_reducible assumption))))))).mono ?_
  rw [same_yes]
  rintro e v10 ⟨rfl, hgv10⟩
  (go_wp2_with fail; refine (awake11 _).mono ?_; rintro e w99 ⟨rfl, hg99⟩; go_wp2; go_ret; exact ⟨rfl, by (repeat (first | with_reducible exact Below.refl _ _ | with_reducible assumption | (with_reducible refine bl_set ?_ (by simp; try omega) _) | (with_reducible refine bl_alloc ?_ _) | (with_reducible refine bl_dn ?_ _) | (with_reducible refine bl_drew ?_) | (with_reducible refine bl_then ?_ (by with_reducible assumption))))⟩)
end Ar
end Go.Proofs.Ytfpnafeildigaaa
