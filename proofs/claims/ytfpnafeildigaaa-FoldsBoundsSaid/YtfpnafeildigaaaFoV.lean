/-
The walk of FoldsChains (chapter 11).
-/
import Derived.Test.YtfpnafeildigaaaFoU
import Derived.Test.YtfpnafeildigaaaArL11
set_option linter.unusedSimpArgs false
set_option linter.unusedVariables false
namespace Go.Proofs.Ytfpnafeildigaaa
namespace Ar
open Go.RowKit Sc
theorem fine_cat {a b Q : Arr} (ha : Fine a) (hb : Fine b) (hq : Q = vec' 1 (a.xs ++ b.xs)) (hl : a.xs.length + b.xs.length ≤ 400) : Fine Q := by
  subst hq
  refine ⟨by show (a.xs ++ b.xs).length ≤ _; rw [List.length_append]; omega, ?_, (by show Fits 0; decide), fun x hx => ?_⟩
  · show -9223372036854775808 ≤ ((a.xs ++ b.xs).length : Int) ∧ ((a.xs ++ b.xs).length : Int) ≤ 9223372036854775807
    rw [List.length_append]; omega
  · rcases List.mem_append.1 hx with h | h
    · exact ha.2.2.2 x h
    · exact hb.2.2.2 x h
set_option maxRecDepth 100000 in
set_option maxHeartbeats 8000000 in
theorem chains_walk (a b : Arr) (A B : Option Addr) (c d : Nat) (hla : a.xs.length ≤ 9223372036854775807) (hlb : b.xs.length ≤ 9223372036854775807) (f0 : Fits a.l0) (f1 : Fits a.l1) (hx : ∀ x ∈ a.xs, Fits x) (g0 : Fits b.l0) (g1 : Fits b.l1) (hy : ∀ x ∈ b.xs, Fits x) (hcA : a.xs.length ≤ c) (hcB : b.xs.length ≤ d) (w : World) (hs : Sl w A a.xs) (ht : Sl w B b.xs) :
    Calls Try.prog 17 #[.agg #[.int .i64 a.k, .int .i64 a.r, .int .i64 a.l0, .int .i64 a.l1, .slice A a.xs.length c], .agg #[.int .i64 b.k, .int .i64 b.r, .int .i64 b.l0, .int .i64 b.l1, .slice B b.xs.length d]] w fun e w' => e = .returned (.bool true) ∧ Below w.heap.size w w' := by
  have HX := hide hx; have HY := hide hy
  have HcA := hide hcA; have HcB := hide hcB
  clear hx hy hcA hcB
  go_enter Try.func17, Try.ntmps17
  go_wp2_with fail
  have st0 := hide (((St.init w).box c hs).box d (ht.below (bl_new _ _)))
  simp only [World.size_alloc] at st0
  obtain ⟨hbw, ⟨⟨b0, b1, b2, b3, b4⟩, sb, zb⟩, ⟨⟨a0, a1, a2, a3, a4⟩, sa, za⟩, _⟩ := st0.out
  go_wp2_with fail
  refine (good_any a A c hla f0 f1 _ (sa.below (by (repeat (first | with_reducible exact Below.refl _ _ | with_reducible assumption | (with_reducible refine bl_set ?_ (by simp; try omega) _) | (with_reducible refine bl_alloc ?_ _) | (with_reducible refine bl_dn ?_ _) | (with_reducible refine bl_drew ?_) | (with_reducible refine bl_then ?_ (by with_reducible assumption))))))).mono ?_
  cases hG : goodB a
  · rintro e w1 ⟨rfl, hg1⟩
    (go_wp2_with fail; refine (awake11 _).mono ?_; rintro e w99 ⟨rfl, hg99⟩; go_wp2; go_ret; exact ⟨rfl, by (repeat (first | with_reducible exact Below.refl _ _ | with_reducible assumption | (with_reducible refine bl_set ?_ (by simp; try omega) _) | (with_reducible refine bl_alloc ?_ _) | (with_reducible refine bl_dn ?_ _) | (with_reducible refine bl_drew ?_) | (with_reducible refine bl_then ?_ (by with_reducible assumption))))⟩)
  have hGa := hide hG
  clear hG
  rintro e w1 ⟨rfl, hg1⟩
  have st1 := hide (st0.out.below hg1)
  clear hbw st0 hg1; clear a0 a1 a2 a3 a4 sa za; clear b0 b1 b2 b3 b4 sb zb
  obtain ⟨hbw, ⟨⟨b0, b1, b2, b3, b4⟩, sb, zb⟩, ⟨⟨a0, a1, a2, a3, a4⟩, sa, za⟩, _⟩ := st1.out
  go_wp2_with fail
  refine (good_any b B d hlb g0 g1 _ (sb.below (by (repeat (first | with_reducible exact Below.refl _ _ | with_reducible assumption | (with_reducible refine bl_set ?_ (by simp; try omega) _) | (with_reducible refine bl_alloc ?_ _) | (with_reducible refine bl_dn ?_ _) | (with_reducible refine bl_drew ?_) | (with_reducible refine bl_then ?_ (by with_reducible assumption))))))).mono ?_
  cases hG : goodB b
  · rintro e w2 ⟨rfl, hg2⟩
    have st2 := hide (st1.out.below hg2)
    clear hbw; clear a0 a1 a2 a3 a4 sa za; clear b0 b1 b2 b3 b4 sb zb
    obtain ⟨hbw, ⟨⟨b0, b1, b2, b3, b4⟩, sb, zb⟩, ⟨⟨a0, a1, a2, a3, a4⟩, sa, za⟩, _⟩ := st2.out
    (go_wp2_with fail; refine (awake11 _).mono ?_; rintro e w99 ⟨rfl, hg99⟩; go_wp2; go_ret; exact ⟨rfl, by (repeat (first | with_reducible exact Below.refl _ _ | with_reducible assumption | (with_reducible refine bl_set ?_ (by simp; try omega) _) | (with_reducible refine bl_alloc ?_ _) | (with_reducible refine bl_dn ?_ _) | (with_reducible refine bl_drew ?_) | (with_reducible refine bl_then ?_ (by with_reducible assumption))))⟩)
  have hGb := hide hG
  clear hG
  rintro e w2 ⟨rfl, hg2⟩
  have st2 := hide (st1.out.below hg2)
  clear hbw st1 hg2; clear a0 a1 a2 a3 a4 sa za; clear b0 b1 b2 b3 b4 sb zb
  obtain ⟨hbw, ⟨⟨b0, b1, b2, b3, b4⟩, sb, zb⟩, ⟨⟨a0, a1, a2, a3, a4⟩, sa, za⟩, _⟩ := st2.out
  cases hra : (a.r != 1)
  rotate_left
  · (go_wp2_with fail; refine (awake11 _).mono ?_; rintro e w99 ⟨rfl, hg99⟩; go_wp2; go_ret; exact ⟨rfl, by (repeat (first | with_reducible exact Below.refl _ _ | with_reducible assumption | (with_reducible refine bl_set ?_ (by simp; try omega) _) | (with_reducible refine bl_alloc ?_ _) | (with_reducible refine bl_dn ?_ _) | (with_reducible refine bl_drew ?_) | (with_reducible refine bl_then ?_ (by with_reducible assumption))))⟩)
  cases hrb : (b.r != 1)
  rotate_left
  · (go_wp2_with fail; refine (awake11 _).mono ?_; rintro e w99 ⟨rfl, hg99⟩; go_wp2; go_ret; exact ⟨rfl, by (repeat (first | with_reducible exact Below.refl _ _ | with_reducible assumption | (with_reducible refine bl_set ?_ (by simp; try omega) _) | (with_reducible refine bl_alloc ?_ _) | (with_reducible refine bl_dn ?_ _) | (with_reducible refine bl_drew ?_) | (with_reducible refine bl_then ?_ (by with_reducible assumption))))⟩)
  have ra : Hid (a.r = 1) := by show _ = _; simpa using hra
  have rb : Hid (b.r = 1) := by show _ = _; simpa using hrb
  have HA : Hid (Fine a) := ⟨by have := (goodB_yes hGa.out).1; omega, f0, f1, HX.out⟩
  have HB : Hid (Fine b) := ⟨by have := (goodB_yes hGb.out).1; omega, g0, g1, HY.out⟩
  have ca := hide (goodB_yes hGa.out).2.1
  have cb := hide (goodB_yes hGb.out).2.1
  obtain ⟨ec, Q, hQ⟩ : ∃ er R, extCat a b = (er, R) := ⟨_, _, rfl⟩
  have HQ := hide hQ
  clear hs ht f0 f1 g0 g1 HX HY
  go_wp2_with fail
  refine (cat_go a b A B ca cb HcA HcB HQ _ (sa.below (by (repeat (first | with_reducible exact Below.refl _ _ | with_reducible assumption | (with_reducible refine bl_set ?_ (by simp; try omega) _) | (with_reducible refine bl_alloc ?_ _) | (with_reducible refine bl_dn ?_ _) | (with_reducible refine bl_drew ?_) | (with_reducible refine bl_then ?_ (by with_reducible assumption)))))) (sb.below (by (repeat (first | with_reducible exact Below.refl _ _ | with_reducible assumption | (with_reducible refine bl_set ?_ (by simp; try omega) _) | (with_reducible refine bl_alloc ?_ _) | (with_reducible refine bl_dn ?_ _) | (with_reducible refine bl_drew ?_) | (with_reducible refine bl_then ?_ (by with_reducible assumption))))))).mono ?_
  rintro e v3 ⟨hgv3, Cv3, cv3, rfl, hsv3, hgev3, hcpv3⟩
  clear hra hrb; clear a0 a1 a2 a3 a4 sa za; clear b0 b1 b2 b3 b4 sb zb
  have st3x := hide (st2.out.below hgv3)
  clear hbw hgv3 hgev3 st2
  go_upto_region 4 with fail
  have st3 := hide (st3x.out.box cv3 hsv3 25)
  change Code.wp _ _ _ _ (v3.alloc (.cells #[.int .i64 Q.k, .int .i64 Q.r, .int .i64 Q.l0, .int .i64 Q.l1, .slice Cv3 Q.xs.length cv3] 25))
  generalize (v3.alloc (.cells #[.int .i64 Q.k, .int .i64 Q.r, .int .i64 Q.l0, .int .i64 Q.l1, .slice Cv3 Q.xs.length cv3] 25)) = w3 at *
  generalize v3.heap.size = P3 at *
  clear st3x
  by_cases hec : ec = 0
  rotate_left
  · have hec2 : (ec != 0) = true := by simpa using hec
    have hbw := st3.out.1
    clear hec
    (go_wp2_with fail; refine (awake11 _).mono ?_; rintro e w99 ⟨rfl, hg99⟩; go_wp2; go_ret; exact ⟨rfl, by (repeat (first | with_reducible exact Below.refl _ _ | with_reducible assumption | (with_reducible refine bl_set ?_ (by simp; try omega) _) | (with_reducible refine bl_alloc ?_ _) | (with_reducible refine bl_dn ?_ _) | (with_reducible refine bl_drew ?_) | (with_reducible refine bl_then ?_ (by with_reducible assumption))))⟩)
  subst hec
  obtain ⟨hq, cq, hl4⟩ := cat_good hGa.out hGb.out ra.out rb.out hQ
  have HFQ := hide (fine_cat HA.out HB.out hq hl4)
  have HCQ := hide hcpv3
  have T := chains hGa.out hGb.out ra.out rb.out hQ
  obtain ⟨ef, X, hX⟩ : ∃ er R, extScan a = (er, R) := ⟨_, _, rfl⟩
  obtain ⟨eg, Y, hY⟩ : ∃ er R, extScan b = (er, R) := ⟨_, _, rfl⟩
  obtain ⟨eh, Z, hZ⟩ : ∃ er R, extScan Q = (er, R) := ⟨_, _, rfl⟩
  obtain ⟨ei, V, hV⟩ : ∃ er R, extSum a = (er, R) := ⟨_, _, rfl⟩
  rw [hX, hY, hZ, hV] at T
  obtain ⟨t1, t2, t3⟩ := T
  have t1 : ei = ef := t1
  subst t1
  have T2 := hide t2; have T3 := hide t3
  have HX := hide hX; have HY := hide hY; have HZ := hide hZ; have HV := hide hV
  have HL4 := hide hl4
  clear hX hY hZ hV t2 t3 hq cq hQ hcpv3 hl4
  obtain ⟨hbw, _, _, ⟨⟨a0, a1, a2, a3, a4⟩, sa, za⟩, _⟩ := st3.out
  go_wp2_with fail; refine (fscan_go a _ HA HcA HX _ (sa.below (by (repeat (first | with_reducible exact Below.refl _ _ | with_reducible assumption | (with_reducible refine bl_set ?_ (by simp; try omega) _) | (with_reducible refine bl_alloc ?_ _) | (with_reducible refine bl_dn ?_ _) | (with_reducible refine bl_drew ?_) | (with_reducible refine bl_then ?_ (by with_reducible assumption))))))).mono ?_; rintro e v4 ⟨hgv4, Cv4, cv4, rfl, hsv4, hgev4, hcpv4⟩
  clear a0 a1 a2 a3 a4 sa za
  have st4x := hide (st3.out.below hgv4)
  clear hbw hgv4 hgev4 st3
  go_upto_region 7 with fail
  have st4 := hide (st4x.out.box cv4 hsv4 25)
  change Code.wp _ _ _ _ (v4.alloc (.cells #[.int .i64 X.k, .int .i64 X.r, .int .i64 X.l0, .int .i64 X.l1, .slice Cv4 X.xs.length cv4] 25))
  generalize (v4.alloc (.cells #[.int .i64 X.k, .int .i64 X.r, .int .i64 X.l0, .int .i64 X.l1, .slice Cv4 X.xs.length cv4] 25)) = w4 at *
  generalize v4.heap.size = P4 at *
  clear st4x
  obtain ⟨hbw, _, _, ⟨⟨b0, b1, b2, b3, b4⟩, sb, zb⟩, _⟩ := st4.out
  go_wp2_with fail; refine (fscan_go b _ HB HcB HY _ (sb.below (by (repeat (first | with_reducible exact Below.refl _ _ | with_reducible assumption | (with_reducible refine bl_set ?_ (by simp; try omega) _) | (with_reducible refine bl_alloc ?_ _) | (with_reducible refine bl_dn ?_ _) | (with_reducible refine bl_drew ?_) | (with_reducible refine bl_then ?_ (by with_reducible assumption))))))).mono ?_; rintro e v5 ⟨hgv5, Cv5, cv5, rfl, hsv5, hgev5, hcpv5⟩
  clear b0 b1 b2 b3 b4 sb zb
  have st5x := hide (st4.out.below hgv5)
  clear hbw hgv5 hgev5 st4
  go_upto_region 8 with fail
  have st5 := hide (st5x.out.box cv5 hsv5 25)
  change Code.wp _ _ _ _ (v5.alloc (.cells #[.int .i64 Y.k, .int .i64 Y.r, .int .i64 Y.l0, .int .i64 Y.l1, .slice Cv5 Y.xs.length cv5] 25))
  generalize (v5.alloc (.cells #[.int .i64 Y.k, .int .i64 Y.r, .int .i64 Y.l0, .int .i64 Y.l1, .slice Cv5 Y.xs.length cv5] 25)) = w5 at *
  generalize v5.heap.size = P5 at *
  clear st5x
  obtain ⟨hbw, _, _, ⟨⟨q0, q1, q2, q3, q4⟩, sq, zq⟩, _⟩ := st5.out
  go_wp2_with fail; refine (fscan_go Q _ HFQ HCQ HZ _ (sq.below (by (repeat (first | with_reducible exact Below.refl _ _ | with_reducible assumption | (with_reducible refine bl_set ?_ (by simp; try omega) _) | (with_reducible refine bl_alloc ?_ _) | (with_reducible refine bl_dn ?_ _) | (with_reducible refine bl_drew ?_) | (with_reducible refine bl_then ?_ (by with_reducible assumption))))))).mono ?_; rintro e v6 ⟨hgv6, Cv6, cv6, rfl, hsv6, hgev6, hcpv6⟩
  clear q0 q1 q2 q3 q4 sq zq
  have st6x := hide (st5.out.below hgv6)
  clear hbw hgv6 hgev6 st5
  go_upto_region 9 with fail
  have st6 := hide (st6x.out.box cv6 hsv6 25)
  change Code.wp _ _ _ _ (v6.alloc (.cells #[.int .i64 Z.k, .int .i64 Z.r, .int .i64 Z.l0, .int .i64 Z.l1, .slice Cv6 Z.xs.length cv6] 25))
  generalize (v6.alloc (.cells #[.int .i64 Z.k, .int .i64 Z.r, .int .i64 Z.l0, .int .i64 Z.l1, .slice Cv6 Z.xs.length cv6] 25)) = w6 at *
  generalize v6.heap.size = P6 at *
  clear st6x
  obtain ⟨hbw, _, _, _, _, _, ⟨⟨a0, a1, a2, a3, a4⟩, sa, za⟩, _⟩ := st6.out
  go_wp2_with fail; refine (fsum_go a _ HA HcA HV _ (sa.below (by (repeat (first | with_reducible exact Below.refl _ _ | with_reducible assumption | (with_reducible refine bl_set ?_ (by simp; try omega) _) | (with_reducible refine bl_alloc ?_ _) | (with_reducible refine bl_dn ?_ _) | (with_reducible refine bl_drew ?_) | (with_reducible refine bl_then ?_ (by with_reducible assumption))))))).mono ?_; rintro e v7 ⟨hgv7, Cv7, cv7, rfl, hsv7, hgev7, hcpv7⟩
  clear a0 a1 a2 a3 a4 sa za
  have st7x := hide (st6.out.below hgv7)
  clear hbw hgv7 hgev7 st6
  go_upto_region 10 with fail
  have st7 := hide (st7x.out.box cv7 hsv7 25)
  change Code.wp _ _ _ _ (v7.alloc (.cells #[.int .i64 V.k, .int .i64 V.r, .int .i64 V.l0, .int .i64 V.l1, .slice Cv7 V.xs.length cv7] 25))
  generalize (v7.alloc (.cells #[.int .i64 V.k, .int .i64 V.r, .int .i64 V.l0, .int .i64 V.l1, .slice Cv7 V.xs.length cv7] 25)) = w7 at *
  generalize v7.heap.size = P7 at *
  clear st7x
  have hbw := st7.out.1
  by_cases hef : ei = 0
  rotate_left
  · have h1 : (ei != 0) = true := by simpa using hef
    have t2 : eh = ei := T2.out hef
    subst t2
    clear hef
    (go_wp2_with fail; refine (awake11 _).mono ?_; rintro e w99 ⟨rfl, hg99⟩; go_wp2; go_ret; exact ⟨rfl, by (repeat (first | with_reducible exact Below.refl _ _ | with_reducible assumption | (with_reducible refine bl_set ?_ (by simp; try omega) _) | (with_reducible refine bl_alloc ?_ _) | (with_reducible refine bl_dn ?_ _) | (with_reducible refine bl_drew ?_) | (with_reducible refine bl_then ?_ (by with_reducible assumption))))⟩)
  subst hef
  by_cases heg : eg = 0
  rotate_left
  · have h1 : (eg != 0) = true := by simpa using heg
    clear heg
    (go_wp2_with fail; refine (awake11 _).mono ?_; rintro e w99 ⟨rfl, hg99⟩; go_wp2; go_ret; exact ⟨rfl, by (repeat (first | with_reducible exact Below.refl _ _ | with_reducible assumption | (with_reducible refine bl_set ?_ (by simp; try omega) _) | (with_reducible refine bl_alloc ?_ _) | (with_reducible refine bl_dn ?_ _) | (with_reducible refine bl_drew ?_) | (with_reducible refine bl_then ?_ (by with_reducible assumption))))⟩)
  subst heg
  by_cases heh : eh = 0
  rotate_left
  · have h1 : (eh != 0) = true := by simpa using heh
    clear heh
    (go_wp2_with fail; refine (awake11 _).mono ?_; rintro e w99 ⟨rfl, hg99⟩; go_wp2; go_ret; exact ⟨rfl, by (repeat (first | with_reducible exact Below.refl _ _ | with_reducible assumption | (with_reducible refine bl_set ?_ (by simp; try omega) _) | (with_reducible refine bl_alloc ?_ _) | (with_reducible refine bl_dn ?_ _) | (with_reducible refine bl_drew ?_) | (with_reducible refine bl_then ?_ (by with_reducible assumption))))⟩)
  subst heh
  obtain ⟨L1, L2, L3, L4, L5, L6, L7⟩ := T3.out rfl rfl rfl
  have L1 : V.xs.length = 1 := L1
  have L2 : X.xs.length = a.xs.length := L2
  have L3 : Y.xs.length = b.xs.length := L3
  have L4 : Z.xs.length = a.xs.length + b.xs.length := L4
  have H1 := hide L1; have H2 := hide L2; have H3 := hide L3; have H4 := hide L4; have H5 := hide L5; have H6 := hide L6; have H7 := hide L7
  obtain ⟨_, ⟨⟨v0, v1, v2, v3, v4⟩, sv, zv⟩, ⟨⟨z0, z1, z2, z3, z4⟩, sz, zz⟩, ⟨⟨y0, y1, y2, y3, y4⟩, sy, zy⟩, ⟨⟨x0, x1, x2, x3, x4⟩, sx, zx⟩, _, _, ⟨⟨a0, a1, a2, a3, a4⟩, sa, za⟩, _⟩ := st7.out
  rw [L1] at v4; rw [L2] at x4; rw [L3] at y4; rw [L4] at z4
  have hl4 := HL4.out
  have ew : IntKind.i64.wrap ((a.xs.length : Int) + (b.xs.length : Int)) = (a.xs.length : Int) + (b.xs.length : Int) := IntWalk.i64_in _ (by omega)
  obtain ⟨n, hn⟩ : ∃ n, a.xs.length = n := ⟨_, rfl⟩
  obtain ⟨k2, hk2⟩ : ∃ n, b.xs.length = n := ⟨_, rfl⟩
  rw [hk2, hn] at ew z4; rw [hn] at x4 a4; rw [hk2] at y4
  have HN := hide hn; have HK2 := hide hk2
  clear L1 L2 L3 L4 L5 L6 L7 hl4 hn hk2
  have hnk : n + k2 ≤ 400 := by have := HL4.out; have := HN.out; have := HK2.out; omega
  go_wp2
  clear ew; clear v0 v1 v2 v3 v4 sv zv; clear z0 z1 z2 z3 z4 sz zz; clear y0 y1 y2 y3 y4 sy zy; clear x0 x1 x2 x3 x4 sx zx; clear a0 a1 a2 a3 a4 sa za
  go_loopw [16] (fun s16 wr => ∃ (k : Nat), k ≤ n + k2 ∧ s16 = .int .i64 k ∧ Hid (Below w7.heap.size w7 wr)) (fun s16 _ => n + k2 - (intOf s16).toNat)
  case atStart => exact ⟨0, Nat.zero_le _, rfl, Below.refl _ _⟩
  case round =>
    obtain ⟨k, hk, rfl, hbl⟩ := hrel
    have st8 := hide (st7.out.below hbl.out)
    obtain ⟨hbw, ⟨⟨v0, v1, v2, v3, v4⟩, sv, zv⟩, ⟨⟨z0, z1, z2, z3, z4⟩, sz, zz⟩, ⟨⟨y0, y1, y2, y3, y4⟩, sy, zy⟩, ⟨⟨x0, x1, x2, x3, x4⟩, sx, zx⟩, _⟩ := st8.out
    rw [H1.out] at v4; rw [H2.out, HN.out] at x4; rw [H3.out, HK2.out] at y4; rw [H4.out, HN.out, HK2.out] at z4
    by_cases hlt : k < n + k2
    · obtain ⟨b1, o1, z, eA, hb1, hc1, hz⟩ := sz.at_ (k := k) (by have := H4.out; have := HN.out; have := HK2.out; omega)
      have hki : (k : Int) < (n : Int) + (k2 : Int) := by omega
      subst eA
      by_cases hlt2 : k < n
      · obtain ⟨b2, o2, x, eB, hb2, hc2, hx2⟩ := sx.at_ (k := k) (by have := H2.out; have := HN.out; omega)
        have hxz : x = z := by rw [← hx2.out, ← hz.out]; exact (H5.out k (by have := HN.out; omega)).symm
        subst eB hxz
        have hkn : (k : Int) < (n : Int) := by omega
        clear hz hx2 sz sx
        go_wp2
        go_roundw
        case rel => exact ⟨k + 1, by omega, by go_num, hbl⟩
        case measure => simp [intOf]; omega
      · obtain ⟨j, hj⟩ : ∃ j, k = n + j := ⟨k - n, by omega⟩
        obtain ⟨b2, o2, x, eB, hb2, hc2, hx2⟩ := sv.at_ (k := 0) (by have := H1.out; omega)
        have hc2 : wr.cell? ⟨b2, o2, none⟩ = some (.int .i64 x) := hc2
        obtain ⟨b3, o3, y, eC, hb3, hc3, hy3⟩ := sy.at_ (k := j) (by have := H3.out; have := HK2.out; omega)
        have hfz : Fits z := H7.out z (by rw [← hz.out]; exact getD_in 0 (by have := H4.out; have := HN.out; have := HK2.out; omega))
        have hzv : z = x + y := by
          have := H6.out j (by have := HK2.out; omega)
          rw [HN.out, ← hj] at this
          rw [← hz.out, ← hx2.out, ← hy3.out]; exact this
        have e1 : IntKind.i64.wrap (x + y) = z := by rw [← hzv]; exact IntWalk.i64_in _ hfz
        have e2 : IntKind.i64.wrap ((k : Int) - (n : Int)) = (j : Int) := wrap_nat (by omega) (by have := H4.out; have := HN.out; have := HK2.out; have := HL4.out; omega)
        have hkn : decide ((k : Int) < (n : Int)) = false := by simp; omega
        have hjk : (j : Int) < (k2 : Int) := by omega
        subst eB eC
        clear hz hx2 hy3 hzv hfz sz sv sy hj
        go_wp2
        go_region
        all_goals
          go_wp2
          go_roundw
          case rel => exact ⟨k + 1, by omega, by go_num, hbl.out.drew⟩
          case measure => simp [intOf]; omega
    · go_wp2_with fail
      refine (awake11 _).mono ?_
      rintro e w99 ⟨rfl, hg99⟩
      go_wp2
      go_ret
      exact ⟨rfl, by (repeat (first | with_reducible exact Below.refl _ _ | with_reducible assumption | (with_reducible refine bl_set ?_ (by simp; try omega) _) | (with_reducible refine bl_alloc ?_ _) | (with_reducible refine bl_dn ?_ _) | (with_reducible refine bl_drew ?_) | (with_reducible refine bl_then ?_ (by with_reducible assumption))))⟩
end Ar
end Go.Proofs.Ytfpnafeildigaaa
