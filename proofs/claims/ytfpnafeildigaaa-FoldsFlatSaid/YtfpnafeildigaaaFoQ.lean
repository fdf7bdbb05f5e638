/-
awake of chapter 11: it answers true (printed by genFw.py).
-/
import Derived.Test.YtfpnafeildigaaaBc4
import Derived.Deep.RegionHeld3
set_option linter.unusedSimpArgs false
set_option linter.unusedVariables false
namespace Go.Proofs.Ytfpnafeildigaaa
namespace Ar
open Go.RowKit Sc
theorem sl_6 {w : World} {X : Nat} {x y z x' y' z' : Int} (h0 : w.cell? ⟨X, 0, none⟩ = some (.int .i64 x)) (h1 : w.cell? ⟨X, 1, none⟩ = some (.int .i64 y)) (h2 : w.cell? ⟨X, 2, none⟩ = some (.int .i64 z))
    (h3 : w.cell? ⟨X, 3, none⟩ = some (.int .i64 x')) (h4 : w.cell? ⟨X, 4, none⟩ = some (.int .i64 y')) (h5 : w.cell? ⟨X, 5, none⟩ = some (.int .i64 z')) : Sl w (some ⟨X, 0, none⟩) [x, y, z, x', y', z'] := fun _ =>
  ⟨X, 0, rfl, block_lt_of_cell h0, fun j hj => by
    rw [Nat.zero_add]
    match j, hj with
    | 0, _ => exact h0
    | 1, _ => exact h1
    | 2, _ => exact h2
    | 3, _ => exact h3
    | 4, _ => exact h4
    | 5, _ => exact h5⟩
set_option maxRecDepth 100000 in
set_option maxHeartbeats 8000000 in
theorem awake11 (w : World) : Calls Try.prog 41 #[] w fun e w' => e = .returned (.bool true) ∧ Below w.heap.size w w' := by
  go_enter Try.func41, Try.ntmps41
  go_wp2_with fail
  refine (matrix_any 1 2 3 _ 6 [1, 2, 3, 4, 5, 6] (by decide) _ (sl_new _ _ _ _ rfl)).mono ?_
  rintro e v1 ⟨hgv1, Cv1, cv1, rfl, hsv1, hgev1, hcpv1⟩
  have stx := hide (((St.init w).alloc _).below hgv1)
  have HCM : Hid ((mat 2 3 [1, 2, 3, 4, 5, 6]).xs.length ≤ cv1) := hcpv1
  have HFM : Hid (Fine (mat 2 3 [1, 2, 3, 4, 5, 6])) := fine_lit (by decide) (by decide) (by decide) (by decide)
  clear hgv1 hgev1
  go_upto_region 2 with fail
  have st1 := hide (stx.out.box (a := (mat 2 3 [1, 2, 3, 4, 5, 6])) cv1 hsv1 25)
  change Code.wp _ _ _ _ (v1.alloc (.cells #[.int .i64 (mat 2 3 [1, 2, 3, 4, 5, 6]).k, .int .i64 (mat 2 3 [1, 2, 3, 4, 5, 6]).r, .int .i64 (mat 2 3 [1, 2, 3, 4, 5, 6]).l0, .int .i64 (mat 2 3 [1, 2, 3, 4, 5, 6]).l1, .slice Cv1 (mat 2 3 [1, 2, 3, 4, 5, 6]).xs.length cv1] 25))
  generalize (v1.alloc (.cells #[.int .i64 (mat 2 3 [1, 2, 3, 4, 5, 6]).k, .int .i64 (mat 2 3 [1, 2, 3, 4, 5, 6]).r, .int .i64 (mat 2 3 [1, 2, 3, 4, 5, 6]).l0, .int .i64 (mat 2 3 [1, 2, 3, 4, 5, 6]).l1, .slice Cv1 (mat 2 3 [1, 2, 3, 4, 5, 6]).xs.length cv1] 25)) = w1 at *
  generalize v1.heap.size = P1 at *
  clear stx
  obtain ⟨hbw, ⟨⟨m0, m1, m2, m3, m4⟩, sm, zm⟩, _⟩ := st1.out
  go_wp2_with fail
  refine (fsum_go (mat 2 3 [1, 2, 3, 4, 5, 6]) _ HFM HCM (hide fw1) _ (sm.below (by (repeat (first | with_reducible exact Below.refl _ _ | with_reducible assumption | (with_reducible refine bl_set ?_ (by simp; try omega) _) | (with_reducible refine bl_alloc ?_ _) | (with_reducible refine bl_dn ?_ _) | (with_reducible refine bl_drew ?_) | (with_reducible refine bl_then ?_ (by with_reducible assumption))))))).mono ?_
  rintro e v2 ⟨hgv2, Cv2, cv2, rfl, hsv2, hgev2, hcpv2⟩
  have stx := hide (st1.out.below hgv2)
  clear hbw st1; clear m0 m1 m2 m3 m4 sm zm
  clear hgv2 hgev2
  go_upto_region 3 with fail
  have st2 := hide (stx.out.box (a := (vec 1 [6, 15])) cv2 hsv2 25)
  change Code.wp _ _ _ _ (v2.alloc (.cells #[.int .i64 (vec 1 [6, 15]).k, .int .i64 (vec 1 [6, 15]).r, .int .i64 (vec 1 [6, 15]).l0, .int .i64 (vec 1 [6, 15]).l1, .slice Cv2 (vec 1 [6, 15]).xs.length cv2] 25))
  generalize (v2.alloc (.cells #[.int .i64 (vec 1 [6, 15]).k, .int .i64 (vec 1 [6, 15]).r, .int .i64 (vec 1 [6, 15]).l0, .int .i64 (vec 1 [6, 15]).l1, .slice Cv2 (vec 1 [6, 15]).xs.length cv2] 25)) = w2 at *
  generalize v2.heap.size = P2 at *
  clear stx
  obtain ⟨hbw, _, ⟨⟨m0, m1, m2, m3, m4⟩, sm, zm⟩, _⟩ := st2.out
  go_wp2_with fail
  refine (fscan_go (mat 2 3 [1, 2, 3, 4, 5, 6]) _ HFM HCM (hide fw2) _ (sm.below (by (repeat (first | with_reducible exact Below.refl _ _ | with_reducible assumption | (with_reducible refine bl_set ?_ (by simp; try omega) _) | (with_reducible refine bl_alloc ?_ _) | (with_reducible refine bl_dn ?_ _) | (with_reducible refine bl_drew ?_) | (with_reducible refine bl_then ?_ (by with_reducible assumption))))))).mono ?_
  rintro e v3 ⟨hgv3, Cv3, cv3, rfl, hsv3, hgev3, hcpv3⟩
  have stx := hide (st2.out.below hgv3)
  clear hbw st2; clear m0 m1 m2 m3 m4 sm zm
  clear hgv3 hgev3
  go_upto_region 4 with fail
  have st3 := hide (stx.out.box (a := (mat 2 3 [1, 3, 6, 4, 9, 15])) cv3 hsv3 25)
  change Code.wp _ _ _ _ (v3.alloc (.cells #[.int .i64 (mat 2 3 [1, 3, 6, 4, 9, 15]).k, .int .i64 (mat 2 3 [1, 3, 6, 4, 9, 15]).r, .int .i64 (mat 2 3 [1, 3, 6, 4, 9, 15]).l0, .int .i64 (mat 2 3 [1, 3, 6, 4, 9, 15]).l1, .slice Cv3 (mat 2 3 [1, 3, 6, 4, 9, 15]).xs.length cv3] 25))
  generalize (v3.alloc (.cells #[.int .i64 (mat 2 3 [1, 3, 6, 4, 9, 15]).k, .int .i64 (mat 2 3 [1, 3, 6, 4, 9, 15]).r, .int .i64 (mat 2 3 [1, 3, 6, 4, 9, 15]).l0, .int .i64 (mat 2 3 [1, 3, 6, 4, 9, 15]).l1, .slice Cv3 (mat 2 3 [1, 3, 6, 4, 9, 15]).xs.length cv3] 25)) = w3 at *
  generalize v3.heap.size = P3 at *
  clear stx
  obtain ⟨hbw, _⟩ := st3.out
  go_wp2_with fail
  refine (ints_any _ _ [3, 1, 2] 3 rfl (by omega) _ (sl_new _ _ _ _ rfl)).mono ?_
  rintro e v4 ⟨hgv4, Cv4, cv4, rfl, hsv4, hgev4, hcpv4⟩
  have HCX : Hid ((vec 1 [3, 1, 2]).xs.length ≤ cv4) := hcpv4
  have HFX : Hid (Fine (vec 1 [3, 1, 2])) := fine_lit (by decide) (by decide) (by decide) (by decide)
  have sty := hide ((st3.out.alloc _).below hgv4)
  go_wp2_with fail
  refine (fleast_go (vec 1 [3, 1, 2]) _ HFX HCX (hide fw3) _ hsv4).mono ?_
  rintro e v5 ⟨hgv5, Cv5, cv5, rfl, hsv5, hgev5, hcpv5⟩
  have stx := hide (sty.out.below hgv5)
  clear hbw st3 sty hgv4 hgev4 hsv4 hcpv4 HCX HFX
  clear hgv5 hgev5
  go_upto_region 5 with fail
  have st4 := hide (stx.out.box (a := (sca 1 1)) cv5 hsv5 25)
  change Code.wp _ _ _ _ (v5.alloc (.cells #[.int .i64 (sca 1 1).k, .int .i64 (sca 1 1).r, .int .i64 (sca 1 1).l0, .int .i64 (sca 1 1).l1, .slice Cv5 (sca 1 1).xs.length cv5] 25))
  generalize (v5.alloc (.cells #[.int .i64 (sca 1 1).k, .int .i64 (sca 1 1).r, .int .i64 (sca 1 1).l0, .int .i64 (sca 1 1).l1, .slice Cv5 (sca 1 1).xs.length cv5] 25)) = w4 at *
  generalize v5.heap.size = P4 at *
  clear stx
  obtain ⟨hbw, _⟩ := st4.out
  go_wp2_with fail
  refine (ints_any none 0 [] 0 rfl (by omega) _ (Sl.nil _ _)).mono ?_
  rintro e v6 ⟨hgv6, Cv6, cv6, rfl, hsv6, hgev6, hcpv6⟩
  have HCX : Hid ((vec 1 []).xs.length ≤ cv6) := hcpv6
  have HFX : Hid (Fine (vec 1 [])) := fine_lit (by decide) (by decide) (by decide) (by decide)
  have sty := hide (st4.out.below hgv6)
  go_wp2_with fail
  refine (fmost_go (vec 1 []) _ HFX HCX (hide fw4) _ hsv6).mono ?_
  rintro e v7 ⟨hgv7, Cv7, cv7, rfl, hsv7, hgev7, hcpv7⟩
  have stx := hide (sty.out.below hgv7)
  clear hbw st4 sty hgv6 hgev6 hsv6 hcpv6 HCX HFX
  clear hgv7 hgev7
  go_upto_region 6 with fail
  have st5 := hide (stx.out.box (a := Arr.zero) cv7 hsv7 25)
  change Code.wp _ _ _ _ (v7.alloc (.cells #[.int .i64 Arr.zero.k, .int .i64 Arr.zero.r, .int .i64 Arr.zero.l0, .int .i64 Arr.zero.l1, .slice Cv7 Arr.zero.xs.length cv7] 25))
  generalize (v7.alloc (.cells #[.int .i64 Arr.zero.k, .int .i64 Arr.zero.r, .int .i64 Arr.zero.l0, .int .i64 Arr.zero.l1, .slice Cv7 Arr.zero.xs.length cv7] 25)) = w5 at *
  generalize v7.heap.size = P5 at *
  clear stx
  obtain ⟨hbw, _⟩ := st5.out
  go_wp2_with fail
  refine (vector_any 2 _ 3 [97, 98, 99] (by decide) _ (sl_new _ _ _ _ rfl)).mono ?_
  rintro e v8 ⟨hgv8, Cv8, cv8, rfl, hsv8, hgev8, hcpv8⟩
  have HCX : Hid ((vec 2 [97, 98, 99]).xs.length ≤ cv8) := hcpv8
  have HFX : Hid (Fine (vec 2 [97, 98, 99])) := fine_lit (by decide) (by decide) (by decide) (by decide)
  have sty := hide ((st5.out.alloc _).below hgv8)
  go_wp2_with fail
  refine (fcount_go (vec 2 [97, 98, 99]) _ HFX HCX (hide fw5) _ hsv8).mono ?_
  rintro e v9 ⟨hgv9, Cv9, cv9, rfl, hsv9, hgev9, hcpv9⟩
  have stx := hide (sty.out.below hgv9)
  clear hbw st5 sty hgv8 hgev8 hsv8 hcpv8 HCX HFX
  clear hgv9 hgev9
  go_upto_region 7 with fail
  have st6 := hide (stx.out.box (a := (sca 1 3)) cv9 hsv9 25)
  change Code.wp _ _ _ _ (v9.alloc (.cells #[.int .i64 (sca 1 3).k, .int .i64 (sca 1 3).r, .int .i64 (sca 1 3).l0, .int .i64 (sca 1 3).l1, .slice Cv9 (sca 1 3).xs.length cv9] 25))
  generalize (v9.alloc (.cells #[.int .i64 (sca 1 3).k, .int .i64 (sca 1 3).r, .int .i64 (sca 1 3).l0, .int .i64 (sca 1 3).l1, .slice Cv9 (sca 1 3).xs.length cv9] 25)) = w6 at *
  generalize v9.heap.size = P6 at *
  clear stx
  obtain ⟨hbw, _⟩ := st6.out
  go_wp2_with fail
  refine (ints_any _ _ [9223372036854775807, 1, -1] 3 rfl (by omega) _ (sl_new _ _ _ _ rfl)).mono ?_
  rintro e v10 ⟨hgv10, Cv10, cv10, rfl, hsv10, hgev10, hcpv10⟩
  have HCX : Hid ((vec 1 [9223372036854775807, 1, -1]).xs.length ≤ cv10) := hcpv10
  have HFX : Hid (Fine (vec 1 [9223372036854775807, 1, -1])) := fine_lit (by decide) (by decide) (by decide) (by decide)
  have sty := hide ((st6.out.alloc _).below hgv10)
  go_wp2_with fail
  refine (fsum_go (vec 1 [9223372036854775807, 1, -1]) _ HFX HCX (hide fw6) _ hsv10).mono ?_
  rintro e v11 ⟨hgv11, Cv11, cv11, rfl, hsv11, hgev11, hcpv11⟩
  have stx := hide (sty.out.below hgv11)
  clear hbw st6 sty hgv10 hgev10 hsv10 hcpv10 HCX HFX
  clear hgv11 hgev11
  go_upto_region 8 with fail
  have st7 := hide (stx.out.box (a := Arr.zero) cv11 hsv11 25)
  change Code.wp _ _ _ _ (v11.alloc (.cells #[.int .i64 Arr.zero.k, .int .i64 Arr.zero.r, .int .i64 Arr.zero.l0, .int .i64 Arr.zero.l1, .slice Cv11 Arr.zero.xs.length cv11] 25))
  generalize (v11.alloc (.cells #[.int .i64 Arr.zero.k, .int .i64 Arr.zero.r, .int .i64 Arr.zero.l0, .int .i64 Arr.zero.l1, .slice Cv11 Arr.zero.xs.length cv11] 25)) = w7 at *
  generalize v11.heap.size = P7 at *
  clear stx
  obtain ⟨hbw, _⟩ := st7.out
  go_wp2_with fail
  refine (matrix_any 1 2 0 none 0 [] (by decide) _ (Sl.nil _ _)).mono ?_
  rintro e v12 ⟨hgv12, Cv12, cv12, rfl, hsv12, hgev12, hcpv12⟩
  have HCX : Hid ((mat 2 0 []).xs.length ≤ cv12) := hcpv12
  have HFX : Hid (Fine (mat 2 0 [])) := fine_lit (by decide) (by decide) (by decide) (by decide)
  have sty := hide (st7.out.below hgv12)
  go_wp2_with fail
  refine (fsum_go (mat 2 0 []) _ HFX HCX (hide fw7) _ hsv12).mono ?_
  rintro e v13 ⟨hgv13, Cv13, cv13, rfl, hsv13, hgev13, hcpv13⟩
  have stx := hide (sty.out.below hgv13)
  clear hbw st7 sty hgv12 hgev12 hsv12 hcpv12 HCX HFX
  clear hgv13 hgev13
  go_upto_region 9 with fail
  have st8 := hide (stx.out.box (a := (vec 1 [0, 0])) cv13 hsv13 25)
  change Code.wp _ _ _ _ (v13.alloc (.cells #[.int .i64 (vec 1 [0, 0]).k, .int .i64 (vec 1 [0, 0]).r, .int .i64 (vec 1 [0, 0]).l0, .int .i64 (vec 1 [0, 0]).l1, .slice Cv13 (vec 1 [0, 0]).xs.length cv13] 25))
  generalize (v13.alloc (.cells #[.int .i64 (vec 1 [0, 0]).k, .int .i64 (vec 1 [0, 0]).r, .int .i64 (vec 1 [0, 0]).l0, .int .i64 (vec 1 [0, 0]).l1, .slice Cv13 (vec 1 [0, 0]).xs.length cv13] 25)) = w8 at *
  generalize v13.heap.size = P8 at *
  clear stx
  obtain ⟨hbw, ⟨⟨k0, k1, k2, k3, k4⟩, sk, zk⟩, _, ⟨⟨d0, d1, d2, d3, d4⟩, sd, zd⟩, _, ⟨⟨c0, c1, c2, c3, c4⟩, sc, zc⟩, ⟨⟨b0, b1, b2, b3, b4⟩, sb, zb⟩, ⟨⟨a0, a1, a2, a3, a4⟩, sa, za⟩, _⟩ := st8.out
  have t0 : True := trivial
  have hbw := hide hbw
  have sa := hide sa
  have sb := hide sb
  have sc := hide sc
  have sd := hide sd
  have sk := hide sk
  go_region_held3 (fun w' => Below w8.heap.size w8 w' ∧ ∀ b o, b < w8.heap.size → w'.cell? ⟨b, o, none⟩ = w8.cell? ⟨b, o, none⟩) (first | assumption | (refine same_of ?_; (repeat (first | with_reducible exact Below.refl _ _ | with_reducible assumption | (with_reducible refine bl_set ?_ (by simp; try omega) _) | (with_reducible refine bl_alloc ?_ _) | (with_reducible refine bl_dn ?_ _) | (with_reducible refine bl_drew ?_) | (with_reducible refine bl_then ?_ (by with_reducible assumption)))))) (first
    | (go_at_call 56; (have _t := t0); (obtain ⟨hbb, _⟩ := (by assumption : Below w8.heap.size w8 _ ∧ _)); refine (ints_any _ _ [6, 15] 2 rfl (by omega) _ (sl_2 (by simp [go_sem, *]) (by simp [go_sem, *]))).mono ?_; rintro e wi0 ⟨hg0, V0, cu0, rfl, hsl0, hge, hcp⟩; have hS := same_of (bl_then hbb hg0); (obtain ⟨hci0, hfi0, hzi0⟩ := bcell hg0); have hsl0 := hide hsl0; clear hbb hge hcp _t t0; have t1 : True := trivial)
    | (go_at_call 54; (have _t := t1); (obtain ⟨hbb, _⟩ := (by assumption : Below w8.heap.size w8 _ ∧ _)); refine (is11_yes (vec 1 [6, 15]) (vec 1 [6, 15]) _ _ _ _ (same_refl _) (by decide) (by decide) _ (sa.out.below hbb) (hsl0.out.below (by clear hbb; (repeat (first | with_reducible exact Below.refl _ _ | with_reducible assumption | (with_reducible refine bl_set ?_ (by simp; try omega) _) | (with_reducible refine bl_alloc ?_ _) | (with_reducible refine bl_dn ?_ _) | (with_reducible refine bl_drew ?_) | (with_reducible refine bl_then ?_ (by with_reducible assumption))))))).mono ?_; rintro e wi1 ⟨rfl, hg1⟩; have hS := same_of (bl_then hbb hg1); (obtain ⟨hci1, hfi1, hzi1⟩ := bcell hg1); clear hbb hsl0 _t t1; have t2 : True := trivial)
    | (go_at_call 78; (have _t := t2); (obtain ⟨hbb, _⟩ := (by assumption : Below w8.heap.size w8 _ ∧ _)); refine (matrix_any 1 2 3 _ 6 [1, 3, 6, 4, 9, 15] (by decide) _ (sl_6 (by simp [go_sem, *]) (by simp [go_sem, *]) (by simp [go_sem, *]) (by simp [go_sem, *]) (by simp [go_sem, *]) (by simp [go_sem, *]))).mono ?_; rintro e wi2 ⟨hg2, V2, cu2, rfl, hsl2, hge, hcp⟩; have hS := same_of (bl_then hbb hg2); (obtain ⟨hci2, hfi2, hzi2⟩ := bcell hg2); have hsl2 := hide hsl2; clear hbb hge hcp _t t2; have t3 : True := trivial)
    | (go_at_call 54; (have _t := t3); (obtain ⟨hbb, _⟩ := (by assumption : Below w8.heap.size w8 _ ∧ _)); refine (is11_yes (mat 2 3 [1, 3, 6, 4, 9, 15]) (mat 2 3 [1, 3, 6, 4, 9, 15]) _ _ _ _ (same_refl _) (by decide) (by decide) _ (sb.out.below hbb) (hsl2.out.below (by clear hbb; (repeat (first | with_reducible exact Below.refl _ _ | with_reducible assumption | (with_reducible refine bl_set ?_ (by simp; try omega) _) | (with_reducible refine bl_alloc ?_ _) | (with_reducible refine bl_dn ?_ _) | (with_reducible refine bl_drew ?_) | (with_reducible refine bl_then ?_ (by with_reducible assumption))))))).mono ?_; rintro e wi3 ⟨rfl, hg3⟩; have hS := same_of (bl_then hbb hg3); (obtain ⟨hci3, hfi3, hzi3⟩ := bcell hg3); clear hbb hsl2 _t t3; have t4 : True := trivial)
    | (go_at_call 57; (have _t := t4); (obtain ⟨hbb, _⟩ := (by assumption : Below w8.heap.size w8 _ ∧ _)); refine (int_any 1 _).mono ?_; rintro e wi4 ⟨hg4, V4, cu4, rfl, hsl4, hge, hcp⟩; have hS := same_of (bl_then hbb hg4); (obtain ⟨hci4, hfi4, hzi4⟩ := bcell hg4); have hsl4 := hide hsl4; clear hbb hge hcp _t t4; have t5 : True := trivial)
    | (go_at_call 54; (have _t := t5); (obtain ⟨hbb, _⟩ := (by assumption : Below w8.heap.size w8 _ ∧ _)); refine (is11_yes (sca 1 1) (sca 1 1) _ _ _ _ (same_refl _) (by decide) (by decide) _ (sc.out.below hbb) (hsl4.out.below (by clear hbb; (repeat (first | with_reducible exact Below.refl _ _ | with_reducible assumption | (with_reducible refine bl_set ?_ (by simp; try omega) _) | (with_reducible refine bl_alloc ?_ _) | (with_reducible refine bl_dn ?_ _) | (with_reducible refine bl_drew ?_) | (with_reducible refine bl_then ?_ (by with_reducible assumption))))))).mono ?_; rintro e wi5 ⟨rfl, hg5⟩; have hS := same_of (bl_then hbb hg5); (obtain ⟨hci5, hfi5, hzi5⟩ := bcell hg5); clear hbb hsl4 _t t5; have t6 : True := trivial)
    | (go_at_call 57; (have _t := t6); (obtain ⟨hbb, _⟩ := (by assumption : Below w8.heap.size w8 _ ∧ _)); refine (int_any 3 _).mono ?_; rintro e wi6 ⟨hg6, V6, cu6, rfl, hsl6, hge, hcp⟩; have hS := same_of (bl_then hbb hg6); (obtain ⟨hci6, hfi6, hzi6⟩ := bcell hg6); have hsl6 := hide hsl6; clear hbb hge hcp _t t6; have t7 : True := trivial)
    | (go_at_call 54; (have _t := t7); (obtain ⟨hbb, _⟩ := (by assumption : Below w8.heap.size w8 _ ∧ _)); refine (is11_yes (sca 1 3) (sca 1 3) _ _ _ _ (same_refl _) (by decide) (by decide) _ (sd.out.below hbb) (hsl6.out.below (by clear hbb; (repeat (first | with_reducible exact Below.refl _ _ | with_reducible assumption | (with_reducible refine bl_set ?_ (by simp; try omega) _) | (with_reducible refine bl_alloc ?_ _) | (with_reducible refine bl_dn ?_ _) | (with_reducible refine bl_drew ?_) | (with_reducible refine bl_then ?_ (by with_reducible assumption))))))).mono ?_; rintro e wi7 ⟨rfl, hg7⟩; have hS := same_of (bl_then hbb hg7); (obtain ⟨hci7, hfi7, hzi7⟩ := bcell hg7); clear hbb hsl6 _t t7; have t8 : True := trivial)
    | (go_at_call 56; (have _t := t8); (obtain ⟨hbb, _⟩ := (by assumption : Below w8.heap.size w8 _ ∧ _)); refine (ints_any _ _ [0, 0] 2 rfl (by omega) _ (sl_2 (by simp [go_sem, *]) (by simp [go_sem, *]))).mono ?_; rintro e wi8 ⟨hg8, V8, cu8, rfl, hsl8, hge, hcp⟩; have hS := same_of (bl_then hbb hg8); (obtain ⟨hci8, hfi8, hzi8⟩ := bcell hg8); have hsl8 := hide hsl8; clear hbb hge hcp _t t8; have t9 : True := trivial)
    | (go_at_call 54; (have _t := t9); (obtain ⟨hbb, _⟩ := (by assumption : Below w8.heap.size w8 _ ∧ _)); refine (is11_yes (vec 1 [0, 0]) (vec 1 [0, 0]) _ _ _ _ (same_refl _) (by decide) (by decide) _ (sk.out.below hbb) (hsl8.out.below (by clear hbb; (repeat (first | with_reducible exact Below.refl _ _ | with_reducible assumption | (with_reducible refine bl_set ?_ (by simp; try omega) _) | (with_reducible refine bl_alloc ?_ _) | (with_reducible refine bl_dn ?_ _) | (with_reducible refine bl_drew ?_) | (with_reducible refine bl_then ?_ (by with_reducible assumption))))))).mono ?_; rintro e wi9 ⟨rfl, hg9⟩; have hS := same_of (bl_then hbb hg9); (obtain ⟨hci9, hfi9, hzi9⟩ := bcell hg9); clear hbb hsl8 _t t9; have t10 : True := trivial))
  all_goals
    go_wp2
    go_ret
    exact ⟨rfl, bl_then hbw.out (by clear hbw; (repeat (first | with_reducible exact Below.refl _ _ | with_reducible assumption | (with_reducible refine bl_set ?_ (by simp; try omega) _) | (with_reducible refine bl_alloc ?_ _) | (with_reducible refine bl_dn ?_ _) | (with_reducible refine bl_drew ?_) | (with_reducible refine bl_then ?_ (by with_reducible assumption)))))⟩
end Ar
end Go.Proofs.Ytfpnafeildigaaa
