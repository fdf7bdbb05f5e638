/-
The walk of FoldsBounds (chapter 11).
-/
import Derived.Test.YtfpnafeildigaaaFoX
import Derived.Test.YtfpnafeildigaaaFoY
set_option linter.unusedSimpArgs false
set_option linter.unusedVariables false
namespace Go.Proofs.Ytfpnafeildigaaa
namespace Ar
open Go.RowKit Sc
theorem rone_go (p : Int) (a : Arr) (A : Option Addr) (c : Nat) (ha : Hid (Fine a)) {er : Int} {R : Arr} (hE : Hid (extOne p a = (er, R))) (w : World) (hs : Sl w A a.xs) :
    Calls Try.prog 22 #[.int .i64 p, .agg #[.int .i64 a.k, .int .i64 a.r, .int .i64 a.l0, .int .i64 a.l1, .slice A a.xs.length c]] w fun e w' => Below w.heap.size w w' ∧ ∃ (C : Option Addr) (n : Nat), e = .returned (.tuple #[.agg #[.int .i64 R.k, .int .i64 R.r, .int .i64 R.l0, .int .i64 R.l1, .slice C R.xs.length n], .int .i64 er]) ∧ Sl w' C R.xs ∧ (∀ g o, C = some ⟨g, o, none⟩ → w.heap.size ≤ g) ∧ R.xs.length ≤ n := by
  have h := rone_any p a A c ha.out.1 ha.out.2.1 ha.out.2.2.1 ha.out.2.2.2 w hs
  rw [hE.out] at h
  exact h
set_option maxRecDepth 100000 in
set_option maxHeartbeats 8000000 in
theorem bounds_walk (a : Arr) (A : Option Addr) (c : Nat) (hla : a.xs.length ≤ 9223372036854775807) (f0 : Fits a.l0) (f1 : Fits a.l1) (hx : ∀ x ∈ a.xs, Fits x) (hcA : a.xs.length ≤ c) (w : World) (hs : Sl w A a.xs) :
    Calls Try.prog 14 #[.agg #[.int .i64 a.k, .int .i64 a.r, .int .i64 a.l0, .int .i64 a.l1, .slice A a.xs.length c]] w fun e w' => e = .returned (.bool true) ∧ Below w.heap.size w w' := by
  have HX := hide hx
  have HC := hide hcA
  clear hx hcA
  go_enter Try.func14, Try.ntmps14
  go_wp2_with fail
  have st0 := hide ((St.init w).box c hs)
  obtain ⟨hbw, ⟨⟨a0, a1, a2, a3, a4⟩, sa, za⟩, _⟩ := st0.out
  go_wp2_with fail
  refine (good_any a A c hla f0 f1 _ (hs.below (by (repeat (first | with_reducible exact Below.refl _ _ | with_reducible assumption | (with_reducible refine bl_set ?_ (by simp; try omega) _) | (with_reducible refine bl_alloc ?_ _) | (with_reducible refine bl_dn ?_ _) | (with_reducible refine bl_drew ?_) | (with_reducible refine bl_then ?_ (by with_reducible assumption))))))).mono ?_
  cases hG : goodB a
  · rintro e w1 ⟨rfl, hg1⟩
    (go_wp2_with fail; refine (awake11 _).mono ?_; rintro e w99 ⟨rfl, hg99⟩; go_wp2; go_ret; exact ⟨rfl, by (repeat (first | with_reducible exact Below.refl _ _ | with_reducible assumption | (with_reducible refine bl_set ?_ (by simp; try omega) _) | (with_reducible refine bl_alloc ?_ _) | (with_reducible refine bl_dn ?_ _) | (with_reducible refine bl_drew ?_) | (with_reducible refine bl_then ?_ (by with_reducible assumption))))⟩)
  have hG := hide hG
  rintro e w1 ⟨rfl, hg1⟩
  have st1 := hide (st0.out.below hg1)
  clear hbw st0 hg1; clear a0 a1 a2 a3 a4 sa za
  have HA : Hid (Fine a) := ⟨by have := (goodB_yes hG.out).1; omega, f0, f1, HX.out⟩
  have HF := hide (good_chkF hG.out)
  have HK := hide (goodB_yes hG.out).2.1
  have HR0 : Hid (0 < a.r) := (goodB_yes hG.out).2.2.2
  obtain ⟨m, n, hmn, hmn4⟩ : ∃ m n : Nat, rowsOf a = ((m : Int), (n : Int)) ∧ m ≤ 400 ∧ n ≤ 400 := by obtain ⟨m, n, e, _, h1, h2⟩ := rows_nat HK.out (by have := HR0.out; omega); exact ⟨m, n, e, h1, h2⟩
  obtain ⟨hm4, hn4⟩ := hmn4
  have HMN := hide hmn
  clear hmn hs f0 f1
  by_cases hz : 0 < m ∧ n = 0
  · obtain ⟨hm, rfl⟩ := hz
    have HL : Hid (extEnd 31 a = (13, .zero)) := ends_bad HF.out HMN.out hm rfl
    have HH : Hid (extEnd 32 a = (13, .zero)) := ends_bad HF.out HMN.out hm rfl
    have hmi : (0 : Int) < (m : Int) := by omega
    obtain ⟨Z, hZ⟩ : ∃ Z, Arr.zero = Z := ⟨_, rfl⟩
    rw [hZ] at HL HH
    clear hZ hm
    obtain ⟨hbw, ⟨⟨a0, a1, a2, a3, a4⟩, sa, za⟩, _⟩ := st1.out
    (go_wp2_with fail; refine (fleast_go a _ HA HC HL _ (sa.below (by (repeat (first | with_reducible exact Below.refl _ _ | with_reducible assumption | (with_reducible refine bl_set ?_ (by simp; try omega) _) | (with_reducible refine bl_alloc ?_ _) | (with_reducible refine bl_dn ?_ _) | (with_reducible refine bl_drew ?_) | (with_reducible refine bl_then ?_ (by with_reducible assumption))))))).mono ?_; rintro e v2 ⟨hgv2, Cv2, cv2, rfl, hsv2, hgev2, hcpv2⟩)
    clear a0 a1 a2 a3 a4 sa za
    (have st2x := hide (st1.out.below hgv2); clear hbw hgv2 hgev2 st1; go_upto_region 4 with fail; have st2 := hide (st2x.out.box (a := Z) cv2 hsv2 25); change Code.wp _ _ _ _ (v2.alloc (.cells #[.int .i64 Z.k, .int .i64 Z.r, .int .i64 Z.l0, .int .i64 Z.l1, .slice Cv2 Z.xs.length cv2] 25)); generalize (v2.alloc (.cells #[.int .i64 Z.k, .int .i64 Z.r, .int .i64 Z.l0, .int .i64 Z.l1, .slice Cv2 Z.xs.length cv2] 25)) = w2 at *; generalize v2.heap.size = P2 at *; clear st2x)
    obtain ⟨hbw, _, ⟨⟨a0, a1, a2, a3, a4⟩, sa, za⟩, _⟩ := st2.out
    (go_wp2_with fail; refine (fmost_go a _ HA HC HH _ (sa.below (by (repeat (first | with_reducible exact Below.refl _ _ | with_reducible assumption | (with_reducible refine bl_set ?_ (by simp; try omega) _) | (with_reducible refine bl_alloc ?_ _) | (with_reducible refine bl_dn ?_ _) | (with_reducible refine bl_drew ?_) | (with_reducible refine bl_then ?_ (by with_reducible assumption))))))).mono ?_; rintro e v3 ⟨hgv3, Cv3, cv3, rfl, hsv3, hgev3, hcpv3⟩)
    clear a0 a1 a2 a3 a4 sa za
    (have st3x := hide (st2.out.below hgv3); clear hbw hgv3 hgev3 st2; go_upto_region 5 with fail; have st3 := hide (st3x.out.box (a := Z) cv3 hsv3 25); change Code.wp _ _ _ _ (v3.alloc (.cells #[.int .i64 Z.k, .int .i64 Z.r, .int .i64 Z.l0, .int .i64 Z.l1, .slice Cv3 Z.xs.length cv3] 25)); generalize (v3.alloc (.cells #[.int .i64 Z.k, .int .i64 Z.r, .int .i64 Z.l0, .int .i64 Z.l1, .slice Cv3 Z.xs.length cv3] 25)) = w3 at *; generalize v3.heap.size = P3 at *; clear st3x)
    obtain ⟨hbw, _, _, ⟨⟨a0, a1, a2, a3, a4⟩, sa, za⟩, _⟩ := st3.out
    go_wp2_with fail
    refine (width_any a A c HK.out (by have := HR0.out; omega) _).mono ?_
    rw [HMN.out]
    rintro e w4 ⟨rfl, hg4⟩
    have st4 := hide (st3.out.below hg4)
    clear hbw hg4 st3; clear a0 a1 a2 a3 a4 sa za
    have hbw := st4.out.1
    (go_wp2_with fail; refine (awake11 _).mono ?_; rintro e w99 ⟨rfl, hg99⟩; go_wp2; go_ret; exact ⟨rfl, by (repeat (first | with_reducible exact Below.refl _ _ | with_reducible assumption | (with_reducible refine bl_set ?_ (by simp; try omega) _) | (with_reducible refine bl_alloc ?_ _) | (with_reducible refine bl_dn ?_ _) | (with_reducible refine bl_drew ?_) | (with_reducible refine bl_then ?_ (by with_reducible assumption))))⟩)
  obtain ⟨low, high, hL, hH, hl1, hh1, hx2, hB⟩ := ends_bounds hG.out HMN.out hz
  have HL := hide hL; have HH := hide hH; have HL1 := hide hl1; have HH1 := hide hh1; have HX2 := hide hx2; have HB := hide hB
  have HZ := hide hz
  clear hL hH hl1 hh1 hx2 hB hz
  obtain ⟨hbw, ⟨⟨a0, a1, a2, a3, a4⟩, sa, za⟩, _⟩ := st1.out
  go_wp2_with fail
  refine (fleast_go a _ HA HC HL _ (sa.below (by (repeat (first | with_reducible exact Below.refl _ _ | with_reducible assumption | (with_reducible refine bl_set ?_ (by simp; try omega) _) | (with_reducible refine bl_alloc ?_ _) | (with_reducible refine bl_dn ?_ _) | (with_reducible refine bl_drew ?_) | (with_reducible refine bl_then ?_ (by with_reducible assumption))))))).mono ?_
  rintro e v2 ⟨hgv2, Cv2, cv2, rfl, hsv2, hgev2, hcpv2⟩
  clear a0 a1 a2 a3 a4 sa za
  have st2x := hide (st1.out.below hgv2)
  clear hbw hgv2 hgev2 st1
  go_upto_region 4 with fail
  have st2 := hide (st2x.out.box cv2 hsv2 25)
  change Code.wp _ _ _ _ (v2.alloc (.cells #[.int .i64 low.k, .int .i64 low.r, .int .i64 low.l0, .int .i64 low.l1, .slice Cv2 low.xs.length cv2] 25))
  generalize (v2.alloc (.cells #[.int .i64 low.k, .int .i64 low.r, .int .i64 low.l0, .int .i64 low.l1, .slice Cv2 low.xs.length cv2] 25)) = w2 at *
  generalize v2.heap.size = P2 at *
  clear st2x
  obtain ⟨hbw, _, ⟨⟨a0, a1, a2, a3, a4⟩, sa, za⟩, _⟩ := st2.out
  go_wp2_with fail
  refine (fmost_go a _ HA HC HH _ (sa.below (by (repeat (first | with_reducible exact Below.refl _ _ | with_reducible assumption | (with_reducible refine bl_set ?_ (by simp; try omega) _) | (with_reducible refine bl_alloc ?_ _) | (with_reducible refine bl_dn ?_ _) | (with_reducible refine bl_drew ?_) | (with_reducible refine bl_then ?_ (by with_reducible assumption))))))).mono ?_
  rintro e v3 ⟨hgv3, Cv3, cv3, rfl, hsv3, hgev3, hcpv3⟩
  clear a0 a1 a2 a3 a4 sa za
  have st3x := hide (st2.out.below hgv3)
  clear hbw hgv3 hgev3 st2
  go_upto_region 5 with fail
  have st3 := hide (st3x.out.box cv3 hsv3 25)
  change Code.wp _ _ _ _ (v3.alloc (.cells #[.int .i64 high.k, .int .i64 high.r, .int .i64 high.l0, .int .i64 high.l1, .slice Cv3 high.xs.length cv3] 25))
  generalize (v3.alloc (.cells #[.int .i64 high.k, .int .i64 high.r, .int .i64 high.l0, .int .i64 high.l1, .slice Cv3 high.xs.length cv3] 25)) = w3 at *
  generalize v3.heap.size = P3 at *
  clear st3x
  obtain ⟨hbw, _, _, ⟨⟨a0, a1, a2, a3, a4⟩, sa, za⟩, _⟩ := st3.out
  go_wp2_with fail
  refine (width_any a A c HK.out (by have := HR0.out; omega) _).mono ?_
  rw [HMN.out]
  rintro e w4 ⟨rfl, hg4⟩
  have st4 := hide (st3.out.below hg4)
  clear hbw hg4 st3; clear a0 a1 a2 a3 a4 sa za
  go_upto_region 6 with fail
  go_cut [52] from 28 (fun s52 wx => s52 = .bool false ∧ w4 = wx)
  case first =>
    by_cases hm : 0 < m
    · have hn : ((n : Int) == 0) = false := by have := HZ.out; simp; omega
      have hmi : (0 : Int) < (m : Int) := by omega
      go_wp2
      go_meet
      exact ⟨rfl, rfl⟩
    · have hm0 : m = 0 := by omega
      subst hm0
      clear hm
      go_wp2
      go_meet
      exact ⟨rfl, rfl⟩
  case rest =>
    obtain ⟨rfl, rfl⟩ := hcut
    obtain ⟨hbw, ⟨⟨v0, v1, v2, v3, v4⟩, sv, zv⟩, ⟨⟨u0, u1, u2, u3, u4⟩, su, zu⟩, _, _⟩ := st4.out
    rw [HH1.out] at v4; rw [HL1.out] at u4
    go_wp2
    clear hbw; clear v0 v1 v2 v3 v4 sv zv; clear u0 u1 u2 u3 u4 su zu
    go_loopw [9] (fun s9 wr => ∃ (i : Nat), i ≤ m ∧ s9 = .int .i64 i ∧ Hid (Below w4.heap.size w4 wr)) (fun s9 _ => m - (intOf s9).toNat)
    case atStart => exact ⟨0, Nat.zero_le _, rfl, Below.refl _ _⟩
    case round =>
      obtain ⟨i, hi, rfl, hbl⟩ := hrel
      by_cases hlt : i < m
      · obtain ⟨B1, B2, B3⟩ := HB.out i hlt
        obtain ⟨q, hq⟩ : ∃ q, i * n = q := ⟨_, rfl⟩
        rw [hq] at B1 B2 B3
        have HB1 := hide B1; have HB2 := hide (seen_all B2); have HB3 := hide (seen_all B3)
        have HQ := hide hq
        have q1 : q + n ≤ a.xs.length := by rw [← hq]; exact row_end HX2.out hlt
        have q1 := hide q1
        obtain ⟨lo, hlo⟩ : ∃ v, low.xs.getD i 0 = v := ⟨_, rfl⟩
        obtain ⟨hi2, hhi⟩ : ∃ v, high.xs.getD i 0 = v := ⟨_, rfl⟩
        rw [hlo] at HB1 HB2; rw [hhi] at HB1 HB3
        have HLO := hide hlo; have HHI := hide hhi
        have HLT := hide hlt
        clear hq B1 B2 B3 hlo hhi
        go_wp2
        go_loopw [10, 11, 12] (fun s10 s11 s12 wr' => ∃ (k : Nat), k ≤ n ∧ s10 = .bool (seen a.xs lo q k) ∧ s11 = .bool (seen a.xs hi2 q k) ∧ s12 = .int .i64 k ∧ Hid (Below w4.heap.size w4 wr')) (fun _ _ s12 _ => n - (intOf s12).toNat)
        case atStart => exact ⟨0, Nat.zero_le _, rfl, rfl, rfl, hbl⟩
        case round =>
          clear hbl
          obtain ⟨k, hk, rfl, rfl, rfl, hbl⟩ := hrel
          by_cases hlt2 : k < n
          · have st5 := hide (st4.out.below hbl.out)
            obtain ⟨hbw, ⟨⟨v0, v1, v2, v3, v4⟩, sv, zv⟩, ⟨⟨u0, u1, u2, u3, u4⟩, su, zu⟩, ⟨⟨a0, a1, a2, a3, a4⟩, sa, za⟩, _⟩ := st5.out
            rw [HH1.out] at v4; rw [HL1.out] at u4
            obtain ⟨g, hg⟩ : ∃ g, q + k = g := ⟨_, rfl⟩
            have hgl : g < a.xs.length := by have := q1.out; omega
            obtain ⟨b1, o1, x, eA, hb1, hc1, hx1⟩ := sa.at_ (k := g) hgl
            obtain ⟨b2, o2, y, eB, hb2, hc2, hy2⟩ := su.at_ (k := i) (by have := HL1.out; have := HLT.out; omega)
            obtain ⟨b3, o3, z, eC, hb3, hc3, hz3⟩ := sv.at_ (k := i) (by have := HH1.out; have := HLT.out; omega)
            have ey : y = lo := by rw [← hy2.out]; exact HLO.out
            have ez : z = hi2 := by rw [← hz3.out]; exact HHI.out
            obtain ⟨c1, c2⟩ := HB1.out k hlt2
            rw [hg, hx1.out] at c1 c2
            have d1 : decide (x < lo) = false := by simp; omega
            have d2 : decide (hi2 < x) = false := by simp; omega
            have S1 : Hid (seen a.xs lo q (k + 1) = (seen a.xs lo q k || x == lo)) := by show _ = _; rw [seen_succ, hg, hx1.out]
            have S2 : Hid (seen a.xs hi2 q (k + 1) = (seen a.xs hi2 q k || x == hi2)) := by show _ = _; rw [seen_succ, hg, hx1.out]
            have e1 : IntKind.i64.wrap ((i : Int) * (n : Int)) = (q : Int) := wrap_nat (by rw [← HQ.out, Int.natCast_mul]) (by have := q1.out; have := HA.out.1; omega)
            have e2 : IntKind.i64.wrap ((q : Int) + (k : Int)) = (g : Int) := wrap_nat (by omega) (by have := q1.out; have := HA.out.1; omega)
            have hgi : (g : Int) < (a.xs.length : Int) := by omega
            have him : (i : Int) < (m : Int) := by have := HLT.out; omega
            subst eA eB eC ey ez
            clear hx1 hy2 hz3 hg c1 c2 HB1 HLO HHI sa su sv
            obtain ⟨u1, hu1⟩ : ∃ b, seen a.xs y q k = b := ⟨_, rfl⟩
            obtain ⟨u2, hu2⟩ : ∃ b, seen a.xs z q k = b := ⟨_, rfl⟩
            rw [hu1] at S1 ⊢; rw [hu2] at S2 ⊢
            clear hu1 hu2
            go_upto_region 20 with fail
            clear d1 d2
            cases u1 <;> cases u2
            all_goals
              go_quiet (fail)
              go_wp2
              go_roundw
              case rel => exact ⟨k + 1, by omega, by rw [S1.out]; simp, by rw [S2.out]; simp, by go_num, hide (bl_dn hbl.out _)⟩
              case measure => simp [intOf]; omega
          · have e : k = n := by omega
            subst e
            rw [HB2.out, HB3.out]
            go_wp2
            go_roundw
            case rel => exact ⟨i + 1, by have := HLT.out; omega, by go_num, hbl⟩
            case measure => simp [intOf]; have := HLT.out; omega
      · have st5 := hide (st4.out.below hbl.out)
        clear hbl st4
        have HT : Hid (extRev a = (0, turned a)) := turned_rev HK.out HR0.out
        have HT1 : Hid (extEnd 31 (turned a) = (0, low)) := (least_turned HK.out HR0.out).trans HL.out
        obtain ⟨ec, V, hV⟩ : ∃ er R, extCount a = (er, R) := ⟨_, _, rfl⟩
        have HT2 : Hid (extCount (turned a) = (ec, V)) := (count_turned HK.out HR0.out).trans hV
        have hec : ec = 0 := by
          have hk : chkF false a = 0 := chkF_yes HK.out (by rintro ⟨e, _⟩; cases e) (by have := HR0.out; omega)
          have r0 : (mapG countRow (rowsL a)).1 = 0 := (mapG_iff _ _).2 (fun _ _ => rfl)
          have := extFold_ok hk (Prod.ext r0 rfl)
          rw [show extFold false countRow a = (ec, V) from hV] at this
          exact congrArg Prod.fst this
        subst hec
        have HV := hide hV
        obtain ⟨T, hT⟩ : ∃ T, turned a = T := ⟨_, rfl⟩
        have HFT : Hid (Fine (turned a)) := fine_turned HK.out HA.out
        have HKT := hide (turned_chk HK.out)
        rw [hT] at HT HT1 HT2 HFT HKT
        have LL : Hid (low.xs.length ≤ 9223372036854775807) := by have := HL1.out; show _ ≤ _; omega
        have LH : Hid (high.xs.length ≤ 9223372036854775807) := by have := HH1.out; show _ ≤ _; omega
        have LV : Hid (V.xs.length ≤ 9223372036854775807) := by have := extFold_len false countRow a; rw [show extFold false countRow a = (0, V) from HV.out] at this; exact Nat.le_trans this (by decide)
        clear hV hT
        obtain ⟨hbw, _, _, ⟨⟨a0, a1, a2, a3, a4⟩, sa, za⟩, _⟩ := st5.out
        go_wp2_with fail; refine (rev_go a _ _ HK HT _ (sa.below (by (repeat (first | with_reducible exact Below.refl _ _ | with_reducible assumption | (with_reducible refine bl_set ?_ (by simp; try omega) _) | (with_reducible refine bl_alloc ?_ _) | (with_reducible refine bl_dn ?_ _) | (with_reducible refine bl_drew ?_) | (with_reducible refine bl_then ?_ (by with_reducible assumption))))))).mono ?_; rintro e v6 ⟨hgv6, Cv6, cv6, rfl, hsv6, hgev6, hcpv6⟩
        clear a0 a1 a2 a3 a4 sa za
        (have st6x := hide (st5.out.below hgv6); clear hbw hgv6 hgev6 st5; go_upto_region 24 with fail; have st6 := hide (st6x.out.box (a := T) cv6 hsv6 25); change Code.wp _ _ _ _ (v6.alloc (.cells #[.int .i64 T.k, .int .i64 T.r, .int .i64 T.l0, .int .i64 T.l1, .slice Cv6 T.xs.length cv6] 25)); generalize (v6.alloc (.cells #[.int .i64 T.k, .int .i64 T.r, .int .i64 T.l0, .int .i64 T.l1, .slice Cv6 T.xs.length cv6] 25)) = w6 at *; generalize v6.heap.size = P6 at *; clear st6x)
        have HCT := hide hcpv6
        obtain ⟨hbw, ⟨⟨t0, t1, t2, t3, t4⟩, st, zt⟩, _⟩ := st6.out
        (go_wp2_with fail; refine (fleast_go T _ HFT HCT HT1 _ (st.below (by (repeat (first | with_reducible exact Below.refl _ _ | with_reducible assumption | (with_reducible refine bl_set ?_ (by simp; try omega) _) | (with_reducible refine bl_alloc ?_ _) | (with_reducible refine bl_dn ?_ _) | (with_reducible refine bl_drew ?_) | (with_reducible refine bl_then ?_ (by with_reducible assumption))))))).mono ?_; rintro e v7 ⟨hgv7, Cv7, cv7, rfl, hsv7, hgev7, hcpv7⟩)
        clear t0 t1 t2 t3 t4 st zt
        (have st7x := hide (st6.out.below hgv7); clear hbw hgv7 hgev7 st6; go_upto_region 25 with fail; have st7 := hide (st7x.out.box (a := low) cv7 hsv7 25); change Code.wp _ _ _ _ (v7.alloc (.cells #[.int .i64 low.k, .int .i64 low.r, .int .i64 low.l0, .int .i64 low.l1, .slice Cv7 low.xs.length cv7] 25)); generalize (v7.alloc (.cells #[.int .i64 low.k, .int .i64 low.r, .int .i64 low.l0, .int .i64 low.l1, .slice Cv7 low.xs.length cv7] 25)) = w7 at *; generalize v7.heap.size = P7 at *; clear st7x)
        obtain ⟨hbw, _, ⟨⟨t0, t1, t2, t3, t4⟩, st, zt⟩, _⟩ := st7.out
        (go_wp2_with fail; refine (fcount_go T _ HFT HCT HT2 _ (st.below (by (repeat (first | with_reducible exact Below.refl _ _ | with_reducible assumption | (with_reducible refine bl_set ?_ (by simp; try omega) _) | (with_reducible refine bl_alloc ?_ _) | (with_reducible refine bl_dn ?_ _) | (with_reducible refine bl_drew ?_) | (with_reducible refine bl_then ?_ (by with_reducible assumption))))))).mono ?_; rintro e v8 ⟨hgv8, Cv8, cv8, rfl, hsv8, hgev8, hcpv8⟩)
        clear t0 t1 t2 t3 t4 st zt
        (have st8x := hide (st7.out.below hgv8); clear hbw hgv8 hgev8 st7; go_upto_region 26 with fail; have st8 := hide (st8x.out.box (a := V) cv8 hsv8 25); change Code.wp _ _ _ _ (v8.alloc (.cells #[.int .i64 V.k, .int .i64 V.r, .int .i64 V.l0, .int .i64 V.l1, .slice Cv8 V.xs.length cv8] 25)); generalize (v8.alloc (.cells #[.int .i64 V.k, .int .i64 V.r, .int .i64 V.l0, .int .i64 V.l1, .slice Cv8 V.xs.length cv8] 25)) = w8 at *; generalize v8.heap.size = P8 at *; clear st8x)
        obtain ⟨hbw, _, _, _, _, _, ⟨⟨a0, a1, a2, a3, a4⟩, sa, za⟩, _⟩ := st8.out
        (go_wp2_with fail; refine (fcount_go a _ HA HC HV _ (sa.below (by (repeat (first | with_reducible exact Below.refl _ _ | with_reducible assumption | (with_reducible refine bl_set ?_ (by simp; try omega) _) | (with_reducible refine bl_alloc ?_ _) | (with_reducible refine bl_dn ?_ _) | (with_reducible refine bl_drew ?_) | (with_reducible refine bl_then ?_ (by with_reducible assumption))))))).mono ?_; rintro e v9 ⟨hgv9, Cv9, cv9, rfl, hsv9, hgev9, hcpv9⟩)
        clear a0 a1 a2 a3 a4 sa za
        (have st9x := hide (st8.out.below hgv9); clear hbw hgv9 hgev9 st8; go_upto_region 27 with fail; have st9 := hide (st9x.out.box (a := V) cv9 hsv9 25); change Code.wp _ _ _ _ (v9.alloc (.cells #[.int .i64 V.k, .int .i64 V.r, .int .i64 V.l0, .int .i64 V.l1, .slice Cv9 V.xs.length cv9] 25)); generalize (v9.alloc (.cells #[.int .i64 V.k, .int .i64 V.r, .int .i64 V.l0, .int .i64 V.l1, .slice Cv9 V.xs.length cv9] 25)) = w9 at *; generalize v9.heap.size = P9 at *; clear st9x)
        obtain ⟨hbw, _, _, ⟨⟨x0, x1, x2, x3, x4⟩, sx, zx⟩, _, _, ⟨⟨u0, u1, u2, u3, u4⟩, su, zu⟩, _⟩ := st9.out
        go_wp2_with fail
        refine (is11_yes low low _ _ _ _ (same_refl _) LL.out LL.out _ (sx.below (by (repeat (first | with_reducible exact Below.refl _ _ | with_reducible assumption | (with_reducible refine bl_set ?_ (by simp; try omega) _) | (with_reducible refine bl_alloc ?_ _) | (with_reducible refine bl_dn ?_ _) | (with_reducible refine bl_drew ?_) | (with_reducible refine bl_then ?_ (by with_reducible assumption)))))) (su.below (by (repeat (first | with_reducible exact Below.refl _ _ | with_reducible assumption | (with_reducible refine bl_set ?_ (by simp; try omega) _) | (with_reducible refine bl_alloc ?_ _) | (with_reducible refine bl_dn ?_ _) | (with_reducible refine bl_drew ?_) | (with_reducible refine bl_then ?_ (by with_reducible assumption))))))).mono ?_
        rintro e v10 ⟨rfl, hgv10⟩
        have st10 := hide (st9.out.below hgv10)
        clear hbw st9; clear x0 x1 x2 x3 x4 sx zx; clear u0 u1 u2 u3 u4 su zu
        obtain ⟨hbw, ⟨⟨x0, x1, x2, x3, x4⟩, sx, zx⟩, ⟨⟨u0, u1, u2, u3, u4⟩, su, zu⟩, _, _, _, _, ⟨⟨a0, a1, a2, a3, a4⟩, sa, za⟩, _⟩ := st10.out
        go_wp2_with fail
        refine (is11_yes V V _ _ _ _ (same_refl _) LV.out LV.out _ (sx.below (by (repeat (first | with_reducible exact Below.refl _ _ | with_reducible assumption | (with_reducible refine bl_set ?_ (by simp; try omega) _) | (with_reducible refine bl_alloc ?_ _) | (with_reducible refine bl_dn ?_ _) | (with_reducible refine bl_drew ?_) | (with_reducible refine bl_then ?_ (by with_reducible assumption)))))) (su.below (by (repeat (first | with_reducible exact Below.refl _ _ | with_reducible assumption | (with_reducible refine bl_set ?_ (by simp; try omega) _) | (with_reducible refine bl_alloc ?_ _) | (with_reducible refine bl_dn ?_ _) | (with_reducible refine bl_drew ?_) | (with_reducible refine bl_then ?_ (by with_reducible assumption))))))).mono ?_
        rintro e v11 ⟨rfl, hgv11⟩
        have st11 := hide (st10.out.below hgv11)
        clear hbw st10; clear x0 x1 x2 x3 x4 sx zx; clear u0 u1 u2 u3 u4 su zu; clear a0 a1 a2 a3 a4 sa za
        obtain ⟨hbw, _, _, _, _, _, _, ⟨⟨a0, a1, a2, a3, a4⟩, sa, za⟩, _⟩ := st11.out
        obtain ⟨en, N, hN⟩ : ∃ er R, extOne 1 a = (er, R) := ⟨_, _, rfl⟩
        have HN := hide hN
        clear hN
        go_wp2_with fail
        refine (rone_go 1 a _ _ HA HN _ (sa.below (by (repeat (first | with_reducible exact Below.refl _ _ | with_reducible assumption | (with_reducible refine bl_set ?_ (by simp; try omega) _) | (with_reducible refine bl_alloc ?_ _) | (with_reducible refine bl_dn ?_ _) | (with_reducible refine bl_drew ?_) | (with_reducible refine bl_then ?_ (by with_reducible assumption))))))).mono ?_
        rintro e v12 ⟨hgv12, Cv12, cv12, rfl, hsv12, hgev12, hcpv12⟩
        clear a0 a1 a2 a3 a4 sa za
        (have st12x := hide (st11.out.below hgv12); clear hbw hgv12 hgev12 st11; go_upto_region 30 with fail; have st12 := hide (st12x.out.box (a := N) cv12 hsv12 25); change Code.wp _ _ _ _ (v12.alloc (.cells #[.int .i64 N.k, .int .i64 N.r, .int .i64 N.l0, .int .i64 N.l1, .slice Cv12 N.xs.length cv12] 25)); generalize (v12.alloc (.cells #[.int .i64 N.k, .int .i64 N.r, .int .i64 N.l0, .int .i64 N.l1, .slice Cv12 N.xs.length cv12] 25)) = w12 at *; generalize v12.heap.size = P12 at *; clear st12x)
        by_cases hen : en = 0
        rotate_left
        · have h1 : (en != 0) = true := by simpa using hen
          have hbw := st12.out.1
          clear hen
          (go_wp2_with fail; refine (awake11 _).mono ?_; rintro e w99 ⟨rfl, hg99⟩; go_wp2; go_ret; exact ⟨rfl, by (repeat (first | with_reducible exact Below.refl _ _ | with_reducible assumption | (with_reducible refine bl_set ?_ (by simp; try omega) _) | (with_reducible refine bl_alloc ?_ _) | (with_reducible refine bl_dn ?_ _) | (with_reducible refine bl_drew ?_) | (with_reducible refine bl_then ?_ (by with_reducible assumption))))⟩)
        subst hen
        obtain ⟨Y, hY1, hY2⟩ := neg_ends hG.out HX.out HN.out HH.out
        have HY1 := hide hY1; have HY2 := hide hY2
        have HFN := hide (fine_neg HK.out (goodB_yes hG.out).2.2.1 HA.out HN.out)
        have HFY := hide (fine_least (neg_chkF hG.out HN.out) HFN.out hY1)
        have HCN := hide hcpv12
        clear hY1 hY2
        obtain ⟨hbw, ⟨⟨t0, t1, t2, t3, t4⟩, st, zt⟩, _⟩ := st12.out
        (go_wp2_with fail; refine (fleast_go N _ HFN HCN HY1 _ (st.below (by (repeat (first | with_reducible exact Below.refl _ _ | with_reducible assumption | (with_reducible refine bl_set ?_ (by simp; try omega) _) | (with_reducible refine bl_alloc ?_ _) | (with_reducible refine bl_dn ?_ _) | (with_reducible refine bl_drew ?_) | (with_reducible refine bl_then ?_ (by with_reducible assumption))))))).mono ?_; rintro e v13 ⟨hgv13, Cv13, cv13, rfl, hsv13, hgev13, hcpv13⟩)
        clear t0 t1 t2 t3 t4 st zt
        (have st13x := hide (st12.out.below hgv13); clear hbw hgv13 hgev13 st12; go_upto_region 33 with fail; have st13 := hide (st13x.out.box (a := Y) cv13 hsv13 25); change Code.wp _ _ _ _ (v13.alloc (.cells #[.int .i64 Y.k, .int .i64 Y.r, .int .i64 Y.l0, .int .i64 Y.l1, .slice Cv13 Y.xs.length cv13] 25)); generalize (v13.alloc (.cells #[.int .i64 Y.k, .int .i64 Y.r, .int .i64 Y.l0, .int .i64 Y.l1, .slice Cv13 Y.xs.length cv13] 25)) = w13 at *; generalize v13.heap.size = P13 at *; clear st13x)
        obtain ⟨hbw, ⟨⟨t0, t1, t2, t3, t4⟩, st, zt⟩, _⟩ := st13.out
        go_wp2_with fail
        refine (rone_go 1 Y _ _ HFY HY2 _ (st.below (by (repeat (first | with_reducible exact Below.refl _ _ | with_reducible assumption | (with_reducible refine bl_set ?_ (by simp; try omega) _) | (with_reducible refine bl_alloc ?_ _) | (with_reducible refine bl_dn ?_ _) | (with_reducible refine bl_drew ?_) | (with_reducible refine bl_then ?_ (by with_reducible assumption))))))).mono ?_
        rintro e v14 ⟨hgv14, Cv14, cv14, rfl, hsv14, hgev14, hcpv14⟩
        clear t0 t1 t2 t3 t4 st zt
        (have st14x := hide (st13.out.below hgv14); clear hbw hgv14 hgev14 st13; go_upto_region 34 with fail; have st14 := hide (st14x.out.box (a := high) cv14 hsv14 25); change Code.wp _ _ _ _ (v14.alloc (.cells #[.int .i64 high.k, .int .i64 high.r, .int .i64 high.l0, .int .i64 high.l1, .slice Cv14 high.xs.length cv14] 25)); generalize (v14.alloc (.cells #[.int .i64 high.k, .int .i64 high.r, .int .i64 high.l0, .int .i64 high.l1, .slice Cv14 high.xs.length cv14] 25)) = w14 at *; generalize v14.heap.size = P14 at *; clear st14x)
        obtain ⟨hbw, ⟨⟨x0, x1, x2, x3, x4⟩, sx, zx⟩, _, _, _, _, _, _, ⟨⟨u0, u1, u2, u3, u4⟩, su, zu⟩, _⟩ := st14.out
        go_wp2_with fail
        refine (is11_yes high high _ _ _ _ (same_refl _) LH.out LH.out _ (sx.below (by (repeat (first | with_reducible exact Below.refl _ _ | with_reducible assumption | (with_reducible refine bl_set ?_ (by simp; try omega) _) | (with_reducible refine bl_alloc ?_ _) | (with_reducible refine bl_dn ?_ _) | (with_reducible refine bl_drew ?_) | (with_reducible refine bl_then ?_ (by with_reducible assumption)))))) (su.below (by (repeat (first | with_reducible exact Below.refl _ _ | with_reducible assumption | (with_reducible refine bl_set ?_ (by simp; try omega) _) | (with_reducible refine bl_alloc ?_ _) | (with_reducible refine bl_dn ?_ _) | (with_reducible refine bl_drew ?_) | (with_reducible refine bl_then ?_ (by with_reducible assumption))))))).mono ?_
        rintro e v15 ⟨rfl, hgv15⟩
        have st15 := hide (st14.out.below hgv15)
        clear hbw st14; clear x0 x1 x2 x3 x4 sx zx; clear u0 u1 u2 u3 u4 su zu
        have hbw := st15.out.1
        (go_wp2_with fail; refine (awake11 _).mono ?_; rintro e w99 ⟨rfl, hg99⟩; go_wp2; go_ret; exact ⟨rfl, by (repeat (first | with_reducible exact Below.refl _ _ | with_reducible assumption | (with_reducible refine bl_set ?_ (by simp; try omega) _) | (with_reducible refine bl_alloc ?_ _) | (with_reducible refine bl_dn ?_ _) | (with_reducible refine bl_drew ?_) | (with_reducible refine bl_then ?_ (by with_reducible assumption))))⟩)
end Ar
end Go.Proofs.Ytfpnafeildigaaa
