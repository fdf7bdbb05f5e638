/-
The walk of FoldsScans (chapter 11).
-/
import Derived.Test.YtfpnafeildigaaaFoS
set_option linter.unusedSimpArgs false
set_option linter.unusedVariables false
namespace Go.Proofs.Ytfpnafeildigaaa
namespace Ar
open Go.RowKit Sc
theorem lastE_take {Y : List Int} {k : Nat} (h : k < Y.length) : lastE 0 (Y.take (k + 1)) = Y.getD k 0 := by
  rw [take_succ_getD h, lastE_snoc]
set_option maxRecDepth 100000 in
set_option maxHeartbeats 8000000 in
theorem scans_walk (a : Arr) (A : Option Addr) (c : Nat) (hla : a.xs.length ≤ 9223372036854775807) (f0 : Fits a.l0) (f1 : Fits a.l1) (hx : ∀ x ∈ a.xs, Fits x) (hcA : a.xs.length ≤ c) (w : World) (hs : Sl w A a.xs) :
    Calls Try.prog 13 #[.agg #[.int .i64 a.k, .int .i64 a.r, .int .i64 a.l0, .int .i64 a.l1, .slice A a.xs.length c]] w fun e w' => e = .returned (.bool true) ∧ Below w.heap.size w w' := by
  have HX := hide hx
  have HC := hide hcA
  have neqs := fun (p q r s : Int) (w : World) => neq_lens p q r s w
  clear hx hcA
  go_enter Try.func13, Try.ntmps13
  go_wp2_with fail
  have st0 := hide ((St.init w).box c hs)
  obtain ⟨hbw, ⟨⟨a0, a1, a2, a3, a4⟩, sa, za⟩, _⟩ := st0.out
  go_wp2_with fail
  refine (good_any a A c hla f0 f1 _ (hs.below (by (repeat (first | with_reducible exact Below.refl _ _ | with_reducible assumption | (with_reducible refine bl_set ?_ (by simp; try omega) _) | (with_reducible refine bl_alloc ?_ _) | (with_reducible refine bl_dn ?_ _) | (with_reducible refine bl_drew ?_) | (with_reducible refine bl_then ?_ (by with_reducible assumption))))))).mono ?_
  cases hG : goodB a
  · rintro e w1 ⟨rfl, hg1⟩
    (go_wp2_with fail; refine (awake11 _).mono ?_; rintro e w99 ⟨rfl, hg99⟩; go_wp2; go_ret; exact ⟨rfl, by (repeat (first | with_reducible exact Below.refl _ _ | with_reducible assumption | (with_reducible refine bl_set ?_ (by simp; try omega) _) | (with_reducible refine bl_alloc ?_ _) | (with_reducible refine bl_dn ?_ _) | (with_reducible refine bl_drew ?_) | (with_reducible refine bl_then ?_ (by with_reducible assumption))))⟩)
  have hG := hide hG
  rintro e w1 ⟨rfl, hg1⟩
  have st1 := hide (st0.out.below hg1)
  clear hbw st0 hg1; clear a0 a1 a2 a3 a4 sa za
  have HA : Hid (Fine a) := ⟨by have := (goodB_yes hG.out).1; omega, f0, f1, HX.out⟩
  have HF := hide (good_chkF hG.out)
  have HK := hide (goodB_yes hG.out).2.1
  have HR0 : Hid (a.r ≠ 0) := by have := (goodB_yes hG.out).2.2.2; show _ ≠ _; omega
  have hrr : 0 < a.r ∧ a.r ≤ 2 := by have := (goodB_yes hG.out).2.2.2; have h2 := (sh_ok (chk_sh HK.out).1).1; omega
  obtain ⟨er, R, hR⟩ : ∃ er R, extSum a = (er, R) := ⟨_, _, rfl⟩
  obtain ⟨es, U, hU⟩ : ∃ er R, extScan a = (er, R) := ⟨_, _, rfl⟩
  have HR := hide hR; have HU := hide hU
  obtain ⟨hE1, hE2⟩ := scans_err HF.out
  rw [hR, hU] at hE1
  rw [hU, hR] at hE2
  have hE1 : er = es := hE1
  subst hE1
  have HE2 := hide hE2
  clear hR hU hs hE2
  obtain ⟨hbw, ⟨⟨a0, a1, a2, a3, a4⟩, sa, za⟩, _⟩ := st1.out
  go_wp2_with fail
  refine (fsum_go a _ HA HC HR _ (sa.below (by (repeat (first | with_reducible exact Below.refl _ _ | with_reducible assumption | (with_reducible refine bl_set ?_ (by simp; try omega) _) | (with_reducible refine bl_alloc ?_ _) | (with_reducible refine bl_dn ?_ _) | (with_reducible refine bl_drew ?_) | (with_reducible refine bl_then ?_ (by with_reducible assumption))))))).mono ?_
  rintro e v2 ⟨hgv2, Cv2, cv2, rfl, hsv2, hgev2, hcpv2⟩
  clear a0 a1 a2 a3 a4 sa za
  have st2x := hide (st1.out.below hgv2)
  clear hbw hgv2 hgev2 st1
  go_upto_region 4 with fail
  have st2 := hide (st2x.out.box cv2 hsv2 25)
  change Code.wp _ _ _ _ (v2.alloc (.cells #[.int .i64 R.k, .int .i64 R.r, .int .i64 R.l0, .int .i64 R.l1, .slice Cv2 R.xs.length cv2] 25))
  generalize (v2.alloc (.cells #[.int .i64 R.k, .int .i64 R.r, .int .i64 R.l0, .int .i64 R.l1, .slice Cv2 R.xs.length cv2] 25)) = w2 at *
  generalize v2.heap.size = P2 at *
  clear st2x
  obtain ⟨hbw, _, ⟨⟨a0, a1, a2, a3, a4⟩, sa, za⟩, _⟩ := st2.out
  go_wp2_with fail
  refine (fscan_go a _ HA HC HU _ (sa.below (by (repeat (first | with_reducible exact Below.refl _ _ | with_reducible assumption | (with_reducible refine bl_set ?_ (by simp; try omega) _) | (with_reducible refine bl_alloc ?_ _) | (with_reducible refine bl_dn ?_ _) | (with_reducible refine bl_drew ?_) | (with_reducible refine bl_then ?_ (by with_reducible assumption))))))).mono ?_
  rintro e v3 ⟨hgv3, Cv3, cv3, rfl, hsv3, hgev3, hcpv3⟩
  clear a0 a1 a2 a3 a4 sa za
  have st3x := hide (st2.out.below hgv3)
  clear hbw hgv3 hgev3 st2
  go_upto_region 5 with fail
  have st3 := hide (st3x.out.box cv3 hsv3 25)
  change Code.wp _ _ _ _ (v3.alloc (.cells #[.int .i64 U.k, .int .i64 U.r, .int .i64 U.l0, .int .i64 U.l1, .slice Cv3 U.xs.length cv3] 25))
  generalize (v3.alloc (.cells #[.int .i64 U.k, .int .i64 U.r, .int .i64 U.l0, .int .i64 U.l1, .slice Cv3 U.xs.length cv3] 25)) = w3 at *
  generalize v3.heap.size = P3 at *
  clear st3x
  obtain ⟨hbw, ⟨⟨u0, u1, u2, u3, u4⟩, su, zu⟩, ⟨⟨r0, r1, r2, r3, r4⟩, sr, zr⟩, ⟨⟨a0, a1, a2, a3, a4⟩, sa, za⟩, _⟩ := st3.out
  by_cases he : er = 0
  rotate_left
  · obtain ⟨h12, hz1, hz2⟩ := HE2.out he
    have h12 : er = 12 := h12
    have hz1 : U = .zero := hz1
    have hz2 : R = .zero := hz2
    subst h12 hz1 hz2
    have hz : Arr.zero.xs.length = 0 := rfl
    clear he
    go_wp2_with fail
    refine (awake11 _).mono ?_
    rintro e w99 ⟨rfl, hg99⟩
    go_wp2
    go_ret
    exact ⟨rfl, by (repeat (first | with_reducible exact Below.refl _ _ | with_reducible assumption | (with_reducible refine bl_set ?_ (by simp; try omega) _) | (with_reducible refine bl_alloc ?_ _) | (with_reducible refine bl_dn ?_ _) | (with_reducible refine bl_drew ?_) | (with_reducible refine bl_then ?_ (by with_reducible assumption))))⟩
  subst he
  obtain ⟨m, n, hmn, hml⟩ : ∃ m n : Nat, rowsOf a = ((m : Int), (n : Int)) ∧ m ≤ 400 ∧ n ≤ 400 := by obtain ⟨m, n, e, _, h1, h2⟩ := rows_nat HK.out HR0.out; exact ⟨m, n, e, h1, h2⟩
  obtain ⟨hm4, hn4⟩ := hml
  have L := scans_ok HF.out (by rw [HU.out]) hmn
  rw [HR.out, HU.out] at L
  obtain ⟨L1, L2, L3, L4, L5, L6, L7, L8, L9, L10⟩ := L
  have L1 : R.xs.length = m := L1
  have L2 : R.r = a.r - 1 := L2
  have L3 : U.r = a.r := L3
  have L4 : U.l0 = a.l0 := L4
  have L5 : U.l1 = a.l1 := L5
  have L6 : U.xs.length = a.xs.length := L6
  have L7 : U.k = 1 := L7
  have L8 : R.k = 1 := L8
  have HMN := hide hmn; have H1 := hide L1; have H6 := hide L6; have H9 := hide L9; have H10 := hide L10
  have ew : IntKind.i64.wrap (a.r - 1) = a.r - 1 := IntWalk.i64_in _ (by omega)
  rw [L7] at u0; rw [L3] at u1; rw [L4] at u2; rw [L5] at u3; rw [L6] at u4
  rw [L8] at r0; rw [L2] at r1; rw [L1] at r4
  clear L1 L2 L3 L4 L5 L6 L7 L8 L9 L10 hmn HE2
  go_wp2_with fail
  refine (width_any a A c HK.out HR0.out _).mono ?_
  rw [HMN.out]
  rintro e w4 ⟨rfl, hg4⟩
  have st4 := hide (st3.out.below hg4)
  have u0' := (hg4.cell (p := ⟨P3, 0, none⟩) zu).trans u0; have u1' := (hg4.cell (p := ⟨P3, 1, none⟩) zu).trans u1; have u2' := (hg4.cell (p := ⟨P3, 2, none⟩) zu).trans u2; have u3' := (hg4.cell (p := ⟨P3, 3, none⟩) zu).trans u3; have u4' := (hg4.cell (p := ⟨P3, 4, none⟩) zu).trans u4
  have r0' := (hg4.cell (p := ⟨P2, 0, none⟩) zr).trans r0; have r1' := (hg4.cell (p := ⟨P2, 1, none⟩) zr).trans r1; have r4' := (hg4.cell (p := ⟨P2, 4, none⟩) zr).trans r4
  clear hbw hg4 st3; clear a0 a1 a2 a3 a4 sa za; clear u0 u1 u2 u3 u4 su zu; clear r0 r1 r2 r3 r4 sr zr
  obtain ⟨hbw, _, _, ⟨⟨a0, a1, a2, a3, a4⟩, sa, za⟩, _⟩ := st4.out
  go_wp2
  clear u0' u1' u2' u3' u4' r0' r1' r4' hbw neqs ew; clear a0 a1 a2 a3 a4 sa za
  go_loopw [9] (fun s9 wr => ∃ (i : Nat), i ≤ m ∧ s9 = .int .i64 i ∧ Hid (Below w4.heap.size w4 wr)) (fun s9 _ => m - (intOf s9).toNat)
  case atStart => exact ⟨0, Nat.zero_le _, rfl, Below.refl _ _⟩
  case round =>
    obtain ⟨i, hi, rfl, hbl⟩ := hrel
    by_cases hlt : i < m
    · obtain ⟨Y, hY1, hY2, hY3, hY4⟩ := H10.out i hlt
      have HY1 := hide hY1; have HY2 := hide hY2; have HY3 := hide hY3; have HY4 := hide hY4
      clear hY1 hY2 hY3 hY4
      obtain ⟨q, hq⟩ : ∃ q, i * n = q := ⟨_, rfl⟩
      have HQ := hide hq
      have q1 : q + n ≤ a.xs.length := by rw [← hq]; exact row_end H9.out hlt
      have q1 := hide q1
      clear hq
      go_wp2
      go_loopw [10, 11] (fun s10 s11 wr' => ∃ (k : Nat), k ≤ n ∧ s10 = .int .i64 (lastE 0 (Y.take k)) ∧ s11 = .int .i64 k ∧ Hid (Below w4.heap.size w4 wr')) (fun _ s11 _ => n - (intOf s11).toNat)
      case atStart => exact ⟨0, Nat.zero_le _, rfl, rfl, hbl⟩
      case round =>
        clear hbl
        obtain ⟨k, hk, rfl, rfl, hbl⟩ := hrel
        have st5 := hide (st4.out.below hbl.out)
        by_cases hlt2 : k < n
        · obtain ⟨hbw, ⟨⟨u0, u1, u2, u3, u4⟩, su, zu⟩, ⟨⟨r0, r1, r2, r3, r4⟩, sr, zr⟩, ⟨⟨a0, a1, a2, a3, a4⟩, sa, za⟩, _⟩ := st5.out
          rw [H6.out] at u4
          obtain ⟨g, hg⟩ : ∃ g, q + k = g := ⟨_, rfl⟩
          have hgl : g < a.xs.length := by have := q1.out; omega
          obtain ⟨b1, o1, y, eA, hb1, hc1, hy⟩ := su.at_ (k := g) (by have := H6.out; omega)
          obtain ⟨b2, o2, x, eB, hb2, hc2, hx2⟩ := sa.at_ (k := g) hgl
          have hyy := HY4.out k hlt2
          rw [HQ.out, hg] at hyy
          have hfx : Fits x := HX.out x (by rw [← hx2.out]; exact getD_in 0 hgl)
          have hyv : y = lastE 0 (Y.take k) + x := by rw [← hy.out, ← hx2.out]; exact hyy.1.trans hyy.2
          have HN : Hid (lastE 0 (Y.take (k + 1)) = y) := by show _ = _; rw [lastE_take (by rw [HY1.out]; exact hlt2), ← hy.out]; exact hyy.1.symm
          obtain ⟨l, hl⟩ : ∃ l, lastE 0 (Y.take k) = l := ⟨_, rfl⟩
          rw [hl] at hyv ⊢
          have e3 : IntKind.i64.wrap (y - l) = x := by rw [show y - l = x by omega]; exact IntWalk.i64_in _ hfx
          have e1 : IntKind.i64.wrap ((i : Int) * (n : Int)) = (q : Int) := wrap_nat (by rw [← HQ.out, Int.natCast_mul]) (by have := q1.out; have := HA.out.1; omega)
          have e2 : IntKind.i64.wrap ((q : Int) + (k : Int)) = (g : Int) := wrap_nat (by omega) (by have := q1.out; have := HA.out.1; omega)
          have hgi : (g : Int) < (a.xs.length : Int) := by omega
          subst eA eB
          clear hl hyv hyy hy hx2 hg hfx su sa
          go_wp2
          go_region
          all_goals
            go_wp2
            go_roundw
            case rel => exact ⟨k + 1, by omega, by rw [HN.out], by go_num, hbl.out.drew⟩
            case measure => simp [intOf]; omega
        · have e : k = n := by omega
          subst e
          obtain ⟨hbw, ⟨⟨u0, u1, u2, u3, u4⟩, su, zu⟩, ⟨⟨r0, r1, r2, r3, r4⟩, sr, zr⟩, ⟨⟨a0, a1, a2, a3, a4⟩, sa, za⟩, _⟩ := st5.out
          rw [H1.out] at r4
          obtain ⟨b1, o1, y, eA, hb1, hc1, hy⟩ := sr.at_ (k := i) (by have := H1.out; omega)
          have hl : lastE 0 (Y.take k) = y := by rw [List.take_of_length_le (by rw [HY1.out]; exact Nat.le_refl _), ← hy.out]; exact HY3.out.symm
          rw [hl]
          have him : (i : Int) < (m : Int) := by omega
          subst eA
          clear hl hy sr
          go_wp2
          go_roundw
          case rel => exact ⟨i + 1, by omega, by go_num, hbl⟩
          case measure => simp [intOf]; omega
    · have hbw := bl_then st4.out.1 hbl.out
      go_wp2_with fail
      refine (awake11 _).mono ?_
      rintro e w99 ⟨rfl, hg99⟩
      go_wp2
      go_ret
      exact ⟨rfl, by (repeat (first | with_reducible exact Below.refl _ _ | with_reducible assumption | (with_reducible refine bl_set ?_ (by simp; try omega) _) | (with_reducible refine bl_alloc ?_ _) | (with_reducible refine bl_dn ?_ _) | (with_reducible refine bl_drew ?_) | (with_reducible refine bl_then ?_ (by with_reducible assumption))))⟩
end Ar
end Go.Proofs.Ytfpnafeildigaaa
