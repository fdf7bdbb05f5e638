/-
The walk of FoldsRows (chapter 11).
-/
import Derived.Test.YtfpnafeildigaaaFoW
import Derived.Test.YtfpnafeildigaaaFoT
import Derived.Test.YtfpnafeildigaaaArL11
import Derived.Deep.QuietTactic
import Derived.BigQuiet
set_option linter.unusedSimpArgs false
set_option linter.unusedVariables false
namespace Go.Proofs.Ytfpnafeildigaaa
namespace Ar
open Go.RowKit Sc
theorem vecQ_go (k : Int) (A : Option Addr) (c : Nat) {n : Nat} {xs : List Int} {Q : Arr} (hQ : Hid (vec' k xs = Q)) (hn : Hid (n = xs.length)) (hl : Hid (xs.length ≤ 100000)) (w : World) (hs : Sl w A xs) :
    Calls Try.prog 36 #[.int .i64 k, .slice A n c] w fun e w' => Below w.heap.size w w' ∧ ∃ (V : Option Addr) (cv : Nat), e = .returned (.agg #[.int .i64 Q.k, .int .i64 Q.r, .int .i64 Q.l0, .int .i64 Q.l1, .slice V Q.xs.length cv]) ∧ Sl w' V Q.xs ∧ (∀ g o, V = some ⟨g, o, none⟩ → w.heap.size ≤ g) ∧ Q.xs.length ≤ cv := by
  have h := vector_go k A c hn hl w hs
  rw [hQ.out] at h
  exact h
set_option maxRecDepth 100000 in
set_option maxHeartbeats 8000000 in
theorem rows_walk (a : Arr) (A : Option Addr) (c : Nat) (hla : a.xs.length ≤ 9223372036854775807) (f0 : Fits a.l0) (f1 : Fits a.l1) (hx : ∀ x ∈ a.xs, Fits x) (hcA : a.xs.length ≤ c) (w : World) (hs : Sl w A a.xs) :
    Calls Try.prog 16 #[.agg #[.int .i64 a.k, .int .i64 a.r, .int .i64 a.l0, .int .i64 a.l1, .slice A a.xs.length c]] w fun e w' => e = .returned (.bool true) ∧ Below w.heap.size w w' := by
  have HX := hide hx
  have HC := hide hcA
  clear hx hcA
  go_enter Try.func16, Try.ntmps16
  go_wp2_with fail
  have st0 := hide ((St.init w).box c hs)
  obtain ⟨hbw, ⟨⟨a0, a1, a2, a3, a4⟩, sa, za⟩, _⟩ := st0.out
  go_wp2_with fail
  refine (good_any a A c hla f0 f1 _ (hs.below (by (repeat (first | with_reducible exact Below.refl _ _ | with_reducible assumption | (with_reducible refine bl_set ?_ (by simp; try omega) _) | (with_reducible refine bl_alloc ?_ _) | (with_reducible refine bl_dn ?_ _) | (with_reducible refine bl_drew ?_) | (with_reducible refine bl_then ?_ (by with_reducible assumption))))))).mono ?_
  cases hG : goodB a
  · rintro e w1 ⟨rfl, hg1⟩
    (go_wp2_with fail; refine (awake11 _).mono ?_; rintro e w99 ⟨rfl, hg99⟩; go_wp2; go_ret; exact ⟨rfl, by (repeat (first | with_reducible exact Below.refl _ _ | with_reducible assumption | (with_reducible refine bl_set ?_ (by simp; try omega) _) | (with_reducible refine bl_alloc ?_ _) | (with_reducible refine bl_dn ?_ _) | (with_reducible refine bl_drew ?_) | (with_reducible refine bl_then ?_ (by with_reducible assumption))))⟩)
  have hG := hide hG
  rintro e w1 ⟨rfl, hg1⟩
  have st1 := hide (st0.out.below hg1)
  clear hbw st0 hg1; clear a0 a1 a2 a3 a4 sa za
  have HA : Hid (Fine a) := ⟨by have := (goodB_yes hG.out).1; omega, f0, f1, HX.out⟩
  cases hra : (a.r != 2)
  rotate_left
  · obtain ⟨hbw, ⟨⟨a0, a1, a2, a3, a4⟩, sa, za⟩, _⟩ := st1.out
    (go_wp2_with fail; refine (awake11 _).mono ?_; rintro e w99 ⟨rfl, hg99⟩; go_wp2; go_ret; exact ⟨rfl, by (repeat (first | with_reducible exact Below.refl _ _ | with_reducible assumption | (with_reducible refine bl_set ?_ (by simp; try omega) _) | (with_reducible refine bl_alloc ?_ _) | (with_reducible refine bl_dn ?_ _) | (with_reducible refine bl_drew ?_) | (with_reducible refine bl_then ?_ (by with_reducible assumption))))⟩)
  have ra : Hid (a.r = 2) := by show _ = _; simpa using hra
  have HF := hide (good_chkF hG.out)
  have HK := hide (goodB_yes hG.out).2.1
  have HR0 : Hid (a.r ≠ 0) := by have := ra.out; show _ ≠ _; omega
  obtain ⟨es, R, hR⟩ : ∃ er R, extSum a = (er, R) := ⟨_, _, rfl⟩
  obtain ⟨el, U, hU⟩ : ∃ er R, extEnd 31 a = (er, R) := ⟨_, _, rfl⟩
  obtain ⟨m, n, hmn, hmn4⟩ : ∃ m n : Nat, rowsOf a = ((m : Int), (n : Int)) ∧ m ≤ 400 ∧ n ≤ 400 := by obtain ⟨m, n, e, _, h1, h2⟩ := rows_nat HK.out HR0.out; exact ⟨m, n, e, h1, h2⟩
  obtain ⟨hm4, hn4⟩ := hmn4
  obtain ⟨V, hV, hV1, hV2⟩ := count_mat hG.out ra.out hmn
  obtain ⟨T1, T2, _, _, T5⟩ := rows_mat hG.out ra.out hmn
  have HR := hide hR; have HU := hide hU; have HV := hide hV; have HMN := hide hmn; have HV1 := hide hV1; have HV2 := hide hV2
  have HT1 := hide T1; have HT2 := hide T2; have HT5 := hide T5
  clear hR hU hV hs f0 f1 hmn hV1 hV2 T1 T2 T5
  obtain ⟨hbw, ⟨⟨a0, a1, a2, a3, a4⟩, sa, za⟩, _⟩ := st1.out
  go_wp2_with fail
  refine (fsum_go a _ HA HC HR _ (sa.below (by (repeat (first | with_reducible exact Below.refl _ _ | with_reducible assumption | (with_reducible refine bl_set ?_ (by simp; try omega) _) | (with_reducible refine bl_alloc ?_ _) | (with_reducible refine bl_dn ?_ _) | (with_reducible refine bl_drew ?_) | (with_reducible refine bl_then ?_ (by with_reducible assumption))))))).mono ?_
  rintro e v2 ⟨hgv2, Cv2, cv2, rfl, hsv2, hgev2, hcpv2⟩
  clear a0 a1 a2 a3 a4 sa za
  have st2x := hide (st1.out.below hgv2)
  clear hbw hgv2 hgev2 st1
  go_upto_region 4 with fail
  have st2 := hide (st2x.out.box cv2 hsv2 25)
  change Code.wp _ _ _ _ (v2.alloc (.cells #[.int .i64 R.k, .int .i64 R.r, .int .i64 R.l0, .int .i64 R.l1, .slice Cv2 R.xs.length cv2] 25))
  generalize (v2.alloc (.cells #[.int .i64 R.k, .int .i64 R.r, .int .i64 R.l0, .int .i64 R.l1, .slice Cv2 R.xs.length cv2] 25)) = w2 at *
  generalize v2.heap.size = P2 at *
  clear st2x
  clear hra
  obtain ⟨hbw, _, ⟨⟨a0, a1, a2, a3, a4⟩, sa, za⟩, _⟩ := st2.out
  go_wp2_with fail
  refine (fleast_go a _ HA HC HU _ (sa.below (by (repeat (first | with_reducible exact Below.refl _ _ | with_reducible assumption | (with_reducible refine bl_set ?_ (by simp; try omega) _) | (with_reducible refine bl_alloc ?_ _) | (with_reducible refine bl_dn ?_ _) | (with_reducible refine bl_drew ?_) | (with_reducible refine bl_then ?_ (by with_reducible assumption))))))).mono ?_
  rintro e v3 ⟨hgv3, Cv3, cv3, rfl, hsv3, hgev3, hcpv3⟩
  clear a0 a1 a2 a3 a4 sa za
  have st3x := hide (st2.out.below hgv3)
  clear hbw hgv3 hgev3 st2
  go_upto_region 5 with fail
  have st3 := hide (st3x.out.box cv3 hsv3 25)
  change Code.wp _ _ _ _ (v3.alloc (.cells #[.int .i64 U.k, .int .i64 U.r, .int .i64 U.l0, .int .i64 U.l1, .slice Cv3 U.xs.length cv3] 25))
  generalize (v3.alloc (.cells #[.int .i64 U.k, .int .i64 U.r, .int .i64 U.l0, .int .i64 U.l1, .slice Cv3 U.xs.length cv3] 25)) = w3 at *
  generalize v3.heap.size = P3 at *
  clear st3x
  obtain ⟨hbw, _, _, ⟨⟨a0, a1, a2, a3, a4⟩, sa, za⟩, _⟩ := st3.out
  go_wp2_with fail
  refine (fcount_go a _ HA HC HV _ (sa.below (by (repeat (first | with_reducible exact Below.refl _ _ | with_reducible assumption | (with_reducible refine bl_set ?_ (by simp; try omega) _) | (with_reducible refine bl_alloc ?_ _) | (with_reducible refine bl_dn ?_ _) | (with_reducible refine bl_drew ?_) | (with_reducible refine bl_then ?_ (by with_reducible assumption))))))).mono ?_
  rintro e v4 ⟨hgv4, Cv4, cv4, rfl, hsv4, hgev4, hcpv4⟩
  clear a0 a1 a2 a3 a4 sa za
  have st4x := hide (st3.out.below hgv4)
  clear hbw hgv4 hgev4 st3
  go_upto_region 6 with fail
  have st4 := hide (st4x.out.box cv4 hsv4 25)
  change Code.wp _ _ _ _ (v4.alloc (.cells #[.int .i64 V.k, .int .i64 V.r, .int .i64 V.l0, .int .i64 V.l1, .slice Cv4 V.xs.length cv4] 25))
  generalize (v4.alloc (.cells #[.int .i64 V.k, .int .i64 V.r, .int .i64 V.l0, .int .i64 V.l1, .slice Cv4 V.xs.length cv4] 25)) = w4 at *
  generalize v4.heap.size = P4 at *
  clear st4x
  obtain ⟨hbw, ⟨⟨v0, v1, v2, v3, v4⟩, sv, zv⟩, _, _, ⟨⟨a0, a1, a2, a3, a4⟩, sa, za⟩, _⟩ := st4.out
  rw [HV1.out] at v4
  go_wp2_with fail
  refine (width_any a A c HK.out HR0.out _).mono ?_
  rw [HMN.out]
  rintro e w5 ⟨rfl, hg5⟩
  have st5 := hide (st4.out.below hg5)
  clear hbw hg5 st4; clear a0 a1 a2 a3 a4 sa za; clear v0 v1 v2 v3 v4 sv zv
  obtain ⟨hbw, ⟨⟨v0, v1, v2, v3, v4⟩, sv, zv⟩, _⟩ := st5.out
  rw [HV1.out] at v4
  go_wp2
  clear hbw; clear v0 v1 v2 v3 v4 sv zv
  obtain ⟨F, hF⟩ : ∃ F : Nat → Int, F = fun i => (mapG sumRow ((rowsL a).take i)).1 := ⟨_, rfl⟩
  obtain ⟨G, hG2⟩ : ∃ F : Nat → Int, F = fun i => (mapG (endRow 31) ((rowsL a).take i)).1 := ⟨_, rfl⟩
  have F0 : F 0 = 0 := by rw [hF]; rfl
  have G0 : G 0 = 0 := by rw [hG2]; rfl
  have HRR := fun (i : Nat) (row : List Int) (hrow : (rowsL a)[i]? = some row) (hc : chk (vec' 1 row) = 0) (eh : Int) (X : Arr) (hX : extSum (vec' 1 row) = (eh, X)) => rows_round HF.out ra.out HT1.out HR.out hrow hc hX
  have HUU := fun (i : Nat) (row : List Int) (hrow : (rowsL a)[i]? = some row) (hc : chk (vec' 1 row) = 0) (eh : Int) (X : Arr) (hX : extEnd 31 (vec' 1 row) = (eh, X)) => rows_round HF.out ra.out HT1.out HU.out hrow hc hX
  have hFi : ∀ i, (mapG sumRow ((rowsL a).take i)).1 = F i := fun i => by rw [hF]
  have hGi : ∀ i, (mapG (endRow 31) ((rowsL a).take i)).1 = G i := fun i => by rw [hG2]
  simp only [hFi] at HRR
  simp only [hGi] at HUU
  have FM : F m = es := by
    have := (rows_fold HF.out ra.out HT1.out (f := sumRow)).1
    rw [show extFold true sumRow a = (es, R) from HR.out] at this
    rw [← hFi, List.take_of_length_le (by rw [HT1.out]; exact Nat.le_refl _)]; exact this.symm
  have GM : G m = el := by
    have := (rows_fold HF.out ra.out HT1.out (f := endRow 31)).1
    rw [show extFold true (endRow 31) a = (el, U) from HU.out] at this
    rw [← hGi, List.take_of_length_le (by rw [HT1.out]; exact Nat.le_refl _)]; exact this.symm
  clear hF hG2 hFi hGi
  have HRR := hide HRR; have HUU := hide HUU; have FM := hide FM; have GM := hide GM
  go_loopw [11, 12, 13] (fun s11 s12 s13 wr => ∃ (i : Nat), i ≤ m ∧ s11 = .int .i64 (F i) ∧ s12 = .int .i64 (G i) ∧ s13 = .int .i64 i ∧ Hid (Below w5.heap.size w5 wr)) (fun _ _ s13 _ => m - (intOf s13).toNat)
  case atStart => exact ⟨0, Nat.zero_le _, by rw [F0], by rw [G0], rfl, Below.refl _ _⟩
  case round =>
    clear F0 G0
    obtain ⟨i, hi, rfl, rfl, rfl, hbl⟩ := hrel
    by_cases hlt : i < m
    · have st6 : Hid (St w5 wr _) := hide ⟨hbl.out, (st5.out.below hbl.out).2⟩
      clear hbl
      obtain ⟨q, hq⟩ : ∃ q, i * n = q := ⟨_, rfl⟩
      have HQ := hide hq
      obtain ⟨r1, r2, r3⟩ := HT5.out i hlt
      rw [hq] at r1 r2 r3
      have q1 : q + n ≤ a.xs.length := by rw [← hq]; exact row_end HT2.out hlt
      have ha1 := HA.out.1
      have e1 : IntKind.i64.wrap ((i : Int) * (n : Int)) = (q : Int) := wrap_nat (by rw [← hq, Int.natCast_mul]) (by omega)
      have e2 : IntKind.i64.wrap ((q : Int) + (n : Int)) = (q : Int) + (n : Int) := IntWalk.i64_in _ (by omega)
      have p1 : ∀ W, (Instr.slice 23 (.slice A a.xs.length c) (some (.int .i64 (q : Int))) (some (.int .i64 ((q : Int) + (n : Int)))) none).run Try.prog W = .ok (.slice (part A q c) n (c - q)) W := fun W => by
        rw [show (q : Int) + (n : Int) = ((q + n : Nat) : Int) by omega, run_part A a.xs.length c q (q + n) (by omega) (by have := HC.out; omega) W, Nat.add_sub_cancel_left]
      obtain ⟨hbw, _, _, _, ⟨⟨a0, a1, a2, a3, a4⟩, sa, za⟩, _⟩ := st6.out
      have pA : Hid (Sl wr (part A q c) ((a.xs.drop q).take n)) := sa.part (m := c) q1 HC.out
      obtain ⟨row, hrow⟩ : ∃ row, (a.xs.drop q).take n = row := ⟨_, rfl⟩
      rw [hrow] at r1 r2 r3 pA
      have hm : ∀ x ∈ row, x ∈ a.xs := fun x hx => by rw [← hrow] at hx; exact List.mem_of_mem_drop (List.mem_of_mem_take hx)
      obtain ⟨Q, hQ⟩ : ∃ Q, vec' 1 row = Q := ⟨_, rfl⟩
      have HFQ : Hid (Fine Q) := by rw [← hQ]; exact fits_row HA.out (by omega) hm
      have lQ : Hid (n = row.length) := r2.symm
      have mQ : Hid (row.length ≤ 100000) := by show _ ≤ _; omega
      obtain ⟨eh, X, hX⟩ : ∃ er R, extSum Q = (er, R) := ⟨_, _, rfl⟩
      obtain ⟨ej, Y, hY⟩ : ∃ er R, extEnd 31 Q = (er, R) := ⟨_, _, rfl⟩
      have HZ := count_vec r3
      rw [r2] at HZ
      obtain ⟨Z, hZ⟩ : ∃ Z : Arr, Z = ⟨1, 0, 0, 0, [(n : Int)]⟩ := ⟨_, rfl⟩
      rw [hQ, ← hZ] at HZ
      have HZ := hide HZ
      have CX := HRR.out i row r1 r3 eh X (by rw [hQ]; exact hX)
      have CY := HUU.out i row r1 r3 ej Y (by rw [hQ]; exact hY)
      have CX := hide CX; have CY := hide CY; have HX2 := hide hX; have HY2 := hide hY; have HQQ := hide hQ; have HZ2 := hide hZ
      have HI := hide hi; have HLT := hide hlt
      clear hX hY hQ hZ r1 r2 r3 hrow hm hq q1 ha1
      go_wp2_with fail
      refine (vecQ_go 1 (part A q c) (c - q) HQQ lQ mQ _ (pA.out.below (by (repeat (first | with_reducible exact Below.refl _ _ | with_reducible assumption | (with_reducible refine bl_set ?_ (by simp; try omega) _) | (with_reducible refine bl_alloc ?_ _) | (with_reducible refine bl_dn ?_ _) | (with_reducible refine bl_drew ?_) | (with_reducible refine bl_then ?_ (by with_reducible assumption))))))).mono ?_
      rintro e v7 ⟨hgv7, Cv7, cv7, rfl, hsv7, hgev7, hcpv7⟩
      clear a0 a1 a2 a3 a4 sa za
      clear e1 e2 p1 pA
      (have st7x := hide (st6.out.below hgv7); clear hbw hgv7 hgev7 st6; go_upto_region 14 with fail; have st7 := hide (st7x.out.box (a := Q) cv7 hsv7 25); change Code.wp _ _ _ _ (v7.alloc (.cells #[.int .i64 Q.k, .int .i64 Q.r, .int .i64 Q.l0, .int .i64 Q.l1, .slice Cv7 Q.xs.length cv7] 25)); generalize (v7.alloc (.cells #[.int .i64 Q.k, .int .i64 Q.r, .int .i64 Q.l0, .int .i64 Q.l1, .slice Cv7 Q.xs.length cv7] 25)) = w7 at *; generalize v7.heap.size = P7 at *; clear st7x)
      have HCQ := hide hcpv7
      obtain ⟨hbw, ⟨⟨q0, q1, q2, q3, q4⟩, sq, zq⟩, _⟩ := st7.out
      (go_wp2_with fail; refine (fsum_go Q _ HFQ HCQ HX2 _ (sq.below (by (repeat (first | with_reducible exact Below.refl _ _ | with_reducible assumption | (with_reducible refine bl_set ?_ (by simp; try omega) _) | (with_reducible refine bl_alloc ?_ _) | (with_reducible refine bl_dn ?_ _) | (with_reducible refine bl_drew ?_) | (with_reducible refine bl_then ?_ (by with_reducible assumption))))))).mono ?_; rintro e v8 ⟨hgv8, Cv8, cv8, rfl, hsv8, hgev8, hcpv8⟩)
      clear q0 q1 q2 q3 q4 sq zq
      (have st8x := hide (st7.out.below hgv8); clear hbw hgv8 hgev8 st7; go_upto_region 15 with fail; have st8 := hide (st8x.out.box (a := X) cv8 hsv8 25); change Code.wp _ _ _ _ (v8.alloc (.cells #[.int .i64 X.k, .int .i64 X.r, .int .i64 X.l0, .int .i64 X.l1, .slice Cv8 X.xs.length cv8] 25)); generalize (v8.alloc (.cells #[.int .i64 X.k, .int .i64 X.r, .int .i64 X.l0, .int .i64 X.l1, .slice Cv8 X.xs.length cv8] 25)) = w8 at *; generalize v8.heap.size = P8 at *; clear st8x)
      obtain ⟨hbw, _, ⟨⟨q0, q1, q2, q3, q4⟩, sq, zq⟩, _⟩ := st8.out
      (go_wp2_with fail; refine (fleast_go Q _ HFQ HCQ HY2 _ (sq.below (by (repeat (first | with_reducible exact Below.refl _ _ | with_reducible assumption | (with_reducible refine bl_set ?_ (by simp; try omega) _) | (with_reducible refine bl_alloc ?_ _) | (with_reducible refine bl_dn ?_ _) | (with_reducible refine bl_drew ?_) | (with_reducible refine bl_then ?_ (by with_reducible assumption))))))).mono ?_; rintro e v9 ⟨hgv9, Cv9, cv9, rfl, hsv9, hgev9, hcpv9⟩)
      clear q0 q1 q2 q3 q4 sq zq
      (have st9x := hide (st8.out.below hgv9); clear hbw hgv9 hgev9 st8; go_upto_region 16 with fail; have st9 := hide (st9x.out.box (a := Y) cv9 hsv9 25); change Code.wp _ _ _ _ (v9.alloc (.cells #[.int .i64 Y.k, .int .i64 Y.r, .int .i64 Y.l0, .int .i64 Y.l1, .slice Cv9 Y.xs.length cv9] 25)); generalize (v9.alloc (.cells #[.int .i64 Y.k, .int .i64 Y.r, .int .i64 Y.l0, .int .i64 Y.l1, .slice Cv9 Y.xs.length cv9] 25)) = w9 at *; generalize v9.heap.size = P9 at *; clear st9x)
      obtain ⟨hbw, _, _, ⟨⟨q0, q1, q2, q3, q4⟩, sq, zq⟩, _⟩ := st9.out
      (go_wp2_with fail; refine (fcount_go Q _ HFQ HCQ HZ _ (sq.below (by (repeat (first | with_reducible exact Below.refl _ _ | with_reducible assumption | (with_reducible refine bl_set ?_ (by simp; try omega) _) | (with_reducible refine bl_alloc ?_ _) | (with_reducible refine bl_dn ?_ _) | (with_reducible refine bl_drew ?_) | (with_reducible refine bl_then ?_ (by with_reducible assumption))))))).mono ?_; rintro e v10 ⟨hgv10, Cv10, cv10, rfl, hsv10, hgev10, hcpv10⟩)
      clear q0 q1 q2 q3 q4 sq zq
      (have st10x := hide (st9.out.below hgv10); clear hbw hgv10 hgev10 st9; go_upto_region 17 with fail; have st10 := hide (st10x.out.box (a := Z) cv10 hsv10 25); change Code.wp _ _ _ _ (v10.alloc (.cells #[.int .i64 Z.k, .int .i64 Z.r, .int .i64 Z.l0, .int .i64 Z.l1, .slice Cv10 Z.xs.length cv10] 25)); generalize (v10.alloc (.cells #[.int .i64 Z.k, .int .i64 Z.r, .int .i64 Z.l0, .int .i64 Z.l1, .slice Cv10 Z.xs.length cv10] 25)) = w10 at *; generalize v10.heap.size = P10 at *; clear st10x)
      obtain ⟨hbw, ⟨⟨z0, z1, z2, z3, z4⟩, sz, zz⟩, ⟨⟨y0, y1, y2, y3, y4⟩, sy, zy⟩, ⟨⟨x0, x1, x2, x3, x4⟩, sx, zx⟩, _, ⟨⟨v0, v1, v2, v3, v4⟩, sv, zv⟩, ⟨⟨u0, u1, u2, u3, u4⟩, su, zu⟩, ⟨⟨r0, r1, r2, r3, r4⟩, sr, zr⟩, _⟩ := st10.out
      have LZ : Z.xs.length = 1 := by rw [HZ2.out]; rfl
      rw [LZ] at z4; rw [HV1.out] at v4
      have him : (i : Int) < (m : Int) := by have := HLT.out; omega
      obtain ⟨b1, o1, z, eA, hb1, hc1, hz⟩ := sz.at_ (k := 0) (by omega)
      have hc1 : w10.cell? ⟨b1, o1, none⟩ = some (.int .i64 z) := hc1
      obtain ⟨b2, o2, y2, eB, hb2, hc2, hy2⟩ := sv.at_ (k := i) (by have := HV1.out; have := HLT.out; omega)
      have ez : z = n := by rw [← hz.out, HZ2.out]; rfl
      have ey : y2 = n := by rw [← hy2.out]; exact HV2.out i HLT.out
      subst eA eB ez ey
      clear hz hy2
      go_quiet (fail)
      have st11 := hide (st10.out.below (bl_dn (Below.refl _ _) nq))
      clear st10 hbw hb1 hb2 hc1 hc2; clear x0 x1 x2 x3 x4 sx zx; clear y0 y1 y2 y3 y4 sy zy; clear u0 u1 u2 u3 u4 su zu; clear r0 r1 r2 r3 r4 sr zr; clear z0 z1 z2 z3 z4 sz zz; clear v0 v1 v2 v3 v4 sv zv
      generalize w10.drewN nq = w11 at *
      have N1 : Hid (F (i + 1) = if (eh != 0 && F i == 0) = true then eh else F i) := by
        show _ = _
        rcases CX.out with ⟨_, c2, _, _, _, _, c6⟩ | ⟨_, c2, c6⟩ | ⟨_, c2, c3, c6⟩ | ⟨_, c2, c3, c6⟩ <;> rw [c6] <;> simp [c2] <;> simp [c3]
      have N2 : Hid (G (i + 1) = if (ej != 0 && G i == 0) = true then ej else G i) := by
        show _ = _
        rcases CY.out with ⟨_, c2, _, _, _, _, c6⟩ | ⟨_, c2, c6⟩ | ⟨_, c2, c3, c6⟩ | ⟨_, c2, c3, c6⟩ <;> rw [c6] <;> simp [c2] <;> simp [c3]
      have PX : Hid ((es = 0 ∧ eh = 0 ∧ X.xs.length = 1 ∧ R.xs.length = m ∧ X.xs.getD 0 0 = R.xs.getD i 0) ∨ (es == 0) = false) := by
        rcases CX.out with ⟨c1, c2, c3, c4, c5, _, c6⟩ | ⟨c1, _⟩ | ⟨c1, _⟩ | ⟨c1, _⟩
        · exact Or.inl ⟨c1, c2, c3, c4, c5⟩
        all_goals exact Or.inr (by simpa using c1)
      have PY : Hid ((el = 0 ∧ ej = 0 ∧ Y.xs.length = 1 ∧ U.xs.length = m ∧ Y.xs.getD 0 0 = U.xs.getD i 0) ∨ (el == 0) = false) := by
        rcases CY.out with ⟨c1, c2, c3, c4, c5, _, c6⟩ | ⟨c1, _⟩ | ⟨c1, _⟩ | ⟨c1, _⟩
        · exact Or.inl ⟨c1, c2, c3, c4, c5⟩
        all_goals exact Or.inr (by simpa using c1)
      clear CX CY
      clear HX2 HY2 HFQ HCQ HZ HRR HUU HT5 HT1
      go_upto_region 19 with fail
      go_cut [124] from 59 to 194 (fun s124 wx => s124 = .bool (eh != 0 && F i == 0) ∧ w11 = wx)
      case first =>
        cases h1 : (eh != 0)
        · go_wp2_with fail
          go_meet
          exact ⟨by rw [h1]; rfl, rfl⟩
        · cases h2 : (F i == 0)
          · go_wp2_with fail
            go_meet
            exact ⟨by rw [h1, h2]; rfl, rfl⟩
          · go_wp2_with fail
            go_meet
            exact ⟨by rw [h1, h2]; rfl, rfl⟩
      case rest => as_aux_lemma =>
        obtain ⟨rfl, rfl⟩ := hcut
        go_upto_if 124 with fail
        go_cut [11] from 59 to 194 (fun s11 wx => s11 = .int .i64 (F (i + 1)) ∧ w11 = wx)
        case first =>
          cases h1 : (eh != 0 && F i == 0)
          · go_wp2_with fail
            go_meet
            exact ⟨by rw [N1.out, h1]; rfl, rfl⟩
          · go_wp2_with fail
            go_meet
            exact ⟨by rw [N1.out, h1]; rfl, rfl⟩
        case rest =>
          obtain ⟨rfl, rfl⟩ := hcut
          go_upto_region 21 with fail
          go_cut [131] from 59 to 194 (fun s131 wx => s131 = .bool (ej != 0 && G i == 0) ∧ w11 = wx)
          case first =>
            cases h1 : (ej != 0)
            · go_wp2_with fail
              go_meet
              exact ⟨by rw [h1]; rfl, rfl⟩
            · cases h2 : (G i == 0)
              · go_wp2_with fail
                go_meet
                exact ⟨by rw [h1, h2]; rfl, rfl⟩
              · go_wp2_with fail
                go_meet
                exact ⟨by rw [h1, h2]; rfl, rfl⟩
          case rest =>
            obtain ⟨rfl, rfl⟩ := hcut
            go_upto_if 131 with fail
            go_cut [12] from 59 to 194 (fun s12 wx => s12 = .int .i64 (G (i + 1)) ∧ w11 = wx)
            case first =>
              cases h1 : (ej != 0 && G i == 0)
              · go_wp2_with fail
                go_meet
                exact ⟨by rw [N2.out, h1]; rfl, rfl⟩
              · go_wp2_with fail
                go_meet
                exact ⟨by rw [N2.out, h1]; rfl, rfl⟩
            case rest =>
              obtain ⟨rfl, rfl⟩ := hcut
              go_upto_region 23 with fail
              go_cut [163] from 59 to 194 (fun s163 wx => s163 = .bool false ∧ ∃ k, wx = w11.drewN k)
              case first => as_aux_lemma =>
                obtain ⟨hbw, _, _, ⟨⟨x0, x1, x2, x3, x4⟩, sx, zx⟩, _, _, _, ⟨⟨r0, r1, r2, r3, r4⟩, sr, zr⟩, _⟩ := st11.out
                rcases PX.out with ⟨c1, c2, c3, c4, c5⟩ | n1
                · obtain ⟨b3, o3, x, eA, hb3, hc3, hx3⟩ := sx.at_ (k := 0) (by omega)
                  have hc3 : w11.cell? ⟨b3, o3, none⟩ = some (.int .i64 x) := hc3
                  obtain ⟨b4, o4, y3, eB, hb4, hc4, hy3⟩ := sr.at_ (k := i) (by have := HLT.out; omega)
                  have ex : x = y3 := by rw [← hx3.out, ← hy3.out]; exact c5
                  rw [c3] at x4; rw [c4] at r4
                  subst eA eB ex c1 c2
                  clear c3 c4 c5 hx3 hy3 sx sr
                  go_quiet (fail)
                  go_wp2
                  go_meet
                  exact ⟨by have := HLT.out; rw [decide_eq_false (by omega)], _, rfl⟩
                · go_quiet (fail)
                  go_wp2
                  go_meet
                  exact ⟨rfl, _, rfl⟩
              case rest => as_aux_lemma =>
                obtain ⟨rfl, k1, rfl⟩ := hcut
                have st12 := hide (st11.out.below (bl_dn (Below.refl _ _) k1))
                clear st11
                generalize w11.drewN k1 = w12 at *
                obtain ⟨hbw, _, ⟨⟨y0, y1, y2, y3, y4⟩, sy, zy⟩, _, _, _, ⟨⟨u0, u1, u2, u3, u4⟩, su, zu⟩, _⟩ := st12.out
                rcases PY.out with ⟨c1, c2, c3, c4, c5⟩ | n1
                · obtain ⟨b3, o3, x, eA, hb3, hc3, hx3⟩ := sy.at_ (k := 0) (by omega)
                  have hc3 : w12.cell? ⟨b3, o3, none⟩ = some (.int .i64 x) := hc3
                  obtain ⟨b4, o4, y3, eB, hb4, hc4, hy3⟩ := su.at_ (k := i) (by have := HLT.out; omega)
                  have ex : x = y3 := by rw [← hx3.out, ← hy3.out]; exact c5
                  rw [c3] at y4; rw [c4] at u4
                  subst eA eB ex c1 c2
                  clear c3 c4 c5 hx3 hy3 sy su
                  go_wp2
                  go_quiet (fail)
                  go_wp2
                  go_roundw
                  case rel => exact ⟨i + 1, by have := HLT.out; omega, rfl, rfl, by go_num, hide (by (repeat (first | with_reducible exact Below.refl _ _ | with_reducible assumption | (with_reducible refine bl_set ?_ (by simp; try omega) _) | (with_reducible refine bl_alloc ?_ _) | (with_reducible refine bl_dn ?_ _) | (with_reducible refine bl_drew ?_) | (with_reducible refine bl_then ?_ (by with_reducible assumption)))))⟩
                  case measure => simp [intOf]; have := HLT.out; omega
                · go_wp2
                  go_quiet (fail)
                  go_wp2
                  go_roundw
                  case rel => exact ⟨i + 1, by have := HLT.out; omega, rfl, rfl, by go_num, hide (by (repeat (first | with_reducible exact Below.refl _ _ | with_reducible assumption | (with_reducible refine bl_set ?_ (by simp; try omega) _) | (with_reducible refine bl_alloc ?_ _) | (with_reducible refine bl_dn ?_ _) | (with_reducible refine bl_drew ?_) | (with_reducible refine bl_then ?_ (by with_reducible assumption)))))⟩
                  case measure => simp [intOf]; have := HLT.out; omega
    · have hbw := bl_then st5.out.1 hbl.out
      have e : i = m := by omega
      subst e
      rw [FM.out, GM.out]
      go_wp2_with fail
      refine (awake11 _).mono ?_
      rintro e w99 ⟨rfl, hg99⟩
      go_wp2
      go_ret
      exact ⟨rfl, by (repeat (first | with_reducible exact Below.refl _ _ | with_reducible assumption | (with_reducible refine bl_set ?_ (by simp; try omega) _) | (with_reducible refine bl_alloc ?_ _) | (with_reducible refine bl_dn ?_ _) | (with_reducible refine bl_drew ?_) | (with_reducible refine bl_then ?_ (by with_reducible assumption))))⟩
end Ar
end Go.Proofs.Ytfpnafeildigaaa
