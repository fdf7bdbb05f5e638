/-
The reference of chapter 21: labels.
-/
import Derived.Test.YtnpkmimbnjnicaaGreatDoorRr1
import Derived.Test.YtnpkmimbnjnicaaGreatDoorRl3
set_option linter.unusedSimpArgs false
set_option linter.unusedVariables false
namespace Go.Proofs.YtnpkmimbnjnicaaGreatDoor
namespace Pr
open Go Go.RowKit En
open Lt
def clsL : List Nat := [16, 0, 0, 16, 1, 2, 16, 3, 4, 5, 6, 6, 7, 0, 16, 14, 14, 14, 14, 14, 15, 15, 15, 15, 15, 15, 15, 15, 15, 15, 15, 15, 15, 8, 8, 9, 10, 11, 12, 16, 13]
def cls (p : Int) : Nat := clsL.getD p.toNat 16
def Arm (p : Int) (q : Nat) : Prop :=
  memI [1, 2, 13] p = (q == 0) ∧ memI [4] p = (q == 1) ∧ memI [5] p = (q == 2) ∧ memI [7] p = (q == 3) ∧ memI [8] p = (q == 4) ∧ memI [9] p = (q == 5) ∧ memI [10, 11] p = (q == 6) ∧ memI [12] p = (q == 7) ∧ memI [33, 34] p = (q == 8) ∧ memI [35] p = (q == 9) ∧ memI [36] p = (q == 10) ∧ memI [37] p = (q == 11) ∧ memI [38] p = (q == 12) ∧ memI [40] p = (q == 13) ∧ extB p = (q == 14 || q == 15) ∧ memI [15, 16, 17, 18, 19] p = (q == 14) ∧ q ≤ 16
instance (p : Int) (q : Nat) : Decidable (Arm p q) := by unfold Arm; infer_instance
theorem arm_fin : ∀ i : Fin 41, i.val = 0 ∨ Arm (i.val : Int) (cls (i.val : Int)) := by decide +kernel
theorem arm_of {p : Int} (h1 : 1 ≤ p) (h2 : p ≤ 40) : Arm p (cls p) := by
  have := arm_fin ⟨p.toNat, by omega⟩
  have e : ((p.toNat : Nat) : Int) = p := Int.toNat_of_nonneg (by omega)
  simp only [e] at this
  rcases this with h | h
  · omega
  · exact h
def rlm (q : Nat) (us : List Int) (ra rb a0 a1 d b0 b1 f z : Int) : MR :=
  match q with
  | 0 => ⟨a0, a1, jI us d f, jI us d f, jI us (jI us a0 a1) (jI us b0 b1)⟩
  | 1 => ⟨z, z, jI us (jI us a0 a1) (jI us b0 b1), z, jI us (jI us a0 a1) (jI us b0 b1)⟩
  | 2 => ⟨jI us (jI us a0 a1) (jI us b0 b1), a1, jI us d f, z, jI us (jI us a0 a1) (jI us b0 b1)⟩
  | 3 => ⟨a1, a0, jI us d f, z, jI us (jI us a0 a1) (jI us b0 b1)⟩
  | 4 => ⟨jI us d f, a1, jI us d f, jI us d f, jI us (jI us (jI us a0 a1) (jI us b0 b1)) (jI us d f)⟩
  | 5 => ⟨a0, a1, jI us d f, jI us d f, jI us (jI us a0 a1) (jI us b0 b1)⟩
  | 6 => ⟨a0, a1, jI us d f, jI us (jI us a0 a1) (jI us b0 b1), jI us (jI us a0 a1) (jI us b0 b1)⟩
  | 7 => ⟨a0, a1, jI us (jI us a0 a1) (jI us b0 b1), z, jI us (jI us a0 a1) (jI us b0 b1)⟩
  | 8 => ⟨jI us d (jI us b0 b1), a1, jI us d f, z, jI us (jI us a0 a1) (jI us b0 b1)⟩
  | 9 => ⟨d, a1, jI us d f, d, jI us (jI us (jI us a0 a1) (jI us b0 b1)) d⟩
  | 10 => ⟨d, d, jI us d f, jI us d (jI us b0 b1), jI us (jI us (jI us a0 a1) (jI us b0 b1)) d⟩
  | 11 => ⟨jI us a0 b0, jI us a1 b1, jI us d f, jI us (jI us a0 a1) (jI us b0 b1), jI us (jI us a0 a1) (jI us b0 b1)⟩
  | 12 => ⟨b0, b1, jI us d f, jI us (jI us a0 a1) f, jI us (jI us a0 a1) (jI us b0 b1)⟩
  | 13 => ⟨jI us d (jI us b0 b1), a1, jI us d f, jI us (jI us a0 a1) (jI us b0 b1), jI us (jI us a0 a1) (jI us b0 b1)⟩
  | 14 => ⟨exA us ra rb a0 b0, exA us ra rb a1 b1, jI us d f, jI us d f, jI us (jI us a0 a1) (jI us b0 b1)⟩
  | 15 => ⟨exA us ra rb a0 b0, exA us ra rb a1 b1, jI us d f, bif ra == rb then (bif decide (0 < ra) then jI us (jI us a0 a1) (jI us b0 b1) else z) else z, jI us (jI us a0 a1) (jI us b0 b1)⟩
  | _ => ⟨a0, a1, jI us d f, z, jI us (jI us a0 a1) (jI us b0 b1)⟩
def glLb : List (FuncId × Spc) := [(33, spRJ21), (118, spRShp), (25, spOne), (26, spExt), (119, spRExd)]
theorem glLb_ok : GOk Tryz.prog (lookG glLb) := lG_cons (by kernel_rfl) spRJ21_ok <| lG_cons (by kernel_rfl) spRShp_ok <| lG_cons (by kernel_rfl) spOne_ok <| lG_cons (by kernel_rfl) spExt_ok <| lG_cons (by kernel_rfl) spRExd_ok lG_nil
set_option maxRecDepth 100000 in
set_option maxHeartbeats 16000000 in
theorem rlabels_any (q : Nat) (p : Int) (hA : Arm p q) (ns : List ByteArray) (us : List Int) (A B : Option Addr) (c e : Nat) (k r a0 a1 d k' r' b0 b1 f z : Int) (hB : Bytes us) (hL' : Lt us) (la0 : labB us.length a0 = true) (la1 : labB us.length a1 = true) (ld : labB us.length d = true) (lb0 : labB us.length b0 = true) (lb1 : labB us.length b1 = true) (lf : labB us.length f = true) (w : World) (hg : allRd w.heap.size w [(1001, .strs A c ns), (1002, .ints B e .u8 us)]) :
    Calls Tryz.prog 89 (dens [.agg [.g 1001 A ns.length c, .g 1002 B us.length e], .v (.int .i64 p), .agg [.v (.int .i64 k), .v (.int .i64 r), .v (.int .i64 a0), .v (.int .i64 a1), .v (.int .i64 d)], .agg [.v (.int .i64 k'), .v (.int .i64 r'), .v (.int .i64 b0), .v (.int .i64 b1), .v (.int .i64 f)], .v (.int .i64 z)]).toArray w fun e' w' => e' = .returned (den (.agg (ruS 0 0 (rlm q us r r' a0 a1 d b0 b1 f z).x0 (rlm q us r r' a0 a1 d b0 b1 f z).x1 (rlm q us r r' a0 a1 d b0 b1 f z).dt (rlm q us r r' a0 a1 d b0 b1 f z).er (rlm q us r r' a0 a1 d b0 b1 f z).co))) ∧ Below w.heap.size w w' := by
  obtain ⟨x, hx⟩ : ∃ x, x = rlm q us r r' a0 a1 d b0 b1 f z := ⟨_, rfl⟩
  rw [← hx]
  refine calls_go (args := [.agg [.g 1001 A ns.length c, .g 1002 B us.length e], .v (.int .i64 p), .agg [.v (.int .i64 k), .v (.int .i64 r), .v (.int .i64 a0), .v (.int .i64 a1), .v (.int .i64 d)], .agg [.v (.int .i64 k'), .v (.int .i64 r'), .v (.int .i64 b0), .v (.int .i64 b1), .v (.int .i64 f)], .v (.int .i64 z)]) (hp := [(1001, .strs A c ns), (1002, .ints B e .u8 us)]) (nx := 2000) (n := 900) (U := [(1000000, 14)]) (V := [(22, ([(12, 12240)], [(3, [12240])]))]) (tl := tlRu) (gl := glLb) (post := fun s' ys => ys = [.agg (ruS 0 0 x.x0 x.x1 x.dt x.er x.co)])
    followP tlRu_ok glLb_ok Tryz.func89 rfl (by kernel_rfl) (Nat.le_of_ble_eq_true (by kernel_rfl)) (by kernel_rfl) (by kernel_rfl) (hh_list hg) (free_list (by simp [allLt])) ?_ ?_
  · rintro s ys w' rfl H
    exact ⟨rfl, H.below⟩
  intro L F T G nd va hE
  obtain ⟨hL, hF, hs, hv, hT, hG, hR, hI, hJ, hW⟩ := hE
  rw [Tryz.results89] at hF
  simp (maxSteps := 1000000) only [En.nN, En.E, En.evsC, List.map_cons, List.map_nil, ne_eq, En.bitN, Nat.testBit, seval] at hv
  simp only [En.at_nil, En.at_cons, En.ag_nil, En.ag_cons, and_true, tlRu, glLb, tyInt, tyU8, tyBool, tyErr, tyStrs, tyBytes, tyInts, tyLat, tyI2, tyTy, tyTys, tyRule, tyTwo, tyLook, tyTab, tyRFn] at hT hG
  have lD := jI_lab hL' ld lf
  have lS := jI_lab hL' la0 la1
  have lR := jI_lab hL' lb0 lb1
  have lX := jI_lab hL' lS lR
  obtain ⟨m0, m1, m2, m3, m4, m5, m6, m7, m8, m9, m10, m11, m12, m13, m14, m15, hq⟩ := hA
  match q, hq with
  | 0, _ =>
    simp only [Nat.reduceBEq, Bool.or_false, Bool.or_true, Bool.true_or, Bool.false_or] at m0 m1 m2 m3 m4 m5 m6 m7 m8 m9 m10 m11 m12 m13 m14 m15
    simp (maxSteps := 10000000) only [En.E, En.evsC, List.map_cons, List.map_nil, ne_eq, En.bitN, Nat.testBit, seval, En.vV, hs, hv, hT, hG, hF, m0, m1, m2, m3, m4, m5, m6, m7, m8, m9, m10, m11, m12, m13, m14, m15, ruS, spRJ21_q, spRShp_q, spOne_q, getN_gp, if_true, Nat.le_refl, sh1, sh2, sh3, sh4, sh5, oneR_q, ln1, ln2, ln3, ln4, ln5, spExt_q, spRExd_q, latR_q, latU_q, hB, hL', la0, la1, ld, lb0, lb1, lf, lD, lS, lR, lX, and_self, rlm, hx]
  | 1, _ =>
    simp only [Nat.reduceBEq, Bool.or_false, Bool.or_true, Bool.true_or, Bool.false_or] at m0 m1 m2 m3 m4 m5 m6 m7 m8 m9 m10 m11 m12 m13 m14 m15
    simp (maxSteps := 10000000) only [En.E, En.evsC, List.map_cons, List.map_nil, ne_eq, En.bitN, Nat.testBit, seval, En.vV, hs, hv, hT, hG, hF, m0, m1, m2, m3, m4, m5, m6, m7, m8, m9, m10, m11, m12, m13, m14, m15, ruS, spRJ21_q, spRShp_q, spOne_q, getN_gp, if_true, Nat.le_refl, sh1, sh2, sh3, sh4, sh5, oneR_q, ln1, ln2, ln3, ln4, ln5, spExt_q, spRExd_q, latR_q, latU_q, hB, hL', la0, la1, ld, lb0, lb1, lf, lD, lS, lR, lX, and_self, rlm, hx]
  | 2, _ =>
    simp only [Nat.reduceBEq, Bool.or_false, Bool.or_true, Bool.true_or, Bool.false_or] at m0 m1 m2 m3 m4 m5 m6 m7 m8 m9 m10 m11 m12 m13 m14 m15
    simp (maxSteps := 10000000) only [En.E, En.evsC, List.map_cons, List.map_nil, ne_eq, En.bitN, Nat.testBit, seval, En.vV, hs, hv, hT, hG, hF, m0, m1, m2, m3, m4, m5, m6, m7, m8, m9, m10, m11, m12, m13, m14, m15, ruS, spRJ21_q, spRShp_q, spOne_q, getN_gp, if_true, Nat.le_refl, sh1, sh2, sh3, sh4, sh5, oneR_q, ln1, ln2, ln3, ln4, ln5, spExt_q, spRExd_q, latR_q, latU_q, hB, hL', la0, la1, ld, lb0, lb1, lf, lD, lS, lR, lX, and_self, rlm, hx]
  | 3, _ =>
    simp only [Nat.reduceBEq, Bool.or_false, Bool.or_true, Bool.true_or, Bool.false_or] at m0 m1 m2 m3 m4 m5 m6 m7 m8 m9 m10 m11 m12 m13 m14 m15
    simp (maxSteps := 10000000) only [En.E, En.evsC, List.map_cons, List.map_nil, ne_eq, En.bitN, Nat.testBit, seval, En.vV, hs, hv, hT, hG, hF, m0, m1, m2, m3, m4, m5, m6, m7, m8, m9, m10, m11, m12, m13, m14, m15, ruS, spRJ21_q, spRShp_q, spOne_q, getN_gp, if_true, Nat.le_refl, sh1, sh2, sh3, sh4, sh5, oneR_q, ln1, ln2, ln3, ln4, ln5, spExt_q, spRExd_q, latR_q, latU_q, hB, hL', la0, la1, ld, lb0, lb1, lf, lD, lS, lR, lX, and_self, rlm, hx]
  | 4, _ =>
    simp only [Nat.reduceBEq, Bool.or_false, Bool.or_true, Bool.true_or, Bool.false_or] at m0 m1 m2 m3 m4 m5 m6 m7 m8 m9 m10 m11 m12 m13 m14 m15
    simp (maxSteps := 10000000) only [En.E, En.evsC, List.map_cons, List.map_nil, ne_eq, En.bitN, Nat.testBit, seval, En.vV, hs, hv, hT, hG, hF, m0, m1, m2, m3, m4, m5, m6, m7, m8, m9, m10, m11, m12, m13, m14, m15, ruS, spRJ21_q, spRShp_q, spOne_q, getN_gp, if_true, Nat.le_refl, sh1, sh2, sh3, sh4, sh5, oneR_q, ln1, ln2, ln3, ln4, ln5, spExt_q, spRExd_q, latR_q, latU_q, hB, hL', la0, la1, ld, lb0, lb1, lf, lD, lS, lR, lX, and_self, rlm, hx]
  | 5, _ =>
    simp only [Nat.reduceBEq, Bool.or_false, Bool.or_true, Bool.true_or, Bool.false_or] at m0 m1 m2 m3 m4 m5 m6 m7 m8 m9 m10 m11 m12 m13 m14 m15
    simp (maxSteps := 10000000) only [En.E, En.evsC, List.map_cons, List.map_nil, ne_eq, En.bitN, Nat.testBit, seval, En.vV, hs, hv, hT, hG, hF, m0, m1, m2, m3, m4, m5, m6, m7, m8, m9, m10, m11, m12, m13, m14, m15, ruS, spRJ21_q, spRShp_q, spOne_q, getN_gp, if_true, Nat.le_refl, sh1, sh2, sh3, sh4, sh5, oneR_q, ln1, ln2, ln3, ln4, ln5, spExt_q, spRExd_q, latR_q, latU_q, hB, hL', la0, la1, ld, lb0, lb1, lf, lD, lS, lR, lX, and_self, rlm, hx]
  | 6, _ =>
    simp only [Nat.reduceBEq, Bool.or_false, Bool.or_true, Bool.true_or, Bool.false_or] at m0 m1 m2 m3 m4 m5 m6 m7 m8 m9 m10 m11 m12 m13 m14 m15
    simp (maxSteps := 10000000) only [En.E, En.evsC, List.map_cons, List.map_nil, ne_eq, En.bitN, Nat.testBit, seval, En.vV, hs, hv, hT, hG, hF, m0, m1, m2, m3, m4, m5, m6, m7, m8, m9, m10, m11, m12, m13, m14, m15, ruS, spRJ21_q, spRShp_q, spOne_q, getN_gp, if_true, Nat.le_refl, sh1, sh2, sh3, sh4, sh5, oneR_q, ln1, ln2, ln3, ln4, ln5, spExt_q, spRExd_q, latR_q, latU_q, hB, hL', la0, la1, ld, lb0, lb1, lf, lD, lS, lR, lX, and_self, rlm, hx]
  | 7, _ =>
    simp only [Nat.reduceBEq, Bool.or_false, Bool.or_true, Bool.true_or, Bool.false_or] at m0 m1 m2 m3 m4 m5 m6 m7 m8 m9 m10 m11 m12 m13 m14 m15
    simp (maxSteps := 10000000) only [En.E, En.evsC, List.map_cons, List.map_nil, ne_eq, En.bitN, Nat.testBit, seval, En.vV, hs, hv, hT, hG, hF, m0, m1, m2, m3, m4, m5, m6, m7, m8, m9, m10, m11, m12, m13, m14, m15, ruS, spRJ21_q, spRShp_q, spOne_q, getN_gp, if_true, Nat.le_refl, sh1, sh2, sh3, sh4, sh5, oneR_q, ln1, ln2, ln3, ln4, ln5, spExt_q, spRExd_q, latR_q, latU_q, hB, hL', la0, la1, ld, lb0, lb1, lf, lD, lS, lR, lX, and_self, rlm, hx]
  | 8, _ =>
    simp only [Nat.reduceBEq, Bool.or_false, Bool.or_true, Bool.true_or, Bool.false_or] at m0 m1 m2 m3 m4 m5 m6 m7 m8 m9 m10 m11 m12 m13 m14 m15
    simp (maxSteps := 10000000) only [En.E, En.evsC, List.map_cons, List.map_nil, ne_eq, En.bitN, Nat.testBit, seval, En.vV, hs, hv, hT, hG, hF, m0, m1, m2, m3, m4, m5, m6, m7, m8, m9, m10, m11, m12, m13, m14, m15, ruS, spRJ21_q, spRShp_q, spOne_q, getN_gp, if_true, Nat.le_refl, sh1, sh2, sh3, sh4, sh5, oneR_q, ln1, ln2, ln3, ln4, ln5, spExt_q, spRExd_q, latR_q, latU_q, hB, hL', la0, la1, ld, lb0, lb1, lf, lD, lS, lR, lX, and_self, rlm, hx]
  | 9, _ =>
    simp only [Nat.reduceBEq, Bool.or_false, Bool.or_true, Bool.true_or, Bool.false_or] at m0 m1 m2 m3 m4 m5 m6 m7 m8 m9 m10 m11 m12 m13 m14 m15
    simp (maxSteps := 10000000) only [En.E, En.evsC, List.map_cons, List.map_nil, ne_eq, En.bitN, Nat.testBit, seval, En.vV, hs, hv, hT, hG, hF, m0, m1, m2, m3, m4, m5, m6, m7, m8, m9, m10, m11, m12, m13, m14, m15, ruS, spRJ21_q, spRShp_q, spOne_q, getN_gp, if_true, Nat.le_refl, sh1, sh2, sh3, sh4, sh5, oneR_q, ln1, ln2, ln3, ln4, ln5, spExt_q, spRExd_q, latR_q, latU_q, hB, hL', la0, la1, ld, lb0, lb1, lf, lD, lS, lR, lX, and_self, rlm, hx]
  | 10, _ =>
    simp only [Nat.reduceBEq, Bool.or_false, Bool.or_true, Bool.true_or, Bool.false_or] at m0 m1 m2 m3 m4 m5 m6 m7 m8 m9 m10 m11 m12 m13 m14 m15
    simp (maxSteps := 10000000) only [En.E, En.evsC, List.map_cons, List.map_nil, ne_eq, En.bitN, Nat.testBit, seval, En.vV, hs, hv, hT, hG, hF, m0, m1, m2, m3, m4, m5, m6, m7, m8, m9, m10, m11, m12, m13, m14, m15, ruS, spRJ21_q, spRShp_q, spOne_q, getN_gp, if_true, Nat.le_refl, sh1, sh2, sh3, sh4, sh5, oneR_q, ln1, ln2, ln3, ln4, ln5, spExt_q, spRExd_q, latR_q, latU_q, hB, hL', la0, la1, ld, lb0, lb1, lf, lD, lS, lR, lX, and_self, rlm, hx]
  | 11, _ =>
    simp only [Nat.reduceBEq, Bool.or_false, Bool.or_true, Bool.true_or, Bool.false_or] at m0 m1 m2 m3 m4 m5 m6 m7 m8 m9 m10 m11 m12 m13 m14 m15
    simp (maxSteps := 10000000) only [En.E, En.evsC, List.map_cons, List.map_nil, ne_eq, En.bitN, Nat.testBit, seval, En.vV, hs, hv, hT, hG, hF, m0, m1, m2, m3, m4, m5, m6, m7, m8, m9, m10, m11, m12, m13, m14, m15, ruS, spRJ21_q, spRShp_q, spOne_q, getN_gp, if_true, Nat.le_refl, sh1, sh2, sh3, sh4, sh5, oneR_q, ln1, ln2, ln3, ln4, ln5, spExt_q, spRExd_q, latR_q, latU_q, hB, hL', la0, la1, ld, lb0, lb1, lf, lD, lS, lR, lX, and_self, rlm, hx]
  | 12, _ =>
    simp only [Nat.reduceBEq, Bool.or_false, Bool.or_true, Bool.true_or, Bool.false_or] at m0 m1 m2 m3 m4 m5 m6 m7 m8 m9 m10 m11 m12 m13 m14 m15
    simp (maxSteps := 10000000) only [En.E, En.evsC, List.map_cons, List.map_nil, ne_eq, En.bitN, Nat.testBit, seval, En.vV, hs, hv, hT, hG, hF, m0, m1, m2, m3, m4, m5, m6, m7, m8, m9, m10, m11, m12, m13, m14, m15, ruS, spRJ21_q, spRShp_q, spOne_q, getN_gp, if_true, Nat.le_refl, sh1, sh2, sh3, sh4, sh5, oneR_q, ln1, ln2, ln3, ln4, ln5, spExt_q, spRExd_q, latR_q, latU_q, hB, hL', la0, la1, ld, lb0, lb1, lf, lD, lS, lR, lX, and_self, rlm, hx]
  | 13, _ =>
    simp only [Nat.reduceBEq, Bool.or_false, Bool.or_true, Bool.true_or, Bool.false_or] at m0 m1 m2 m3 m4 m5 m6 m7 m8 m9 m10 m11 m12 m13 m14 m15
    simp (maxSteps := 10000000) only [En.E, En.evsC, List.map_cons, List.map_nil, ne_eq, En.bitN, Nat.testBit, seval, En.vV, hs, hv, hT, hG, hF, m0, m1, m2, m3, m4, m5, m6, m7, m8, m9, m10, m11, m12, m13, m14, m15, ruS, spRJ21_q, spRShp_q, spOne_q, getN_gp, if_true, Nat.le_refl, sh1, sh2, sh3, sh4, sh5, oneR_q, ln1, ln2, ln3, ln4, ln5, spExt_q, spRExd_q, latR_q, latU_q, hB, hL', la0, la1, ld, lb0, lb1, lf, lD, lS, lR, lX, and_self, rlm, hx]
  | 14, _ =>
    simp only [Nat.reduceBEq, Bool.or_false, Bool.or_true, Bool.true_or, Bool.false_or] at m0 m1 m2 m3 m4 m5 m6 m7 m8 m9 m10 m11 m12 m13 m14 m15
    simp (maxSteps := 10000000) only [En.E, En.evsC, List.map_cons, List.map_nil, ne_eq, En.bitN, Nat.testBit, seval, En.vV, hs, hv, hT, hG, hF, m0, m1, m2, m3, m4, m5, m6, m7, m8, m9, m10, m11, m12, m13, m14, m15, ruS, spRJ21_q, spRShp_q, spOne_q, getN_gp, if_true, Nat.le_refl, sh1, sh2, sh3, sh4, sh5, oneR_q, ln1, ln2, ln3, ln4, ln5, spExt_q, spRExd_q, latR_q, latU_q, hB, hL', la0, la1, ld, lb0, lb1, lf, lD, lS, lR, lX, and_self, rlm, hx]
  | 15, _ =>
    simp only [Nat.reduceBEq, Bool.or_false, Bool.or_true, Bool.true_or, Bool.false_or] at m0 m1 m2 m3 m4 m5 m6 m7 m8 m9 m10 m11 m12 m13 m14 m15
    cases c1 : (r == r') <;> cases c2 : decide (0 < r)
    · simp (maxSteps := 10000000) only [En.E, En.evsC, List.map_cons, List.map_nil, ne_eq, En.bitN, Nat.testBit, seval, En.vV, hs, hv, hT, hG, hF, m0, m1, m2, m3, m4, m5, m6, m7, m8, m9, m10, m11, m12, m13, m14, m15, c1, c2, cond_true, cond_false, ruS, spRJ21_q, spRShp_q, spOne_q, getN_gp, if_true, Nat.le_refl, sh1, sh2, sh3, sh4, sh5, oneR_q, ln1, ln2, ln3, ln4, ln5, spExt_q, spRExd_q, latR_q, latU_q, hB, hL', la0, la1, ld, lb0, lb1, lf, lD, lS, lR, lX, and_self, rlm, hx]
    · simp (maxSteps := 10000000) only [En.E, En.evsC, List.map_cons, List.map_nil, ne_eq, En.bitN, Nat.testBit, seval, En.vV, hs, hv, hT, hG, hF, m0, m1, m2, m3, m4, m5, m6, m7, m8, m9, m10, m11, m12, m13, m14, m15, c1, c2, cond_true, cond_false, ruS, spRJ21_q, spRShp_q, spOne_q, getN_gp, if_true, Nat.le_refl, sh1, sh2, sh3, sh4, sh5, oneR_q, ln1, ln2, ln3, ln4, ln5, spExt_q, spRExd_q, latR_q, latU_q, hB, hL', la0, la1, ld, lb0, lb1, lf, lD, lS, lR, lX, and_self, rlm, hx]
    · simp (maxSteps := 10000000) only [En.E, En.evsC, List.map_cons, List.map_nil, ne_eq, En.bitN, Nat.testBit, seval, En.vV, hs, hv, hT, hG, hF, m0, m1, m2, m3, m4, m5, m6, m7, m8, m9, m10, m11, m12, m13, m14, m15, c1, c2, cond_true, cond_false, ruS, spRJ21_q, spRShp_q, spOne_q, getN_gp, if_true, Nat.le_refl, sh1, sh2, sh3, sh4, sh5, oneR_q, ln1, ln2, ln3, ln4, ln5, spExt_q, spRExd_q, latR_q, latU_q, hB, hL', la0, la1, ld, lb0, lb1, lf, lD, lS, lR, lX, and_self, rlm, hx]
    · simp (maxSteps := 10000000) only [En.E, En.evsC, List.map_cons, List.map_nil, ne_eq, En.bitN, Nat.testBit, seval, En.vV, hs, hv, hT, hG, hF, m0, m1, m2, m3, m4, m5, m6, m7, m8, m9, m10, m11, m12, m13, m14, m15, c1, c2, cond_true, cond_false, ruS, spRJ21_q, spRShp_q, spOne_q, getN_gp, if_true, Nat.le_refl, sh1, sh2, sh3, sh4, sh5, oneR_q, ln1, ln2, ln3, ln4, ln5, spExt_q, spRExd_q, latR_q, latU_q, hB, hL', la0, la1, ld, lb0, lb1, lf, lD, lS, lR, lX, and_self, rlm, hx]
  | 16, _ =>
    simp only [Nat.reduceBEq, Bool.or_false, Bool.or_true, Bool.true_or, Bool.false_or] at m0 m1 m2 m3 m4 m5 m6 m7 m8 m9 m10 m11 m12 m13 m14 m15
    simp (maxSteps := 10000000) only [En.E, En.evsC, List.map_cons, List.map_nil, ne_eq, En.bitN, Nat.testBit, seval, En.vV, hs, hv, hT, hG, hF, m0, m1, m2, m3, m4, m5, m6, m7, m8, m9, m10, m11, m12, m13, m14, m15, ruS, spRJ21_q, spRShp_q, spOne_q, getN_gp, if_true, Nat.le_refl, sh1, sh2, sh3, sh4, sh5, oneR_q, ln1, ln2, ln3, ln4, ln5, spExt_q, spRExd_q, latR_q, latU_q, hB, hL', la0, la1, ld, lb0, lb1, lf, lD, lS, lR, lX, and_self, rlm, hx]
  | q + 17, h => exact absurd h (by omega)
end Pr
end Go.Proofs.YtnpkmimbnjnicaaGreatDoor
/-
The reference's labels are the program's, for good types that fit; Of (chapter 21).
-/
set_option linter.unusedSimpArgs false
set_option linter.unusedVariables false
namespace Go.Proofs.YtnpkmimbnjnicaaGreatDoor
namespace Pr
open Go Go.RowKit En
open Lt
def cM (q : Nat) : Nat := [0, 2, 3, 4, 5, 0, 6, 7, 8, 5, 9, 10, 11, 12, 14, 13, 1].getD q 1
theorem cls_fin : ∀ i : Fin 41, i.val = 0 ∨ (mcd (i.val : Int) = cM (cls (i.val : Int)) ∧ cls (i.val : Int) ≤ 16 ∧ (cls (i.val : Int) = 4 → (i.val : Int) = 8) ∧ (cls (i.val : Int) = 2 ∨ cls (i.val : Int) = 4 ∨ cls (i.val : Int) = 8 ∨ cls (i.val : Int) = 9 ∨ cls (i.val : Int) = 13 → (i.val : Int) = 5 ∨ (i.val : Int) = 8 ∨ (i.val : Int) = 33 ∨ (i.val : Int) = 34 ∨ (i.val : Int) = 35 ∨ (i.val : Int) = 40)) := by decide +kernel
theorem cls_of {p : Int} (h1 : 1 ≤ p) (h2 : p ≤ 40) : mcd p = cM (cls p) ∧ cls p ≤ 16 ∧ (cls p = 4 → p = 8) ∧ (cls p = 2 ∨ cls p = 4 ∨ cls p = 8 ∨ cls p = 9 ∨ cls p = 13 → p = 5 ∨ p = 8 ∨ p = 33 ∨ p = 34 ∨ p = 35 ∨ p = 40) := by
  have := cls_fin ⟨p.toNat, by omega⟩
  have e : ((p.toNat : Nat) : Int) = p := Int.toNat_of_nonneg (by omega)
  simp only [e] at this
  rcases this with h | h
  · omega
  · exact h
def finR (us : List Int) (q : Nat) (kk rr : Int) (t u : Ty) : Rv :=
  ⟨kk, rr, cut0 us rr (rlm q us t.r u.r t.a0 t.a1 t.d u.a0 u.a1 u.d (botI us)).x0, cut1 us rr (rlm q us t.r u.r t.a0 t.a1 t.d u.a0 u.a1 u.d (botI us)).x1, (rlm q us t.r u.r t.a0 t.a1 t.d u.a0 u.a1 u.d (botI us)).dt, (rlm q us t.r u.r t.a0 t.a1 t.d u.a0 u.a1 u.d (botI us)).er, (rlm q us t.r u.r t.a0 t.a1 t.d u.a0 u.a1 u.d (botI us)).co, 0⟩
theorem cut1_one {us : List Int} {x : Int} : cut1 us 1 x = botI us := rfl
theorem fin_eq {us : List Int} (h : Lt us) {p kk rr : Int} {t u : Ty} (h1 : 1 ≤ p) (h2 : p ≤ 40) (ld : lab us t.d) (hb : p = 8 → u.d = botI us) (hr : p = 5 ∨ p = 8 ∨ p = 33 ∨ p = 34 ∨ p = 35 ∨ p = 40 → rr = 1) : finR us (cls p) kk rr t u = finV us (mcd p) kk rr t u := by
  obtain ⟨c1, c2, c3, c4⟩ := cls_of h1 h2
  rw [c1]
  generalize cls p = q at c2 c3 c4 ⊢
  unfold finR finV mrV
  match q, c2 with
  | 0, _ => rfl
  | 1, _ => rfl
  | 2, _ =>
    obtain rfl := hr (c4 (.inl rfl))
    simp only [cut1_one]; rfl
  | 3, _ => rfl
  | 4, _ =>
    obtain rfl := hr (c4 (.inr (.inl rfl)))
    have e : jI us t.d u.d = t.d := by rw [hb (c3 rfl)]; exact jI_bot' h ld
    simp only [cut1_one, rlm, e, cM, List.getD_cons_succ, List.getD_cons_zero, mres, axX]
  | 5, _ => rfl
  | 6, _ => rfl
  | 7, _ => rfl
  | 8, _ =>
    obtain rfl := hr (c4 (.inr (.inr (.inl rfl))))
    simp only [cut1_one]; rfl
  | 9, _ =>
    obtain rfl := hr (c4 (.inr (.inr (.inr (.inl rfl)))))
    simp only [cut1_one]; rfl
  | 10, _ => rfl
  | 11, _ => rfl
  | 12, _ => rfl
  | 13, _ =>
    obtain rfl := hr (c4 (.inr (.inr (.inr (.inr rfl)))))
    simp only [cut1_one]; rfl
  | 14, _ => rfl
  | 15, _ =>
    have e : (bif t.r == u.r then (bif decide (0 < t.r) then axX us t.a0 t.a1 u.a0 u.a1 else botI us) else botI us) = bif decide (u.r < t.r) then botI us else bif decide (t.r < u.r) then botI us else bif decide (0 < t.r) then axX us t.a0 t.a1 u.a0 u.a1 else botI us := by
      by_cases e1 : t.r = u.r
      · rw [e1, decide_eq_false (Int.lt_irrefl _), beq_self_eq_true]; rfl
      · have : (t.r == u.r) = false := by simpa using e1
        rw [this]
        by_cases e2 : u.r < t.r
        · rw [decide_eq_true e2]; rfl
        · rw [decide_eq_false e2, decide_eq_true (by omega : t.r < u.r)]; rfl
    show Rv.mk _ _ _ _ _ (bif t.r == u.r then (bif decide (0 < t.r) then axX us t.a0 t.a1 u.a0 u.a1 else botI us) else botI us) _ _ = _
    rw [e]; rfl
  | 16, _ => rfl
  | q + 17, h => exact absurd h (by omega)
def spRLbl : Spc
  | [.agg [.g k A n c, .g j B m d], .v (.int .i64 p), .agg [.v (.int .i64 kk), .v (.int .i64 r), .v (.int .i64 a0), .v (.int .i64 a1), .v (.int .i64 f)], .agg [.v (.int .i64 k'), .v (.int .i64 r'), .v (.int .i64 b0), .v (.int .i64 b1), .v (.int .i64 g)], .v (.int .i64 z)], H, _ => .is (latR A n c B m d (H k) (H j) ∧ Arm p (cls p) ∧ Lt (latU (H j)) ∧ labB m a0 = true ∧ labB m a1 = true ∧ labB m f = true ∧ labB m b0 = true ∧ labB m b1 = true ∧ labB m g = true) (.agg (ruS 0 0 (rlm (cls p) (latU (H j)) r r' a0 a1 f b0 b1 g z).x0 (rlm (cls p) (latU (H j)) r r' a0 a1 f b0 b1 g z).x1 (rlm (cls p) (latU (H j)) r r' a0 a1 f b0 b1 g z).dt (rlm (cls p) (latU (H j)) r r' a0 a1 f b0 b1 g z).er (rlm (cls p) (latU (H j)) r r' a0 a1 f b0 b1 g z).co))
  | _, _, _ => .bad
theorem spRLbl_q {k n c j m d : Nat} {A B : Option Addr} {p kk r a0 a1 f k' r' b0 b1 g z : Int} {H : Nat → Ch} {nx : Nat} : spRLbl [.agg [.g k A n c, .g j B m d], .v (.int .i64 p), .agg [.v (.int .i64 kk), .v (.int .i64 r), .v (.int .i64 a0), .v (.int .i64 a1), .v (.int .i64 f)], .agg [.v (.int .i64 k'), .v (.int .i64 r'), .v (.int .i64 b0), .v (.int .i64 b1), .v (.int .i64 g)], .v (.int .i64 z)] H nx = .is (latR A n c B m d (H k) (H j) ∧ Arm p (cls p) ∧ Lt (latU (H j)) ∧ labB m a0 = true ∧ labB m a1 = true ∧ labB m f = true ∧ labB m b0 = true ∧ labB m b1 = true ∧ labB m g = true) (.agg (ruS 0 0 (rlm (cls p) (latU (H j)) r r' a0 a1 f b0 b1 g z).x0 (rlm (cls p) (latU (H j)) r r' a0 a1 f b0 b1 g z).x1 (rlm (cls p) (latU (H j)) r r' a0 a1 f b0 b1 g z).dt (rlm (cls p) (latU (H j)) r r' a0 a1 f b0 b1 g z).er (rlm (cls p) (latU (H j)) r r' a0 a1 f b0 b1 g z).co)) := (rfl)
theorem spRLbl_ok : SpecOk Tryz.prog 89 spRLbl := by
  intro args hp nx w0 O w H hv
  unfold spRLbl at hv ⊢
  split at hv
  · next k A n c j B m d p kk r a0 a1 f k' r' b0 b1 g z =>
    obtain ⟨hl, hx⟩ := hv
    obtain ⟨x1, x2, x3, x4, x5⟩ := latR_of hl
    have h1 := H.hold k
    have h2 := H.hold j
    rw [x1] at h1
    rw [x2] at h2
    have := rlabels_any (cls p) p hx.1 (latN (lookH hp k)) (latU (lookH hp j)) A B c d kk r a0 a1 f k' r' b0 b1 g z x5 hx.2.1 (x4 ▸ hx.2.2.1) (x4 ▸ hx.2.2.2.1) (x4 ▸ hx.2.2.2.2.1) (x4 ▸ hx.2.2.2.2.2.1) (x4 ▸ hx.2.2.2.2.2.2.1) (x4 ▸ hx.2.2.2.2.2.2.2) w ⟨⟨h1, rfl⟩, ⟨h2, rfl⟩, trivial⟩
    rw [← x3, ← x4] at this
    refine this.mono ?_
    rintro e w' ⟨rfl, hb⟩
    exact ⟨⟨0, none, 0, none, 0, mz⟩, rfl, .still hb⟩
  · exact hv.elim
end Pr
end Go.Proofs.YtnpkmimbnjnicaaGreatDoor
