/-
The reference's Of, Rule (chapter 21).
-/
import Derived.Test.YtnpkmimbnjnicaaGreatDoorRr2
set_option linter.unusedSimpArgs false
set_option linter.unusedVariables false
namespace Go.Proofs.YtnpkmimbnjnicaaGreatDoor
namespace Pr
open Go Go.RowKit En
open Lt
def rrHp (A B D : Option Addr) (c e g : Nat) (ns : List ByteArray) (us : List Int) (n : Nat) (t : Nat → Ty) : Hp := [(1001, .strs A c ns), (1002, .ints B e .u8 us), (1003, .recs D g 5 n fun i => tyC (t i))]
def OfOk (us : List Int) (p : Int) (n : Nat) (t : Nat → Ty) : Prop :=
  Lt us ∧ ((n = 1 ∧ goodT us (t 0) = 0 ∧ (fitsV p [(t 0).k] [(t 0).r]).2.2 = 0) ∨ (n = 2 ∧ goodT us (t 0) = 0 ∧ goodT us (t 1) = 0 ∧ (fitsV p [(t 0).k, (t 1).k] [(t 0).r, (t 1).r]).2.2 = 0))
def ofF (us : List Int) (p : Int) (n : Nat) (t : Nat → Ty) : Rv :=
  match n with
  | 1 => finV us (mcd p) (fitsV p [(t 0).k] [(t 0).r]).1 (fitsV p [(t 0).k] [(t 0).r]).2.1 (t 0) (botT us)
  | _ => finV us (mcd p) (fitsV p [(t 0).k, (t 1).k] [(t 0).r, (t 1).r]).1 (fitsV p [(t 0).k, (t 1).k] [(t 0).r, (t 1).r]).2.1 (t 0) (t 1)
def glOf : List (FuncId × Spc) := [(40, spRFits), (83, spRLow), (89, spRLbl)]
theorem glOf_ok : GOk Tryz.prog (lookG glOf) := lG_cons (by kernel_rfl) spRFits_ok <| lG_cons (by kernel_rfl) spRLow_ok <| lG_cons (by kernel_rfl) spRLbl_ok lG_nil
set_option maxRecDepth 100000 in
set_option maxHeartbeats 16000000 in
theorem rof_any (p : Int) (n : Nat) (t : Nat → Ty) (A B D : Option Addr) (c e g : Nat) (ns : List ByteArray) (us : List Int) (hB : Bytes us) (hO : OfOk us p n t) (w : World) (hg : allRd w.heap.size w (rrHp A B D c e g ns us n t)) :
    Calls Tryz.prog 41 (dens [.agg [.g 1001 A ns.length c, .g 1002 B us.length e], .v (.int .i64 p), .g 1003 D n g]).toArray w fun e' w' => e' = .returned (den (.agg (ruS (ofF us p n t).k (ofF us p n t).r (ofF us p n t).a0 (ofF us p n t).a1 (ofF us p n t).d (ofF us p n t).e (ofF us p n t).c))) ∧ Below w.heap.size w w' := by
  obtain ⟨x, hx⟩ : ∃ x, x = ofF us p n t := ⟨_, rfl⟩
  rw [← hx]
  refine calls_go (args := [.agg [.g 1001 A ns.length c, .g 1002 B us.length e], .v (.int .i64 p), .g 1003 D n g]) (hp := rrHp A B D c e g ns us n t) (nx := 2000) (n := 2000) (U := [(3, 3), (15, 4), (1000000, 18)]) (V := [(5, ([(7, 6608), (15, 10704)], [(3, [6608, 10704]), (5, [6608, 10704]), (7, [10704]), (11, [6608, 10704]), (13, [6608, 10704]), (15, [6608])]))]) (tl := tlRu) (gl := glOf) (post := fun s' ys => ys = [.agg (ruS x.k x.r x.a0 x.a1 x.d x.e x.c)])
    followP tlRu_ok glOf_ok Tryz.func41 rfl (by kernel_rfl) (Nat.le_of_ble_eq_true (by kernel_rfl)) (by kernel_rfl) (by kernel_rfl) (hh_list hg) (free_list (by simp [allLt, rrHp])) ?_ ?_
  · rintro s ys w' rfl H
    exact ⟨rfl, H.below⟩
  intro L F T G nd va hE
  obtain ⟨hL, hF, hs, hv, hT, hG, hR, hI, hJ, hW⟩ := hE
  rw [Tryz.results41] at hF
  simp (maxSteps := 1000000) only [En.nN, En.E, En.evsC, List.map_cons, List.map_nil, ne_eq, En.bitN, Nat.testBit, seval] at hv
  simp only [En.at_nil, En.at_cons, En.ag_nil, En.ag_cons, and_true, tlRu, glOf, tyInt, tyU8, tyBool, tyErr, tyStrs, tyBytes, tyInts, tyLat, tyI2, tyTy, tyTys, tyRule, tyTwo, tyLook, tyTab, tyRFn] at hT hG
  have i1 : inr .i64 1 := by simp only [En.inr, En.lo, En.hi]; omega
  have i2 : inr .i64 2 := by simp only [En.inr, En.lo, En.hi]; omega
  obtain ⟨l1, hO⟩ := hO
  have a7 := labB_bot l1
  rcases hO with ⟨rfl, g0, e0⟩ | ⟨rfl, g0, g1, e0⟩
  · have hrg := fits_rng (p := p) (ks := [(t 0).k]) (rs := [(t 0).r]) e0
    have hD : ¬ D = none := by
      obtain ⟨b, o, e, _⟩ := hg.2.2.1.1.1.2 (by decide)
      rw [e]; exact nofun
    have hr1 := fun hp => rank_at1 (p := p) hp e0
    have hx : x = finV us (mcd p) (fitsV p [(t 0).k] [(t 0).r]).1 (fitsV p [(t 0).k] [(t 0).r]).2.1 (t 0) (botT us) := hx
    have p14 : p ≤ 14 := by
      have := hrg.2.2
      simp only [List.length_cons, List.length_nil] at this
      split at this <;> omega
    have hsp := fShape1 (p := p) hrg.1 p14 (t 0).k (t 0).r (good_kind g0) e0
    obtain ⟨⟨kk, rr, ee⟩, hfv⟩ : ∃ v, v = fitsV p [(t 0).k] [(t 0).r] := ⟨_, rfl⟩
    rw [← hfv] at hx hsp hr1
    simp only at hx hsp hr1
    have hArm := arm_of hrg.1 hrg.2.1
    obtain ⟨a1, a2, a3⟩ := good_lab g0
    rw [← fin_eq l1 hrg.1 hrg.2.1 (labB_iff.1 a3) (fun _ => rfl) (fun hp => hr1 (by omega))] at hx
    have hrr : rr = 0 ∨ rr = 1 ∨ rr = 2 := by omega
    unfold finR botT at hx
    simp only at hx
    generalize hmr : rlm (cls p) us (t 0).r 0 (t 0).a0 (t 0).a1 (t 0).d (botI us) (botI us) (botI us) (botI us) = v at hx
    rcases hrr with rfl | rfl | rfl
    · subst hx
      simp (maxSteps := 10000000) only [En.E, En.evsC, List.map_cons, List.map_nil, ne_eq, En.bitN, Nat.testBit, seval, En.vV, hs, hv, hT, hG, hF, rrHp, tyC, latR_q, latN_q, latU_q, hB, i1, i2, Int.cast_ofNat_Int, spRFits_q, rfitsR_q, getN_q, getN_nil, getNC, intsOf, if_true, Option.map_some, ← hfv, spRLow_q, spRLbl_q, hArm, l1, a1, a2, a3, a7, hmr, ruS, cut0, cut1, and_self]
      exact hD
    · subst hx
      simp (maxSteps := 10000000) only [En.E, En.evsC, List.map_cons, List.map_nil, ne_eq, En.bitN, Nat.testBit, seval, En.vV, hs, hv, hT, hG, hF, rrHp, tyC, latR_q, latN_q, latU_q, hB, i1, i2, Int.cast_ofNat_Int, spRFits_q, rfitsR_q, getN_q, getN_nil, getNC, intsOf, if_true, Option.map_some, ← hfv, spRLow_q, spRLbl_q, hArm, l1, a1, a2, a3, a7, hmr, ruS, cut0, cut1, and_self]
      exact hD
    · subst hx
      simp (maxSteps := 10000000) only [En.E, En.evsC, List.map_cons, List.map_nil, ne_eq, En.bitN, Nat.testBit, seval, En.vV, hs, hv, hT, hG, hF, rrHp, tyC, latR_q, latN_q, latU_q, hB, i1, i2, Int.cast_ofNat_Int, spRFits_q, rfitsR_q, getN_q, getN_nil, getNC, intsOf, if_true, Option.map_some, ← hfv, spRLow_q, spRLbl_q, hArm, l1, a1, a2, a3, a7, hmr, ruS, cut0, cut1, and_self]
      exact hD
  · have hrg := fits_rng (p := p) (ks := [(t 0).k, (t 1).k]) (rs := [(t 0).r, (t 1).r]) e0
    have hD : ¬ D = none := by
      obtain ⟨b, o, e, _⟩ := hg.2.2.1.1.1.2 (by decide)
      rw [e]; exact nofun
    have hr1 := fun hp => rank_at2 (p := p) hp e0
    have hx : x = finV us (mcd p) (fitsV p [(t 0).k, (t 1).k] [(t 0).r, (t 1).r]).1 (fitsV p [(t 0).k, (t 1).k] [(t 0).r, (t 1).r]).2.1 (t 0) (t 1) := hx
    have p15 : 15 ≤ p := by
      have := hrg.2.2
      simp only [List.length_cons, List.length_nil] at this
      split at this <;> omega
    have hsp := fShape2 (p := p) p15 hrg.2.1 (t 0).k (t 1).k (t 0).r (t 1).r (good_kind g0) (good_kind g1) e0
    obtain ⟨⟨kk, rr, ee⟩, hfv⟩ : ∃ v, v = fitsV p [(t 0).k, (t 1).k] [(t 0).r, (t 1).r] := ⟨_, rfl⟩
    rw [← hfv] at hx hsp hr1
    simp only at hx hsp hr1
    have hArm := arm_of hrg.1 hrg.2.1
    obtain ⟨a1, a2, a3⟩ := good_lab g0
    obtain ⟨a4, a5, a6⟩ := good_lab g1
    rw [← fin_eq l1 hrg.1 hrg.2.1 (labB_iff.1 a3) (fun hp => by omega) (fun hp => hr1 (by omega))] at hx
    have hrr : rr = 0 ∨ rr = 1 ∨ rr = 2 := by omega
    unfold finR at hx
    generalize hmr : rlm (cls p) us (t 0).r (t 1).r (t 0).a0 (t 0).a1 (t 0).d (t 1).a0 (t 1).a1 (t 1).d (botI us) = v at hx
    rcases hrr with rfl | rfl | rfl
    · subst hx
      simp (maxSteps := 10000000) only [En.E, En.evsC, List.map_cons, List.map_nil, ne_eq, En.bitN, Nat.testBit, seval, En.vV, hs, hv, hT, hG, hF, rrHp, tyC, latR_q, latN_q, latU_q, hB, i1, i2, Int.cast_ofNat_Int, spRFits_q, rfitsR_q, getN_q, getN_nil, getNC, intsOf, if_true, Option.map_some, ← hfv, spRLow_q, spRLbl_q, hArm, l1, a1, a2, a3, a4, a5, a6, a7, hmr, ruS, cut0, cut1, and_self]
      exact hD
    · subst hx
      simp (maxSteps := 10000000) only [En.E, En.evsC, List.map_cons, List.map_nil, ne_eq, En.bitN, Nat.testBit, seval, En.vV, hs, hv, hT, hG, hF, rrHp, tyC, latR_q, latN_q, latU_q, hB, i1, i2, Int.cast_ofNat_Int, spRFits_q, rfitsR_q, getN_q, getN_nil, getNC, intsOf, if_true, Option.map_some, ← hfv, spRLow_q, spRLbl_q, hArm, l1, a1, a2, a3, a4, a5, a6, a7, hmr, ruS, cut0, cut1, and_self]
      exact hD
    · subst hx
      simp (maxSteps := 10000000) only [En.E, En.evsC, List.map_cons, List.map_nil, ne_eq, En.bitN, Nat.testBit, seval, En.vV, hs, hv, hT, hG, hF, rrHp, tyC, latR_q, latN_q, latU_q, hB, i1, i2, Int.cast_ofNat_Int, spRFits_q, rfitsR_q, getN_q, getN_nil, getNC, intsOf, if_true, Option.map_some, ← hfv, spRLow_q, spRLbl_q, hArm, l1, a1, a2, a3, a4, a5, a6, a7, hmr, ruS, cut0, cut1, and_self]
      exact hD
end Pr
end Go.Proofs.YtnpkmimbnjnicaaGreatDoor
/-
The reference's Rule (chapter 21).
-/
set_option linter.unusedSimpArgs false
set_option linter.unusedVariables false
namespace Go.Proofs.YtnpkmimbnjnicaaGreatDoor
namespace Pr
open Go Go.RowKit En
open Lt
def rvA (x : Rv) : SV := .agg (ruS x.k x.r x.a0 x.a1 x.d x.e x.c)
def spROf : Spc
  | [.agg [.g i A n c, .g j B m e], .v (.int .i64 p), L], H, _ => .is (latR A n c B m e (H i) (H j) ∧ tysP H L ∧ OfOk (latU (H j)) p (tysQ L) (tysT H L)) (rvA (ofF (latU (H j)) p (tysQ L) (tysT H L)))
  | _, _, _ => .bad
theorem spROf_q {i n c j m e : Nat} {A B : Option Addr} {p : Int} {L : SV} {H : Nat → Ch} {nx : Nat} : spROf [.agg [.g i A n c, .g j B m e], .v (.int .i64 p), L] H nx = .is (latR A n c B m e (H i) (H j) ∧ tysP H L ∧ OfOk (latU (H j)) p (tysQ L) (tysT H L)) (rvA (ofF (latU (H j)) p (tysQ L) (tysT H L))) := (rfl)
theorem spROf_ok : SpecOk Tryz.prog 41 spROf := by
  intro args hp nx w0 O w H hv
  unfold spROf at hv ⊢
  split at hv
  · next i A n c j B m e p L =>
    obtain ⟨hl, hty, hO⟩ := hv
    obtain ⟨D, g, e1, hh⟩ := tys_hold H hty
    obtain ⟨x1, x2, x3, x4, x5⟩ := latR_of hl
    have h1 := H.hold i
    have h2 := H.hold j
    rw [x1] at h1
    rw [x2] at h2
    have := rof_any p (tysQ L) (tysT (lookH hp) L) A B D c e g (latN (lookH hp i)) (latU (lookH hp j)) x5 hO w ⟨⟨h1, rfl⟩, ⟨h2, rfl⟩, ⟨hh _, rfl⟩, trivial⟩
    rw [show dens [.agg [.g i A n c, .g j B m e], .v (.int .i64 p), L] = dens [.agg [.g 1001 A (latN (lookH hp i)).length c, .g 1002 B (latU (lookH hp j)).length e], .v (.int .i64 p), .g 1003 D (tysQ L) g] by rw [← x3, ← x4]; simp [dens, den, e1]]
    refine this.mono ?_
    rintro e w' ⟨rfl, hb⟩
    exact ⟨⟨0, none, 0, none, 0, mz⟩, rfl, .still hb⟩
  · exact hv.elim
theorem tysG_u {D D' : Option Addr} {q q' g g' : Nat} {t : Nat → Ty} : tysG D q g (.recs D' g' 5 q' fun i => [.v (.int .i64 (t i).k), .v (.int .i64 (t i).r), .v (.int .i64 (t i).a0), .v (.int .i64 (t i).a1), .v (.int .i64 (t i).d)]) = (D = D' ∧ g = g' ∧ q = q') := tysG_r
theorem tysC_u {D : Option Addr} {q g : Nat} {t : Nat → Ty} : (fun i => unTy (tysC 0 (.recs D g 5 q fun i => [.v (.int .i64 (t i).k), .v (.int .i64 (t i).r), .v (.int .i64 (t i).a0), .v (.int .i64 (t i).a1), .v (.int .i64 (t i).d)]) i)) = t := by funext i; rfl
def glRr21 : List (FuncId × Spc) := [(38, spRChk), (39, spRGood), (40, spRFits), (41, spROf)]
theorem glRr21_ok : GOk Tryz.prog (lookG glRr21) := lG_cons (by kernel_rfl) spRChk_ok <| lG_cons (by kernel_rfl) spRGood_ok <| lG_cons (by kernel_rfl) spRFits_ok <| lG_cons (by kernel_rfl) spROf_ok lG_nil
set_option maxRecDepth 100000 in
set_option maxHeartbeats 16000000 in
theorem rrule_any (p : Int) (n : Nat) (t : Nat → Ty) (A B D : Option Addr) (c e g : Nat) (ns : List ByteArray) (us : List Int) (hB : Bytes us) (w : World) (hg : allRd w.heap.size w (rrHp A B D c e g ns us n t)) :
    Calls Tryz.prog 17 (dens [.agg [.g 1001 A ns.length c, .g 1002 B us.length e], .v (.int .i64 p), .g 1003 D n g]).toArray w fun e' w' => e' = .returned (den (.tup [.agg (ruS (rulV ns us p n t).k (rulV ns us p n t).r (rulV ns us p n t).a0 (rulV ns us p n t).a1 (rulV ns us p n t).d (rulV ns us p n t).e (rulV ns us p n t).c), .v (.int .i64 (rulV ns us p n t).err)])) ∧ Below w.heap.size w w' := by
  obtain ⟨x, hx⟩ : ∃ x, x = rulV ns us p n t := ⟨_, rfl⟩
  rw [← hx]
  refine calls_go (args := [.agg [.g 1001 A ns.length c, .g 1002 B us.length e], .v (.int .i64 p), .g 1003 D n g]) (hp := rrHp A B D c e g ns us n t) (nx := 2000) (n := 2000) (U := [(8, 3), (1000000, 14)]) (V := [(13, ([(7, 10192), (15, 14288)], [(3, [10192, 14288]), (5, [10192, 14288]), (7, [14288]), (11, [10192, 14288]), (13, [10192, 14288]), (15, [10192])]))]) (tl := tlRu) (gl := glRr21) (post := fun s' ys => ys = [.agg (ruS x.k x.r x.a0 x.a1 x.d x.e x.c), .v (.int .i64 x.err)])
    followP tlRu_ok glRr21_ok Tryz.func17 rfl (by kernel_rfl) (Nat.le_of_ble_eq_true (by kernel_rfl)) (by kernel_rfl) (by kernel_rfl) (hh_list hg) (free_list (by simp [allLt, rrHp])) ?_ ?_
  · rintro s ys w' rfl H
    exact ⟨rfl, H.below⟩
  intro L F T G nd va hE
  obtain ⟨hL, hF, hs, hv, hT, hG, hR, hI, hJ, hW⟩ := hE
  rw [Tryz.results17] at hF
  simp (maxSteps := 1000000) only [En.nN, En.E, En.evsC, List.map_cons, List.map_nil, ne_eq, En.bitN, Nat.testBit, seval] at hv
  simp only [En.at_nil, En.at_cons, En.ag_nil, En.ag_cons, and_true, tlRu, glRr21, tyInt, tyU8, tyBool, tyErr, tyStrs, tyBytes, tyInts, tyLat, tyI2, tyTy, tyTys, tyRule, tyTwo, tyLook, tyTab, tyRFn] at hT hG
  have i1 : inr .i64 1 := by simp only [En.inr, En.lo, En.hi]; omega
  have i2 : inr .i64 2 := by simp only [En.inr, En.lo, En.hi]; omega
  unfold rulV at hx
  cases hn : decide (2 < (n : Int)) <;> rw [hn] at hx
  · have hn2 := of_decide_eq_false hn
    cases hc : ((chkV nmV ns us).2 != 0) <;> rw [hc] at hx
    · have h0 : (chkV nmV ns us).2 = 0 := by simpa using hc
      obtain ⟨l1, l2, l3', l4⟩ := lt_of_chk hB h0
      match n, hn2, hg with
      | 0, _, hg =>
        have hx : x = rulZ (fitsV p [] []).2.2 := hx
        have hf := fits_none (p := p)
        obtain ⟨⟨kk, rr, ee⟩, hfv⟩ : ∃ v, v = fitsV p [] [] := ⟨_, rfl⟩
        rw [← hfv] at hx hf
        subst hx
        simp (maxSteps := 10000000) only [En.E, En.evsC, List.map_cons, List.map_nil, ne_eq, En.bitN, Nat.testBit, seval, En.vV, hs, hv, hT, hG, hF, rrHp, tyC, spRChk_q, latR_q, latN_q, latU_q, hB, hc, h0, spRGood_q, l1, eq_true l2, i1, i2, Int.cast_ofNat_Int, spRFits_q, rfitsR_q, getN_q, getN_nil, getNC, intsOf, if_true, Option.map_some, ← hfv, hf, rulZ, ruS]
      | 1, _, hg =>
        have hD : ¬ D = none := by
          obtain ⟨b, o, e, _⟩ := hg.2.2.1.1.1.2 (by decide)
          rw [e]; exact nofun
        have hx : x = rul1 us p (t 0) := hx
        unfold rul1 at hx
        cases hg0 : (goodT us (t 0) != 0) <;> rw [hg0] at hx
        · have g0 : goodT us (t 0) = 0 := by simpa using hg0
          have k0 : goodV us (t 0).k (t 0).r (t 0).a0 (t 0).a1 (t 0).d = 0 := g0
          cases he : ((fitsV p [(t 0).k] [(t 0).r]).2.2 != 0) <;> rw [he] at hx
          · have e0 : (fitsV p [(t 0).k] [(t 0).r]).2.2 = 0 := by simpa using he
            have hO : OfOk us p 1 t := ⟨l1, .inl ⟨rfl, g0, e0⟩⟩
            have hx : x = ofF us p 1 t := hx
            have hz : x.err = 0 := by rw [hx]; rfl
            simp (maxSteps := 10000000) only [En.E, En.evsC, List.map_cons, List.map_nil, ne_eq, En.bitN, Nat.testBit, seval, En.vV, hs, hv, hT, hG, hF, rrHp, tyC, spRChk_q, latR_q, latN_q, latU_q, hB, hc, h0, spRGood_q, l1, eq_true l2, i1, i2, Int.cast_ofNat_Int, spRFits_q, rfitsR_q, getN_q, getN_nil, getNC, intsOf, if_true, Option.map_some, hD, not_false_eq_true, k0, he, e0, spROf_q, tysP_g, tysQ_g, tysT_g, tysG_u, tysC_u, hO, rvA, ← hx, ruS, hz, and_self]
          · have hx : x = rulZ (fitsV p [(t 0).k] [(t 0).r]).2.2 := hx
            obtain ⟨⟨kk, rr, ee⟩, hfv⟩ : ∃ v, v = fitsV p [(t 0).k] [(t 0).r] := ⟨_, rfl⟩
            rw [← hfv] at hx he
            subst hx
            simp (maxSteps := 10000000) only [En.E, En.evsC, List.map_cons, List.map_nil, ne_eq, En.bitN, Nat.testBit, seval, En.vV, hs, hv, hT, hG, hF, rrHp, tyC, spRChk_q, latR_q, latN_q, latU_q, hB, hc, h0, spRGood_q, l1, eq_true l2, i1, i2, Int.cast_ofNat_Int, spRFits_q, rfitsR_q, getN_q, getN_nil, getNC, intsOf, if_true, Option.map_some, hD, not_false_eq_true, k0, ← hfv, he, rulZ, ruS]
        · have hx : x = rulZ (goodT us (t 0)) := hx
          have k0 : (goodV us (t 0).k (t 0).r (t 0).a0 (t 0).a1 (t 0).d != 0) = true := hg0
          have hx : x = rulZ (goodV us (t 0).k (t 0).r (t 0).a0 (t 0).a1 (t 0).d) := hx
          subst hx
          simp (maxSteps := 10000000) only [En.E, En.evsC, List.map_cons, List.map_nil, ne_eq, En.bitN, Nat.testBit, seval, En.vV, hs, hv, hT, hG, hF, rrHp, tyC, spRChk_q, latR_q, latN_q, latU_q, hB, hc, h0, spRGood_q, l1, eq_true l2, i1, i2, Int.cast_ofNat_Int, getN_q, getN_nil, getNC, intsOf, if_true, Option.map_some, hD, not_false_eq_true, k0, rulZ, ruS]
      | 2, _, hg =>
        have hD : ¬ D = none := by
          obtain ⟨b, o, e, _⟩ := hg.2.2.1.1.1.2 (by decide)
          rw [e]; exact nofun
        have hx : x = rul2 us p (t 0) (t 1) := hx
        unfold rul2 at hx
        cases hg0 : (goodT us (t 0) != 0) <;> rw [hg0] at hx
        · have g0 : goodT us (t 0) = 0 := by simpa using hg0
          have k0 : goodV us (t 0).k (t 0).r (t 0).a0 (t 0).a1 (t 0).d = 0 := g0
          cases hg1 : (goodT us (t 1) != 0) <;> rw [hg1] at hx
          · have g1 : goodT us (t 1) = 0 := by simpa using hg1
            have k1 : goodV us (t 1).k (t 1).r (t 1).a0 (t 1).a1 (t 1).d = 0 := g1
            cases he : ((fitsV p [(t 0).k, (t 1).k] [(t 0).r, (t 1).r]).2.2 != 0) <;> rw [he] at hx
            · have e0 : (fitsV p [(t 0).k, (t 1).k] [(t 0).r, (t 1).r]).2.2 = 0 := by simpa using he
              have hO : OfOk us p 2 t := ⟨l1, .inr ⟨rfl, g0, g1, e0⟩⟩
              have hx : x = ofF us p 2 t := hx
              have hz : x.err = 0 := by rw [hx]; rfl
              simp (maxSteps := 10000000) only [En.E, En.evsC, List.map_cons, List.map_nil, ne_eq, En.bitN, Nat.testBit, seval, En.vV, hs, hv, hT, hG, hF, rrHp, tyC, spRChk_q, latR_q, latN_q, latU_q, hB, hc, h0, spRGood_q, l1, eq_true l2, i1, i2, Int.cast_ofNat_Int, spRFits_q, rfitsR_q, getN_q, getN_nil, getNC, intsOf, if_true, Option.map_some, hD, not_false_eq_true, k0, k1, he, e0, spROf_q, tysP_g, tysQ_g, tysT_g, tysG_u, tysC_u, hO, rvA, ← hx, ruS, hz, and_self]
            · have hx : x = rulZ (fitsV p [(t 0).k, (t 1).k] [(t 0).r, (t 1).r]).2.2 := hx
              obtain ⟨⟨kk, rr, ee⟩, hfv⟩ : ∃ v, v = fitsV p [(t 0).k, (t 1).k] [(t 0).r, (t 1).r] := ⟨_, rfl⟩
              rw [← hfv] at hx he
              subst hx
              simp (maxSteps := 10000000) only [En.E, En.evsC, List.map_cons, List.map_nil, ne_eq, En.bitN, Nat.testBit, seval, En.vV, hs, hv, hT, hG, hF, rrHp, tyC, spRChk_q, latR_q, latN_q, latU_q, hB, hc, h0, spRGood_q, l1, eq_true l2, i1, i2, Int.cast_ofNat_Int, spRFits_q, rfitsR_q, getN_q, getN_nil, getNC, intsOf, if_true, Option.map_some, hD, not_false_eq_true, k0, k1, ← hfv, he, rulZ, ruS]
          · have k1 : (goodV us (t 1).k (t 1).r (t 1).a0 (t 1).a1 (t 1).d != 0) = true := hg1
            have hx : x = rulZ (goodV us (t 1).k (t 1).r (t 1).a0 (t 1).a1 (t 1).d) := hx
            subst hx
            simp (maxSteps := 10000000) only [En.E, En.evsC, List.map_cons, List.map_nil, ne_eq, En.bitN, Nat.testBit, seval, En.vV, hs, hv, hT, hG, hF, rrHp, tyC, spRChk_q, latR_q, latN_q, latU_q, hB, hc, h0, spRGood_q, l1, eq_true l2, i1, i2, Int.cast_ofNat_Int, getN_q, getN_nil, getNC, intsOf, if_true, Option.map_some, hD, not_false_eq_true, k0, k1, rulZ, ruS]
        · have k0 : (goodV us (t 0).k (t 0).r (t 0).a0 (t 0).a1 (t 0).d != 0) = true := hg0
          have hx : x = rulZ (goodV us (t 0).k (t 0).r (t 0).a0 (t 0).a1 (t 0).d) := hx
          subst hx
          simp (maxSteps := 10000000) only [En.E, En.evsC, List.map_cons, List.map_nil, ne_eq, En.bitN, Nat.testBit, seval, En.vV, hs, hv, hT, hG, hF, rrHp, tyC, spRChk_q, latR_q, latN_q, latU_q, hB, hc, h0, spRGood_q, l1, eq_true l2, i1, i2, Int.cast_ofNat_Int, getN_q, getN_nil, getNC, intsOf, if_true, Option.map_some, hD, not_false_eq_true, k0, rulZ, ruS]
      | n + 3, h, _ => exact absurd h (by omega)
    · have hx : x = rulZ (chkV nmV ns us).2 := hx
      subst hx
      simp (maxSteps := 10000000) only [En.E, En.evsC, List.map_cons, List.map_nil, ne_eq, En.bitN, Nat.testBit, seval, En.vV, hs, hv, hT, hG, hF, rrHp, tyC, spRChk_q, latR_q, latN_q, latU_q, hB, hn, hc, rulZ, ruS]
  · have hx : x = rulZ 3 := hx
    subst hx
    simp (maxSteps := 10000000) only [En.E, En.evsC, List.map_cons, List.map_nil, ne_eq, En.bitN, Nat.testBit, seval, En.vV, hs, hv, hT, hG, hF, rrHp, tyC, hn, rulZ, ruS]
end Pr
end Go.Proofs.YtnpkmimbnjnicaaGreatDoor
