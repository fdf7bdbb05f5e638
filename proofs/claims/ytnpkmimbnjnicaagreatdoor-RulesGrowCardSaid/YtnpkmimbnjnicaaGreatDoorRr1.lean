/-
The references of chapters 20 and 21: Good, Check, join, After; Large.
-/
import Derived.Test.YtnpkmimbnjnicaaGreatDoorRl2
set_option linter.unusedSimpArgs false
set_option linter.unusedVariables false
namespace Go.Proofs.YtnpkmimbnjnicaaGreatDoor
namespace Pr
open Go Go.RowKit En
open Lt
def spRGood : Spc
  | [.agg [.g k A n c, .g j B m d], .agg [.v (.int .i64 kk), .v (.int .i64 r), .v (.int .i64 a0), .v (.int .i64 a1), .v (.int .i64 f)]], H, _ => .is (latR A n c B m d (H k) (H j) ∧ Lt (latU (H j)) ∧ m = n) (.v (.int .i64 (goodV (latU (H j)) kk r a0 a1 f)))
  | _, _, _ => .bad
theorem spRGood_q {k n c j m d : Nat} {A B : Option Addr} {kk r a0 a1 f : Int} {H : Nat → Ch} {nx : Nat} : spRGood [.agg [.g k A n c, .g j B m d], .agg [.v (.int .i64 kk), .v (.int .i64 r), .v (.int .i64 a0), .v (.int .i64 a1), .v (.int .i64 f)]] H nx = .is (latR A n c B m d (H k) (H j) ∧ Lt (latU (H j)) ∧ m = n) (.v (.int .i64 (goodV (latU (H j)) kk r a0 a1 f))) := (rfl)
theorem spRGood_ok : SpecOk Tryz.prog 39 spRGood := by
  intro args hp nx w0 O w H hv
  unfold spRGood at hv ⊢
  split at hv
  · next k A n c j B m d kk r a0 a1 f =>
    obtain ⟨hl, hx⟩ := hv
    obtain ⟨x1, x2, x3, x4, x5⟩ := latR_of hl
    have h1 := H.hold k
    have h2 := H.hold j
    rw [x1] at h1
    rw [x2] at h2
    have := rgood_any (latN (lookH hp k)) (latU (lookH hp j)) A B c d kk r a0 a1 f hx.1 (by omega) w ⟨⟨h1, rfl⟩, ⟨h2, rfl⟩, trivial⟩
    rw [← x3, ← x4] at this
    refine this.mono ?_
    rintro e w' ⟨rfl, hb⟩
    exact ⟨⟨0, none, 0, none, 0, mz⟩, rfl, .still hb⟩
  · exact hv.elim
def glRc20 : List (FuncId × Spc) := [(38, spRChk), (39, spRGood)]
theorem glRc20_ok : GOk Tryz.prog (lookG glRc20) := lG_cons (by kernel_rfl) spRChk_ok <| lG_cons (by kernel_rfl) spRGood_ok lG_nil
set_option maxRecDepth 100000 in
set_option maxHeartbeats 8000000 in
theorem rtyCheck_any (ns : List ByteArray) (us : List Int) (A B : Option Addr) (c e : Nat) (k r a0 a1 d : Int) (hB : Bytes us) (w : World) (hg : allRd w.heap.size w [(1001, .strs A c ns), (1002, .ints B e .u8 us)]) :
    Calls Tryz.prog 31 (dens [.agg [.g 1001 A ns.length c, .g 1002 B us.length e], .agg (tyS k r a0 a1 d)]).toArray w fun e w' => e = .returned (.int .i64 (tckV ns us k r a0 a1 d)) ∧ Below w.heap.size w w' := by
  obtain ⟨q, hq⟩ : ∃ q, q = tckV ns us k r a0 a1 d := ⟨_, rfl⟩
  rw [← hq]
  refine calls_go (args := [.agg [.g 1001 A ns.length c, .g 1002 B us.length e], .agg (tyS k r a0 a1 d)]) (hp := [(1001, .strs A c ns), (1002, .ints B e .u8 us)]) (nx := 2000) (n := 600) (U := [(1000000, 8)]) (V := []) (tl := tlTp) (gl := glRc20) (post := fun s' ys => ys = [.v (.int .i64 q)])
    followP tlTp_ok glRc20_ok Tryz.func31 rfl (by kernel_rfl) (Nat.le_of_ble_eq_true (by kernel_rfl)) (by kernel_rfl) (by kernel_rfl) (hh_list hg) (free_list (by simp [allLt])) ?_ ?_
  · rintro s ys w' rfl H
    exact ⟨rfl, H.below⟩
  intro L F T G nd va hE
  obtain ⟨hL, hF, hs, hv, hT, hG, hR, hI, hJ, hW⟩ := hE
  rw [Tryz.results31] at hF
  simp (maxSteps := 1000000) only [En.nN, En.E, En.evsC, List.map_cons, List.map_nil, ne_eq, En.bitN, Nat.testBit, seval] at hv
  simp only [En.at_nil, En.at_cons, En.ag_nil, En.ag_cons, and_true, tlTp, glRc20, tyInt, tyU8, tyBool, tyStr, tyErr, tyStrs, tyBytes, tyInts, tyLat, tyI2, tyTy, tyTOrd, tyWith] at hT hG
  cases h1 : ((chkV nmV ns us).2 != 0)
  · have h0 : (chkV nmV ns us).2 = 0 := by simpa using h1
    obtain ⟨l1, l2, l3, l4⟩ := lt_of_chk hB h0
    rw [tckV_yes h0] at hq
    simp (maxSteps := 10000000) only [En.E, En.evsC, List.map_cons, List.map_nil, ne_eq, En.bitN, Nat.testBit, seval, En.vV, hs, hv, hT, hG, hF, tyS, spRChk_q, latR_q, latN_q, latU_q, hB, h1, h0, spRGood_q, l1, ← l2, hq]
  · rw [tckV_no h1] at hq
    simp (maxSteps := 10000000) only [En.E, En.evsC, List.map_cons, List.map_nil, ne_eq, En.bitN, Nat.testBit, seval, En.vV, hs, hv, hT, hG, hF, tyS, spRChk_q, latR_q, latN_q, latU_q, hB, h1, hq]
theorem spTyC_of {fid : FuncId} (h : ∀ (ns : List ByteArray) (us : List Int) (A B : Option Addr) (c e : Nat) (k r a0 a1 d : Int) (hB : Bytes us) (w : World) (hg : allRd w.heap.size w [(1001, .strs A c ns), (1002, .ints B e .u8 us)]), Calls Tryz.prog fid (dens [.agg [.g 1001 A ns.length c, .g 1002 B us.length e], .agg (tyS k r a0 a1 d)]).toArray w fun e w' => e = .returned (.int .i64 (tckV ns us k r a0 a1 d)) ∧ Below w.heap.size w w') : SpecOk Tryz.prog fid spTyC := by
  intro args hp nx w0 O w H hv
  unfold spTyC at hv ⊢
  split at hv
  · next i A n c j B m e k r a0 a1 d =>
    obtain ⟨x1, x2, x3, x4, x5⟩ := latR_of hv
    have h1 := H.hold i
    have h2 := H.hold j
    rw [x1] at h1
    rw [x2] at h2
    have := h (latN (lookH hp i)) (latU (lookH hp j)) A B c e k r a0 a1 d x5 w ⟨⟨h1, rfl⟩, ⟨h2, rfl⟩, trivial⟩
    rw [← x3, ← x4] at this
    refine this.mono ?_
    rintro e w' ⟨rfl, hb⟩
    exact ⟨⟨0, none, 0, none, 0, mz⟩, rfl, .still hb⟩
  · exact hv.elim
theorem spRTyC_ok : SpecOk Tryz.prog 31 spTyC := spTyC_of rtyCheck_any
def glJr : List (FuncId × Spc) := [(53, spRUp)]
theorem glJr_ok : GOk Tryz.prog (lookG glJr) := lG_cons (by kernel_rfl) spRUp_ok lG_nil
set_option maxRecDepth 100000 in
set_option maxHeartbeats 4000000 in
theorem rjoin_any (ns : List ByteArray) (us : List Int) (A B : Option Addr) (c d : Nat) (a b : Int) (hB : Bytes us) (hL' : Lt us) (ha : labB us.length a = true) (hb : labB us.length b = true) (w : World) (hg : allRd w.heap.size w [(1001, .strs A c ns), (1002, .ints B d .u8 us)]) :
    Calls Tryz.prog 33 (dens [.agg [.g 1001 A ns.length c, .g 1002 B us.length d], .v (.int .i64 a), .v (.int .i64 b)]).toArray w fun e w' => e = .returned (.int .i64 (jI us a b)) ∧ Below w.heap.size w w' := by
  refine calls_go (args := [.agg [.g 1001 A ns.length c, .g 1002 B us.length d], .v (.int .i64 a), .v (.int .i64 b)]) (hp := [(1001, .strs A c ns), (1002, .ints B d .u8 us)]) (nx := 2000) (n := 600) (U := [(1000000, 8)]) (V := []) (tl := tlTp) (gl := glJr) (post := fun s' ys => ys = [.v (.int .i64 (jI us a b))])
    followP tlTp_ok glJr_ok Tryz.func33 rfl (by kernel_rfl) (Nat.le_of_ble_eq_true (by kernel_rfl)) (by kernel_rfl) (by kernel_rfl) (hh_list hg) (free_list (by simp [allLt])) ?_ ?_
  · rintro s ys w' rfl H
    exact ⟨rfl, H.below⟩
  intro L F T G nd va hE
  obtain ⟨hL, hF, hs, hv, hT, hG, hR, hI, hJ, hW⟩ := hE
  rw [Tryz.results33] at hF
  simp (maxSteps := 1000000) only [En.nN, En.E, En.evsC, List.map_cons, List.map_nil, ne_eq, En.bitN, Nat.testBit, seval] at hv
  simp only [En.at_nil, En.at_cons, En.ag_nil, En.ag_cons, and_true, tlTp, glJr, tyInt, tyU8, tyBool, tyStr, tyErr, tyStrs, tyBytes, tyInts, tyLat, tyI2, tyTy, tyTOrd, tyWith] at hT hG
  simp (maxSteps := 10000000) only [En.E, En.evsC, List.map_cons, List.map_nil, ne_eq, En.bitN, Nat.testBit, seval, En.vV, hs, hv, hT, hG, hF, spRUp_q, latR_q, latU_q, hB, hL', ha, hb]
def spRJ21 : Spc
  | [.agg [.g k A n c, .g j B m d], .v (.int .i64 a), .v (.int .i64 b)], H, _ => .is (latR A n c B m d (H k) (H j) ∧ Lt (latU (H j)) ∧ labB m a = true ∧ labB m b = true) (.v (.int .i64 (jI (latU (H j)) a b)))
  | _, _, _ => .bad
theorem spRJ21_q {k n c j m d : Nat} {A B : Option Addr} {a b : Int} {H : Nat → Ch} {nx : Nat} : spRJ21 [.agg [.g k A n c, .g j B m d], .v (.int .i64 a), .v (.int .i64 b)] H nx = .is (latR A n c B m d (H k) (H j) ∧ Lt (latU (H j)) ∧ labB m a = true ∧ labB m b = true) (.v (.int .i64 (jI (latU (H j)) a b))) := (rfl)
theorem spRJ21_ok : SpecOk Tryz.prog 33 spRJ21 := by
  intro args hp nx w0 O w H hv
  unfold spRJ21 at hv ⊢
  split at hv
  · next k A n c j B m d a b =>
    obtain ⟨hl, hx⟩ := hv
    obtain ⟨x1, x2, x3, x4, x5⟩ := latR_of hl
    have h1 := H.hold k
    have h2 := H.hold j
    rw [x1] at h1
    rw [x2] at h2
    have := rjoin_any (latN (lookH hp k)) (latU (lookH hp j)) A B c d a b x5 hx.1 (x4 ▸ hx.2.1) (x4 ▸ hx.2.2) w ⟨⟨h1, rfl⟩, ⟨h2, rfl⟩, trivial⟩
    rw [← x3, ← x4] at this
    refine this.mono ?_
    rintro e w' ⟨rfl, hb⟩
    exact ⟨⟨0, none, 0, none, 0, mz⟩, rfl, .still hb⟩
  · exact hv.elim
theorem jI_lab {us : List Int} (h : Lt us) {a b : Int} (ha : labB us.length a = true) (hb : labB us.length b = true) : labB us.length (jI us a b) = true := labB_iff.2 (jI_spec h (labB_iff.1 ha) (labB_iff.1 hb)).1
def glRAf : List (FuncId × Spc) := [(31, spTyC), (32, spRLab), (33, spRJ21)]
theorem glRAf_ok : GOk Tryz.prog (lookG glRAf) := lG_cons (by kernel_rfl) spRTyC_ok <| lG_cons (by kernel_rfl) spRLab_ok <| lG_cons (by kernel_rfl) spRJ21_ok lG_nil
set_option maxRecDepth 100000 in
set_option maxHeartbeats 8000000 in
theorem rafter_any (ns : List ByteArray) (us : List Int) (A B : Option Addr) (c e : Nat) (ec k r a0 a1 d er co : Int) (hB : Bytes us) (w : World) (hg : allRd w.heap.size w [(1001, .strs A c ns), (1002, .ints B e .u8 us)]) :
    Calls Tryz.prog 15 (dens [.agg [.g 1001 A ns.length c, .g 1002 B us.length e], .v (.int .i64 ec), .agg (ruS k r a0 a1 d er co)]).toArray w fun e' w' => e' = .returned (.tuple #[.int .i64 (aftV ns us ec k r a0 a1 d er co).1, .int .i64 (aftV ns us ec k r a0 a1 d er co).2]) ∧ Below w.heap.size w w' := by
  obtain ⟨q, hq⟩ : ∃ q, q = aftV ns us ec k r a0 a1 d er co := ⟨_, rfl⟩
  rw [← hq]
  refine calls_go (args := [.agg [.g 1001 A ns.length c, .g 1002 B us.length e], .v (.int .i64 ec), .agg (ruS k r a0 a1 d er co)]) (hp := [(1001, .strs A c ns), (1002, .ints B e .u8 us)]) (nx := 2000) (n := 900) (U := [(1000000, 9)]) (V := []) (tl := tlRu) (gl := glRAf) (post := fun s' ys => ys = [.v (.int .i64 q.1), .v (.int .i64 q.2)])
    followP tlRu_ok glRAf_ok Tryz.func15 rfl (by kernel_rfl) (Nat.le_of_ble_eq_true (by kernel_rfl)) (by kernel_rfl) (by kernel_rfl) (hh_list hg) (free_list (by simp [allLt])) ?_ ?_
  · rintro s ys w' rfl H
    exact ⟨rfl, H.below⟩
  intro L F T G nd va hE
  obtain ⟨hL, hF, hs, hv, hT, hG, hR, hI, hJ, hW⟩ := hE
  rw [Tryz.results15] at hF
  simp (maxSteps := 1000000) only [En.nN, En.E, En.evsC, List.map_cons, List.map_nil, ne_eq, En.bitN, Nat.testBit, seval] at hv
  simp only [En.at_nil, En.at_cons, En.ag_nil, En.ag_cons, and_true, tlRu, glRAf, tyInt, tyU8, tyBool, tyErr, tyStrs, tyBytes, tyInts, tyLat, tyI2, tyTy, tyTys, tyRule, tyTwo, tyLook, tyTab, tyRFn] at hT hG
  unfold aftV at hq
  cases ht : (tckV ns us k r a0 a1 d != 0) <;> rw [ht] at hq
  · obtain ⟨hc, hgd⟩ := tck_zero ht
    have h0 : tckV ns us k r a0 a1 d = 0 := by simpa using ht
    obtain ⟨l1, l2, l3, l4⟩ := lt_of_chk hB hc
    have hq : q = aft2 us ec er co := hq
    unfold aft2 at hq
    cases c1 : labB us.length ec <;> rw [c1] at hq
    · have hq : q = (0, 7) := hq
      simp (maxSteps := 10000000) only [En.E, En.evsC, List.map_cons, List.map_nil, ne_eq, En.bitN, Nat.testBit, seval, En.vV, hs, hv, hT, hG, hF, ruS, spTyC_q, latR_q, latN_q, latU_q, hB, h0, ← l2, spRLab_q, c1, hq]
    · cases c2 : labB us.length er <;> rw [c2] at hq
      · have hq : q = (0, 7) := hq
        simp (maxSteps := 10000000) only [En.E, En.evsC, List.map_cons, List.map_nil, ne_eq, En.bitN, Nat.testBit, seval, En.vV, hs, hv, hT, hG, hF, ruS, spTyC_q, latR_q, latN_q, latU_q, hB, h0, ← l2, spRLab_q, c1, c2, hq]
      · cases c3 : labB us.length co <;> rw [c3] at hq
        · have hq : q = (0, 7) := hq
          simp (maxSteps := 10000000) only [En.E, En.evsC, List.map_cons, List.map_nil, ne_eq, En.bitN, Nat.testBit, seval, En.vV, hs, hv, hT, hG, hF, ruS, spTyC_q, latR_q, latN_q, latU_q, hB, h0, ← l2, spRLab_q, c1, c2, c3, hq]
        · have hq : q = (jI us (jI us ec er) co, 0) := hq
          rw [jI_assoc l1 (labB_iff.1 c1) (labB_iff.1 c2) (labB_iff.1 c3)] at hq
          have c4 := jI_lab l1 c2 c3
          simp (maxSteps := 10000000) only [En.E, En.evsC, List.map_cons, List.map_nil, ne_eq, En.bitN, Nat.testBit, seval, En.vV, hs, hv, hT, hG, hF, ruS, spTyC_q, latR_q, latN_q, latU_q, hB, h0, ← l2, spRLab_q, c1, c2, c3, c4, l1, spRJ21_q, hq]
  · have hq : q = (0, tckV ns us k r a0 a1 d) := hq
    have ht' : (tckV ns us k r a0 a1 d == 0) = false := by simpa [bne] using ht
    simp (maxSteps := 10000000) only [En.E, En.evsC, List.map_cons, List.map_nil, ne_eq, En.bitN, Nat.testBit, seval, En.vV, hs, hv, hT, hG, hF, ht', spRLab_q, Bool.false_eq_true, ruS, spTyC_q, latR_q, latN_q, latU_q, hB, ht, hq]
theorem spRAft_ok : SpecOk Tryz.prog 15 spAft := spAft_of rafter_any
def lrgI (b : Nat) (A B : Option Addr) (c d : Nat) (ns : List ByteArray) (us : List Int) (i : Nat) : SS :=
  ⟨[(1, .p 2000 b 0), (3, .v (.int .i64 i))], chkHp b A B c d ns us, 12000⟩
def lrgV (ns : List ByteArray) (us : List Int) : Bool := bif (List.range (min ns.length 30)).any (fun i => decide (50 < ((ns.getD i ByteArray.empty).size : Int))) then true else bif decide (20 < (ns.length : Int)) then true else decide (20 < (us.length : Int))
theorem lrg_yes {ns : List ByteArray} {us : List Int} {i : Nat} (hi : i < ns.length) (h3 : i < 30) (h : decide (50 < ((ns.getD i ByteArray.empty).size : Int)) = true) : lrgV ns us = true := by
  unfold lrgV
  rw [List.any_eq_true.2 ⟨i, List.mem_range.2 (by omega), h⟩]; rfl
theorem lrg_no {ns : List ByteArray} {us : List Int} (h : ∀ i, i < ns.length → i < 30 → decide (50 < ((ns.getD i ByteArray.empty).size : Int)) = false) : lrgV ns us = bif decide (20 < (ns.length : Int)) then true else decide (20 < (us.length : Int)) := by
  unfold lrgV
  rw [List.any_eq_false.2 fun i hi => by have := List.mem_range.1 hi; rw [h i (by omega) (by omega)]; exact Bool.false_ne_true]; rfl
set_option maxRecDepth 100000 in
set_option maxHeartbeats 4000000 in
theorem large_any (ns : List ByteArray) (us : List Int) (A B : Option Addr) (c d : Nat) (w : World) (hg : allRd w.heap.size w [(1001, .strs A c ns), (1002, .ints B d .u8 us)]) :
    Calls Tryz.prog 13 (dens [.agg [.g 1001 A ns.length c, .g 1002 B us.length d]]).toArray w fun e w' => e = .returned (.bool (lrgV ns us)) ∧ Below w.heap.size w w' := by
  obtain ⟨q, hq⟩ : ∃ q, q = lrgV ns us := ⟨_, rfl⟩
  rw [← hq]
  refine calls_go (args := [.agg [.g 1001 A ns.length c, .g 1002 B us.length d]]) (hp := [(1001, .strs A c ns), (1002, .ints B d .u8 us)]) (nx := 2000) (n := 600) (U := [(1000000, 4)]) (V := []) (tl := tlTp) (gl := gl0) (post := fun s' ys => ys = [.v (.bool q)])
    followP tlTp_ok gl0_ok Tryz.func13 rfl (by kernel_rfl) (Nat.le_of_ble_eq_true (by kernel_rfl)) (by kernel_rfl) (by kernel_rfl) (hh_list hg) (free_list (by simp [allLt])) ?_ ?_
  · rintro s ys w' rfl H
    exact ⟨rfl, H.below⟩
  intro L F T G nd va hE
  obtain ⟨hL, hF, hs, hv, hT, hG, hR, hI, hJ, hW⟩ := hE
  rw [Tryz.results13] at hF
  simp (maxSteps := 1000000) only [En.nN, En.E, En.evsC, List.map_cons, List.map_nil, ne_eq, En.bitN, Nat.testBit, seval] at hv
  simp only [En.at_nil, En.at_cons, En.ag_nil, En.ag_cons, and_true, tlTp, gl0, tyInt, tyU8, tyBool, tyStr, tyErr, tyStrs, tyBytes, tyInts, tyLat, tyI2, tyTy, tyTOrd, tyWith] at hT hG
  simp (maxSteps := 10000000) only [En.E, En.evsC, List.map_cons, List.map_nil, ne_eq, En.bitN, Nat.testBit, seval, En.vV, hs, hv, hT, hG, hF, ]
  intro b2
  refine hI {i : Nat // i ≤ ns.length ∧ i ≤ 30 ∧ ∀ j, j < i → decide (50 < ((ns.getD j ByteArray.empty).size : Int)) = false} (fun y => lrgI b2 A B c d ns us y.1) (fun x => ns.length - x.1) _ _ _ ⟨0, Nat.zero_le _, Nat.zero_le _, fun j hj => absurd hj (Nat.not_lt_zero j)⟩ (sle_all [2000, 1001, 1002] (by decide) (by simp only [En.E, En.evsC, List.map_cons, List.map_nil, ne_eq, En.bitN, Nat.testBit, seval, En.slLe, En.hpLe, En.chE, En.allLt, lrgI, chkHp, Int.cast_ofNat_Int])) ?_
  rintro ⟨i, hi, h30, hp⟩
  refine hR 400 _ _ ?_
  by_cases hlt : i < ns.length
  · have d0 : decide ((i : Int) < (ns.length : Int)) = true := decide_eq_true (by omega)
    by_cases hl3 : i < 30
    · have d3 : decide ((i : Int) < 30) = true := decide_eq_true (by omega)
      have i1 : inr .i64 ((i : Int) + 1) := by simp only [En.inr, En.lo, En.hi]; omega
      cases d1 : decide (50 < ((ns.getD i ByteArray.empty).size : Int)) with
      | true =>
        have hq' : q = true := hq.trans (lrg_yes hlt hl3 d1)
        simp (maxSteps := 10000000) only [En.E, En.evsC, List.map_cons, List.map_nil, ne_eq, En.bitN, Nat.testBit, seval, En.vV, hs, hv, hT, hG, hF, lrgI, chkHp, d0, d3, Int.toNat_natCast, d1, hq']
        exact ⟨by omega, by omega, by omega⟩
      | false =>
        simp (maxSteps := 10000000) only [En.E, En.evsC, List.map_cons, List.map_nil, ne_eq, En.bitN, Nat.testBit, seval, En.vV, hs, hv, hT, hG, hF, lrgI, chkHp, d0, d3, Int.toNat_natCast, d1, i1]
        refine ⟨⟨by omega, by omega⟩, ⟨by omega, by omega⟩, ⟨i + 1, by omega, by omega, fun j hj => ?_⟩, (sle_all [2000, 1001, 1002] (by decide) (by simp only [En.E, En.evsC, List.map_cons, List.map_nil, ne_eq, En.bitN, Nat.testBit, seval, En.slLe, En.hpLe, En.chE, En.allLt, lrgI, chkHp, Int.natCast_add, Int.cast_ofNat_Int])), by simp only; omega⟩
        by_cases e : j = i
        · rw [e]; exact d1
        · exact hp j (by omega)
    · have d3 : decide ((i : Int) < 30) = false := decide_eq_false (by omega)
      have hq' := hq.trans (lrg_no fun j hj hj3 => hp j (by omega))
      cases d2 : decide (20 < (ns.length : Int)) <;> rw [d2] at hq'
      · simp (maxSteps := 10000000) only [En.E, En.evsC, List.map_cons, List.map_nil, ne_eq, En.bitN, Nat.testBit, seval, En.vV, hs, hv, hT, hG, hF, lrgI, chkHp, d0, d3, Int.toNat_natCast, d2, hq', cond_false]
      · simp (maxSteps := 10000000) only [En.E, En.evsC, List.map_cons, List.map_nil, ne_eq, En.bitN, Nat.testBit, seval, En.vV, hs, hv, hT, hG, hF, lrgI, chkHp, d0, d3, Int.toNat_natCast, d2, hq', cond_true]
  · have d0 : decide ((i : Int) < (ns.length : Int)) = false := decide_eq_false (by omega)
    have hq' := hq.trans (lrg_no fun j hj hj3 => hp j (by omega))
    cases d2 : decide (20 < (ns.length : Int)) <;> rw [d2] at hq'
    · simp (maxSteps := 10000000) only [En.E, En.evsC, List.map_cons, List.map_nil, ne_eq, En.bitN, Nat.testBit, seval, En.vV, hs, hv, hT, hG, hF, lrgI, chkHp, d0, Int.toNat_natCast, d2, hq', cond_false]
    · simp (maxSteps := 10000000) only [En.E, En.evsC, List.map_cons, List.map_nil, ne_eq, En.bitN, Nat.testBit, seval, En.vV, hs, hv, hT, hG, hF, lrgI, chkHp, d0, Int.toNat_natCast, d2, hq', cond_true]
def spLrg : Spc
  | [.agg [.g k A n c, .g j B m d]], H, _ => .is (latR A n c B m d (H k) (H j) ∧ True) (.v (.bool (lrgV (latN (H k)) (latU (H j)))))
  | _, _, _ => .bad
theorem spLrg_q {k n c j m d : Nat} {A B : Option Addr}  {H : Nat → Ch} {nx : Nat} : spLrg [.agg [.g k A n c, .g j B m d]] H nx = .is (latR A n c B m d (H k) (H j) ∧ True) (.v (.bool (lrgV (latN (H k)) (latU (H j))))) := (rfl)
theorem spLrg_ok : SpecOk Tryz.prog 13 spLrg := by
  intro args hp nx w0 O w H hv
  unfold spLrg at hv ⊢
  split at hv
  · next k A n c j B m d  =>
    obtain ⟨hl, hx⟩ := hv
    obtain ⟨x1, x2, x3, x4, x5⟩ := latR_of hl
    have h1 := H.hold k
    have h2 := H.hold j
    rw [x1] at h1
    rw [x2] at h2
    have := large_any (latN (lookH hp k)) (latU (lookH hp j)) A B c d w ⟨⟨h1, rfl⟩, ⟨h2, rfl⟩, trivial⟩
    rw [← x3, ← x4] at this
    refine this.mono ?_
    rintro e w' ⟨rfl, hb⟩
    exact ⟨⟨0, none, 0, none, 0, mz⟩, rfl, .still hb⟩
  · exact hv.elim
end Pr
end Go.Proofs.YtnpkmimbnjnicaaGreatDoor
/-
The reference of chapter 21: one, extends, shape, extended.
-/
set_option linter.unusedSimpArgs false
set_option linter.unusedVariables false
namespace Go.Proofs.YtnpkmimbnjnicaaGreatDoor
namespace Pr
open Go Go.RowKit En
open Lt
def memI (xs : List Int) (p : Int) : Bool := xs.any fun x => x == p
def oneI (p : Int) (A : Option Addr) (c : Nat) (xs : List Int) (i : Nat) : SS :=
  ⟨[(0, .v (.int .i64 p)), (1, .g 1001 A xs.length c), (5, .v (.int .i64 i))], [(1001, .ints A c .i64 xs)], 12000⟩
theorem memI_yes {xs : List Int} {p : Int} {i : Nat} (hi : i < xs.length) (h : (xs.getD i 0 == p) = true) : memI xs p = true := by
  refine List.any_eq_true.2 ⟨xs[i], List.getElem_mem hi, ?_⟩
  simpa [List.getD_eq_getElem?_getD, hi] using h
theorem memI_no {xs : List Int} {p : Int} (h : ∀ i, i < xs.length → (xs.getD i 0 == p) = false) : memI xs p = false := by
  refine List.any_eq_false.2 fun x hx => ?_
  obtain ⟨i, hi, rfl⟩ := List.mem_iff_getElem.1 hx
  have := h i hi
  rw [List.getD_eq_getElem?_getD, List.getElem?_eq_getElem hi] at this
  simpa using this
set_option maxRecDepth 100000 in
set_option maxHeartbeats 4000000 in
theorem one_any (p : Int) (xs : List Int) (hn : xs.length ≤ 1000) (A : Option Addr) (c : Nat) (w : World) (h : Hold w.heap.size w (.ints A c .i64 xs)) :
    Calls Tryz.prog 25 #[.int .i64 p, .slice A xs.length c] w fun e w' => e = .returned (.bool (memI xs p)) ∧ Below w.heap.size w w' := by
  obtain ⟨q, hq⟩ : ∃ q, q = memI xs p := ⟨_, rfl⟩
  rw [← hq]
  refine calls_go (args := [.v (.int .i64 p), .g 1001 A xs.length c]) (hp := [(1001, .ints A c .i64 xs)]) (nx := 2000) (n := 400) (U := [(1000000, 6)]) (V := []) (tl := tlRu) (gl := gl0) (post := fun s' ys => ys = [.v (.bool q)])
    followP tlRu_ok gl0_ok Tryz.func25 rfl (by kernel_rfl) (Nat.le_of_ble_eq_true (by kernel_rfl)) (by kernel_rfl) (by kernel_rfl) (hh_list ⟨⟨h, rfl⟩, trivial⟩) (free_list (by simp [allLt])) ?_ ?_
  · rintro s ys w' rfl H
    exact ⟨rfl, H.below⟩
  intro L F T G nd va hE
  obtain ⟨hL, hF, hs, hv, hT, hG, hR, hI, hJ, hW⟩ := hE
  rw [Tryz.results25] at hF
  simp (maxSteps := 1000000) only [En.nN, En.E, En.evsC, List.map_cons, List.map_nil, ne_eq, En.bitN, Nat.testBit, seval] at hv
  simp only [En.at_nil, En.at_cons, En.ag_nil, En.ag_cons, and_true, tlRu, gl0, tyInt, tyU8, tyBool, tyErr, tyStrs, tyBytes, tyInts, tyLat, tyI2, tyTy, tyTys, tyRule, tyTwo, tyLook, tyTab, tyRFn] at hT hG
  simp (maxSteps := 10000000) only [En.E, En.evsC, List.map_cons, List.map_nil, ne_eq, En.bitN, Nat.testBit, seval, En.vV, hs, hv, hT, hG, hF, ]
  refine hI {i : Nat // i ≤ xs.length ∧ ∀ j, j < i → (xs.getD j 0 == p) = false} (fun y => oneI p A c xs y.1) (fun x => xs.length - x.1) _ _ _ ⟨0, Nat.zero_le _, fun j hj => absurd hj (Nat.not_lt_zero j)⟩ (sle_all [1001] (by decide) (by simp only [En.E, En.evsC, List.map_cons, List.map_nil, ne_eq, En.bitN, Nat.testBit, seval, En.slLe, En.hpLe, En.chE, En.allLt, oneI, Int.cast_ofNat_Int])) ?_
  rintro ⟨i, hi, hp⟩
  refine hR 400 _ _ ?_
  by_cases hlt : i < xs.length
  · have d0 : decide ((i : Int) < (xs.length : Int)) = true := decide_eq_true (by omega)
    have i1 : inr .i64 ((i : Int) + 1) := by simp only [En.inr, En.lo, En.hi]; omega
    cases d1 : (xs.getD i 0 == p) with
    | true =>
      have hq' : q = true := hq.trans (memI_yes hlt d1)
      simp (maxSteps := 10000000) only [En.E, En.evsC, List.map_cons, List.map_nil, ne_eq, En.bitN, Nat.testBit, seval, En.vV, hs, hv, hT, hG, hF, oneI, d0, Int.toNat_natCast, d1, hq']
      refine ⟨?_, ?_⟩ <;> omega
    | false =>
      simp (maxSteps := 10000000) only [En.E, En.evsC, List.map_cons, List.map_nil, ne_eq, En.bitN, Nat.testBit, seval, En.vV, hs, hv, hT, hG, hF, oneI, d0, Int.toNat_natCast, d1, i1]
      refine ⟨by omega, by omega, ⟨i + 1, by omega, fun j hj => ?_⟩, (sle_all [1001] (by decide) (by simp only [En.E, En.evsC, List.map_cons, List.map_nil, ne_eq, En.bitN, Nat.testBit, seval, En.slLe, En.hpLe, En.chE, En.allLt, oneI, Int.natCast_add, Int.cast_ofNat_Int])), by simp only; omega⟩
      by_cases e : j = i
      · rw [e]; exact d1
      · exact hp j (by omega)
  · have d0 : decide ((i : Int) < (xs.length : Int)) = false := decide_eq_false (by omega)
    have hq' : q = false := hq.trans (memI_no fun j hj => hp j (by omega))
    simp (maxSteps := 10000000) only [En.E, En.evsC, List.map_cons, List.map_nil, ne_eq, En.bitN, Nat.testBit, seval, En.vV, hs, hv, hT, hG, hF, oneI, d0, Int.toNat_natCast, hq']
def oneR (p : Int) : Option (List Int) → Res
  | some xs => .is (xs.length ≤ 1000) (.v (.bool (memI xs p)))
  | none => .bad
theorem oneR_q {p : Int} {xs : List Int} : oneR p (some xs) = .is (xs.length ≤ 1000) (.v (.bool (memI xs p))) := (rfl)
def spOne : Spc
  | [.v (.int .i64 p), X], H, _ => oneR p (getN H X)
  | _, _, _ => .bad
theorem spOne_q {p : Int} {X : SV} {H : Nat → Ch} {nx : Nat} : spOne [.v (.int .i64 p), X] H nx = oneR p (getN H X) := (rfl)
theorem spOne_ok : SpecOk Tryz.prog 25 spOne := by
  intro args hp nx w0 O w H hv
  unfold spOne at hv ⊢
  split at hv
  · next p x =>
    cases hx : getN (lookH hp) x with
    | some xs =>
      rw [hx] at hv
      obtain ⟨A, c, e, hsl, _⟩ := getN_ok H hx
      have : (dens [.v (.int .i64 p), x]).toArray = #[.int .i64 p, .slice A xs.length c] := by rw [← e]; rfl
      rw [this]
      refine (one_any p xs hv A c w hsl).mono ?_
      rintro e w' ⟨rfl, hb⟩
      exact ⟨⟨0, none, 0, none, 0, mz⟩, rfl, .still hb⟩
    | none => rw [hx] at hv; exact hv.elim
  · exact hv.elim
theorem sh1 {b : Nat} {x0 : Int} {t : TypeId} : (showC b 0 1 (.blk b [.v (.int .i64 x0)] t)).bind intsOf = some [x0] := by
  rw [showC, if_pos ⟨rfl, Nat.le_refl 1⟩]; rfl
theorem sh2 {b : Nat} {x0 x1 : Int} {t : TypeId} : (showC b 0 2 (.blk b [.v (.int .i64 x0), .v (.int .i64 x1)] t)).bind intsOf = some [x0, x1] := by
  rw [showC, if_pos ⟨rfl, Nat.le_refl 2⟩]; rfl
theorem sh3 {b : Nat} {x0 x1 x2 : Int} {t : TypeId} : (showC b 0 3 (.blk b [.v (.int .i64 x0), .v (.int .i64 x1), .v (.int .i64 x2)] t)).bind intsOf = some [x0, x1, x2] := by
  rw [showC, if_pos ⟨rfl, Nat.le_refl 3⟩]; rfl
theorem sh4 {b : Nat} {x0 x1 x2 x3 : Int} {t : TypeId} : (showC b 0 4 (.blk b [.v (.int .i64 x0), .v (.int .i64 x1), .v (.int .i64 x2), .v (.int .i64 x3)] t)).bind intsOf = some [x0, x1, x2, x3] := by
  rw [showC, if_pos ⟨rfl, Nat.le_refl 4⟩]; rfl
theorem sh5 {b : Nat} {x0 x1 x2 x3 x4 : Int} {t : TypeId} : (showC b 0 5 (.blk b [.v (.int .i64 x0), .v (.int .i64 x1), .v (.int .i64 x2), .v (.int .i64 x3), .v (.int .i64 x4)] t)).bind intsOf = some [x0, x1, x2, x3, x4] := by
  rw [showC, if_pos ⟨rfl, Nat.le_refl 5⟩]; rfl
theorem ln1 {x0 : Int} : ([x0].length ≤ 1000) = True := eq_true (show 1 ≤ 1000 by decide)
theorem ln2 {x0 x1 : Int} : ([x0, x1].length ≤ 1000) = True := eq_true (show 2 ≤ 1000 by decide)
theorem ln3 {x0 x1 x2 : Int} : ([x0, x1, x2].length ≤ 1000) = True := eq_true (show 3 ≤ 1000 by decide)
theorem ln4 {x0 x1 x2 x3 : Int} : ([x0, x1, x2, x3].length ≤ 1000) = True := eq_true (show 4 ≤ 1000 by decide)
theorem ln5 {x0 x1 x2 x3 x4 : Int} : ([x0, x1, x2, x3, x4].length ≤ 1000) = True := eq_true (show 5 ≤ 1000 by decide)
def extB (p : Int) : Bool := bif decide (15 ≤ p) then decide (p ≤ 32) else false
theorem ext_any (p : Int) (w : World) : Calls Tryz.prog 26 #[.int .i64 p] w fun e w' => e = .returned (.bool (extB p)) ∧ Below w.heap.size w w' := by
  obtain ⟨q, hq⟩ : ∃ q, q = extB p := ⟨_, rfl⟩
  rw [← hq]
  refine calls_go (args := [.v (.int .i64 p)]) (hp := []) (nx := 1000) (n := 200) (U := []) (V := []) (tl := tlRu) (gl := gl0) (post := fun s ys => ys = [.v (.bool q)])
    followP tlRu_ok gl0_ok Tryz.func26 rfl (by kernel_rfl) (Nat.le_of_ble_eq_true (by kernel_rfl)) (by kernel_rfl) (by kernel_rfl) (hh_list trivial) (fun _ _ => rfl) ?_ ?_
  · rintro s ys w' rfl H
    exact ⟨rfl, H.below⟩
  intro L F T G nd va hE
  obtain ⟨hL, hF, hs, hv, hT, hG, hR, hI, hJ, hW⟩ := hE
  rw [Tryz.results26] at hF
  simp (maxSteps := 1000000) only [En.nN, En.E, En.evsC, List.map_cons, List.map_nil, ne_eq, En.bitN, Nat.testBit, seval] at hv
  simp only [En.at_nil, En.at_cons, En.ag_nil, En.ag_cons, and_true, tlRu, gl0, tyInt, tyU8, tyBool, tyErr, tyStrs, tyBytes, tyInts, tyLat, tyI2, tyTy, tyTys, tyRule, tyTwo, tyLook, tyTab, tyRFn] at hT hG
  unfold extB at hq
  cases h1 : decide (15 ≤ p) <;> rw [h1] at hq
  · simp (maxSteps := 10000000) only [En.E, En.evsC, List.map_cons, List.map_nil, ne_eq, En.bitN, Nat.testBit, seval, En.vV, hs, hv, hT, hG, hF, h1, hq]
  · simp (maxSteps := 10000000) only [En.E, En.evsC, List.map_cons, List.map_nil, ne_eq, En.bitN, Nat.testBit, seval, En.vV, hs, hv, hT, hG, hF, h1, hq]
def spExt : Spc
  | [.v (.int .i64 p)], _, _ => .is (True) (.v (.bool (extB p)))
  | _, _, _ => .bad
theorem spExt_q {p : Int} {H : Nat → Ch} {nx : Nat} : spExt [.v (.int .i64 p)] H nx = .is (True) (.v (.bool (extB p))) := (rfl)
theorem spExt_ok : SpecOk Tryz.prog 26 spExt := specOk_is fun args H nx => by
  unfold spExt; split
  · exact fun _ w => ext_any _ w
  · trivial
def glSp : List (FuncId × Spc) := [(33, spRJ21)]
theorem glSp_ok : GOk Tryz.prog (lookG glSp) := lG_cons (by kernel_rfl) spRJ21_ok lG_nil
set_option maxRecDepth 100000 in
set_option maxHeartbeats 4000000 in
theorem rshape_any (ns : List ByteArray) (us : List Int) (A B : Option Addr) (c d : Nat) (k r a0 a1 f : Int) (hB : Bytes us) (hL' : Lt us) (h0 : labB us.length a0 = true) (h1 : labB us.length a1 = true) (w : World) (hg : allRd w.heap.size w [(1001, .strs A c ns), (1002, .ints B d .u8 us)]) :
    Calls Tryz.prog 118 (dens [.agg [.g 1001 A ns.length c, .g 1002 B us.length d], .agg [.v (.int .i64 k), .v (.int .i64 r), .v (.int .i64 a0), .v (.int .i64 a1), .v (.int .i64 f)]]).toArray w fun e w' => e = .returned (.int .i64 (jI us a0 a1)) ∧ Below w.heap.size w w' := by
  refine calls_go (args := [.agg [.g 1001 A ns.length c, .g 1002 B us.length d], .agg [.v (.int .i64 k), .v (.int .i64 r), .v (.int .i64 a0), .v (.int .i64 a1), .v (.int .i64 f)]]) (hp := [(1001, .strs A c ns), (1002, .ints B d .u8 us)]) (nx := 2000) (n := 600) (U := [(1000000, 8)]) (V := []) (tl := tlRu) (gl := glSp) (post := fun s' ys => ys = [.v (.int .i64 (jI us a0 a1))])
    followP tlRu_ok glSp_ok Tryz.func118 rfl (by kernel_rfl) (Nat.le_of_ble_eq_true (by kernel_rfl)) (by kernel_rfl) (by kernel_rfl) (hh_list hg) (free_list (by simp [allLt])) ?_ ?_
  · rintro s ys w' rfl H
    exact ⟨rfl, H.below⟩
  intro L F T G nd va hE
  obtain ⟨hL, hF, hs, hv, hT, hG, hR, hI, hJ, hW⟩ := hE
  rw [Tryz.results118] at hF
  simp (maxSteps := 1000000) only [En.nN, En.E, En.evsC, List.map_cons, List.map_nil, ne_eq, En.bitN, Nat.testBit, seval] at hv
  simp only [En.at_nil, En.at_cons, En.ag_nil, En.ag_cons, and_true, tlRu, glSp, tyInt, tyU8, tyBool, tyErr, tyStrs, tyBytes, tyInts, tyLat, tyI2, tyTy, tyTys, tyRule, tyTwo, tyLook, tyTab, tyRFn] at hT hG
  simp (maxSteps := 10000000) only [En.E, En.evsC, List.map_cons, List.map_nil, ne_eq, En.bitN, Nat.testBit, seval, En.vV, hs, hv, hT, hG, hF, spRJ21_q, latR_q, latU_q, hB, hL', h0, h1]
def spRShp : Spc
  | [.agg [.g k A n c, .g j B m d], .agg [.v (.int .i64 kk), .v (.int .i64 r), .v (.int .i64 a0), .v (.int .i64 a1), .v (.int .i64 f)]], H, _ => .is (latR A n c B m d (H k) (H j) ∧ Lt (latU (H j)) ∧ labB m a0 = true ∧ labB m a1 = true) (.v (.int .i64 (jI (latU (H j)) a0 a1)))
  | _, _, _ => .bad
theorem spRShp_q {k n c j m d : Nat} {A B : Option Addr} {kk r a0 a1 f : Int} {H : Nat → Ch} {nx : Nat} : spRShp [.agg [.g k A n c, .g j B m d], .agg [.v (.int .i64 kk), .v (.int .i64 r), .v (.int .i64 a0), .v (.int .i64 a1), .v (.int .i64 f)]] H nx = .is (latR A n c B m d (H k) (H j) ∧ Lt (latU (H j)) ∧ labB m a0 = true ∧ labB m a1 = true) (.v (.int .i64 (jI (latU (H j)) a0 a1))) := (rfl)
theorem spRShp_ok : SpecOk Tryz.prog 118 spRShp := by
  intro args hp nx w0 O w H hv
  unfold spRShp at hv ⊢
  split at hv
  · next k A n c j B m d kk r a0 a1 f =>
    obtain ⟨hl, hx⟩ := hv
    obtain ⟨x1, x2, x3, x4, x5⟩ := latR_of hl
    have h1 := H.hold k
    have h2 := H.hold j
    rw [x1] at h1
    rw [x2] at h2
    have := rshape_any (latN (lookH hp k)) (latU (lookH hp j)) A B c d kk r a0 a1 f x5 hx.1 (x4 ▸ hx.2.1) (x4 ▸ hx.2.2) w ⟨⟨h1, rfl⟩, ⟨h2, rfl⟩, trivial⟩
    rw [← x3, ← x4] at this
    refine this.mono ?_
    rintro e w' ⟨rfl, hb⟩
    exact ⟨⟨0, none, 0, none, 0, mz⟩, rfl, .still hb⟩
  · exact hv.elim
def exA (us : List Int) (ra rb a0 b0 : Int) : Int := bif decide (rb < ra) then a0 else bif decide (ra < rb) then b0 else jI us a0 b0
set_option maxRecDepth 100000 in
set_option maxHeartbeats 4000000 in
theorem rextd_any (ns : List ByteArray) (us : List Int) (A B : Option Addr) (c d : Nat) (k r a0 a1 f k' r' b0 b1 g : Int) (hB : Bytes us) (hL' : Lt us) (h0 : labB us.length a0 = true) (h1 : labB us.length a1 = true) (g0 : labB us.length b0 = true) (g1 : labB us.length b1 = true) (w : World) (hg : allRd w.heap.size w [(1001, .strs A c ns), (1002, .ints B d .u8 us)]) :
    Calls Tryz.prog 119 (dens [.agg [.g 1001 A ns.length c, .g 1002 B us.length d], .agg [.v (.int .i64 k), .v (.int .i64 r), .v (.int .i64 a0), .v (.int .i64 a1), .v (.int .i64 f)], .agg [.v (.int .i64 k'), .v (.int .i64 r'), .v (.int .i64 b0), .v (.int .i64 b1), .v (.int .i64 g)]]).toArray w fun e w' => e = .returned (den (.agg [.v (.int .i64 (exA us r r' a0 b0)), .v (.int .i64 (exA us r r' a1 b1))])) ∧ Below w.heap.size w w' := by
  obtain ⟨x, hx⟩ : ∃ x, x = exA us r r' a0 b0 := ⟨_, rfl⟩
  obtain ⟨y, hy⟩ : ∃ y, y = exA us r r' a1 b1 := ⟨_, rfl⟩
  rw [← hx, ← hy]
  refine calls_go (args := [.agg [.g 1001 A ns.length c, .g 1002 B us.length d], .agg [.v (.int .i64 k), .v (.int .i64 r), .v (.int .i64 a0), .v (.int .i64 a1), .v (.int .i64 f)], .agg [.v (.int .i64 k'), .v (.int .i64 r'), .v (.int .i64 b0), .v (.int .i64 b1), .v (.int .i64 g)]]) (hp := [(1001, .strs A c ns), (1002, .ints B d .u8 us)]) (nx := 2000) (n := 600) (U := [(1000000, 8)]) (V := []) (tl := tlRu) (gl := glSp) (post := fun s' ys => ys = [.agg [.v (.int .i64 x), .v (.int .i64 y)]])
    followP tlRu_ok glSp_ok Tryz.func119 rfl (by kernel_rfl) (Nat.le_of_ble_eq_true (by kernel_rfl)) (by kernel_rfl) (by kernel_rfl) (hh_list hg) (free_list (by simp [allLt])) ?_ ?_
  · rintro s ys w' rfl H
    exact ⟨rfl, H.below⟩
  intro L F T G nd va hE
  obtain ⟨hL, hF, hs, hv, hT, hG, hR, hI, hJ, hW⟩ := hE
  rw [Tryz.results119] at hF
  simp (maxSteps := 1000000) only [En.nN, En.E, En.evsC, List.map_cons, List.map_nil, ne_eq, En.bitN, Nat.testBit, seval] at hv
  simp only [En.at_nil, En.at_cons, En.ag_nil, En.ag_cons, and_true, tlRu, glSp, tyInt, tyU8, tyBool, tyErr, tyStrs, tyBytes, tyInts, tyLat, tyI2, tyTy, tyTys, tyRule, tyTwo, tyLook, tyTab, tyRFn] at hT hG
  unfold exA at hx hy
  cases c1 : decide (r' < r) <;> rw [c1] at hx hy
  · cases c2 : decide (r < r') <;> rw [c2] at hx hy
    · simp (maxSteps := 10000000) only [En.E, En.evsC, List.map_cons, List.map_nil, ne_eq, En.bitN, Nat.testBit, seval, En.vV, hs, hv, hT, hG, hF, spRJ21_q, latR_q, latU_q, hB, hL', h0, h1, g0, g1, c1, c2, hx, hy]
    · simp (maxSteps := 10000000) only [En.E, En.evsC, List.map_cons, List.map_nil, ne_eq, En.bitN, Nat.testBit, seval, En.vV, hs, hv, hT, hG, hF, c1, c2, hx, hy]
  · simp (maxSteps := 10000000) only [En.E, En.evsC, List.map_cons, List.map_nil, ne_eq, En.bitN, Nat.testBit, seval, En.vV, hs, hv, hT, hG, hF, c1, hx, hy]
def spRExd : Spc
  | [.agg [.g k A n c, .g j B m d], .agg [.v (.int .i64 kk), .v (.int .i64 r), .v (.int .i64 a0), .v (.int .i64 a1), .v (.int .i64 f)], .agg [.v (.int .i64 k'), .v (.int .i64 r'), .v (.int .i64 b0), .v (.int .i64 b1), .v (.int .i64 g)]], H, _ => .is (latR A n c B m d (H k) (H j) ∧ Lt (latU (H j)) ∧ labB m a0 = true ∧ labB m a1 = true ∧ labB m b0 = true ∧ labB m b1 = true) (.agg [.v (.int .i64 (exA (latU (H j)) r r' a0 b0)), .v (.int .i64 (exA (latU (H j)) r r' a1 b1))])
  | _, _, _ => .bad
theorem spRExd_q {k n c j m d : Nat} {A B : Option Addr} {kk r a0 a1 f k' r' b0 b1 g : Int} {H : Nat → Ch} {nx : Nat} : spRExd [.agg [.g k A n c, .g j B m d], .agg [.v (.int .i64 kk), .v (.int .i64 r), .v (.int .i64 a0), .v (.int .i64 a1), .v (.int .i64 f)], .agg [.v (.int .i64 k'), .v (.int .i64 r'), .v (.int .i64 b0), .v (.int .i64 b1), .v (.int .i64 g)]] H nx = .is (latR A n c B m d (H k) (H j) ∧ Lt (latU (H j)) ∧ labB m a0 = true ∧ labB m a1 = true ∧ labB m b0 = true ∧ labB m b1 = true) (.agg [.v (.int .i64 (exA (latU (H j)) r r' a0 b0)), .v (.int .i64 (exA (latU (H j)) r r' a1 b1))]) := (rfl)
theorem spRExd_ok : SpecOk Tryz.prog 119 spRExd := by
  intro args hp nx w0 O w H hv
  unfold spRExd at hv ⊢
  split at hv
  · next k A n c j B m d kk r a0 a1 f k' r' b0 b1 g =>
    obtain ⟨hl, hx⟩ := hv
    obtain ⟨x1, x2, x3, x4, x5⟩ := latR_of hl
    have h1 := H.hold k
    have h2 := H.hold j
    rw [x1] at h1
    rw [x2] at h2
    have := rextd_any (latN (lookH hp k)) (latU (lookH hp j)) A B c d kk r a0 a1 f k' r' b0 b1 g x5 hx.1 (x4 ▸ hx.2.1) (x4 ▸ hx.2.2.1) (x4 ▸ hx.2.2.2.1) (x4 ▸ hx.2.2.2.2) w ⟨⟨h1, rfl⟩, ⟨h2, rfl⟩, trivial⟩
    rw [← x3, ← x4] at this
    refine this.mono ?_
    rintro e w' ⟨rfl, hb⟩
    exact ⟨⟨0, none, 0, none, 0, mz⟩, rfl, .still hb⟩
  · exact hv.elim
end Pr
end Go.Proofs.YtnpkmimbnjnicaaGreatDoor
