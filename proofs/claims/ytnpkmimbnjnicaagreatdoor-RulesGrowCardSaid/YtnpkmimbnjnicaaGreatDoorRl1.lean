/-
The reference of chapter 20: Label, Leq, Up, Low, Good, Check.
-/
import Derived.Test.YtnpkmimbnjnicaaGreatDoorTp1
set_option linter.unusedSimpArgs false
set_option linter.unusedVariables false
namespace Go.Proofs.YtnpkmimbnjnicaaGreatDoor
namespace Pr
open Go Go.RowKit En
open Lt
theorem rlabel_any (n c k j m e : Nat) (A B : Option Addr) (a : Int) (w : World) : Calls Tryz.prog 32 (dens [.agg [.g k A n c, .g j B m e], .v (.int .i64 a)]).toArray w fun e w' => e = .returned (.bool (labB n a)) ∧ Below w.heap.size w w' := by
  obtain ⟨q, hq⟩ : ∃ q, q = labB n a := ⟨_, rfl⟩
  rw [← hq]
  refine calls_go (args := [.agg [.g k A n c, .g j B m e], .v (.int .i64 a)]) (hp := []) (nx := 1000) (n := 400) (U := [(1000000, 15)]) (V := []) (tl := tlTp) (gl := gl0) (post := fun s ys => ys = [.v (.bool q)])
    followP tlTp_ok gl0_ok Tryz.func32 rfl (by kernel_rfl) (Nat.le_of_ble_eq_true (by kernel_rfl)) (by kernel_rfl) (by kernel_rfl) (hh_list trivial) (fun _ _ => rfl) ?_ ?_
  · rintro s ys w' rfl H
    exact ⟨rfl, H.below⟩
  intro L F T G nd va hE
  obtain ⟨hL, hF, hs, hv, hT, hG, hR, hI, hJ, hW⟩ := hE
  rw [Tryz.results32] at hF
  simp (maxSteps := 1000000) only [En.nN, En.E, En.evsC, List.map_cons, List.map_nil, ne_eq, En.bitN, Nat.testBit, seval] at hv
  simp only [En.at_nil, En.at_cons, En.ag_nil, En.ag_cons, and_true, tlTp, gl0, tyInt, tyU8, tyBool, tyStr, tyErr, tyStrs, tyBytes, tyInts, tyLat, tyI2, tyTy, tyTOrd, tyWith] at hT hG
  unfold labB at hq
  cases h1 : decide (0 ≤ a) <;> rw [h1] at hq
  · simp (maxSteps := 10000000) only [En.E, En.evsC, List.map_cons, List.map_nil, ne_eq, En.bitN, Nat.testBit, seval, En.vV, hs, hv, hT, hG, hF, h1, hq]
  · cases h2 : decide (a < n) <;> rw [h2] at hq
    · simp (maxSteps := 10000000) only [En.E, En.evsC, List.map_cons, List.map_nil, ne_eq, En.bitN, Nat.testBit, seval, En.vV, hs, hv, hT, hG, hF, h1, h2, hq]
    · simp (maxSteps := 10000000) only [En.E, En.evsC, List.map_cons, List.map_nil, ne_eq, En.bitN, Nat.testBit, seval, En.vV, hs, hv, hT, hG, hF, h1, h2, hq]
def spRLab : Spc
  | [.agg [.g k A n c, .g j B m d], .v (.int .i64 a)], _, _ => .is True (.v (.bool (labB n a)))
  | _, _, _ => .bad
theorem spRLab_q {k n c j m d : Nat} {A B : Option Addr} {a : Int} {H : Nat → Ch} {nx : Nat} : spRLab [.agg [.g k A n c, .g j B m d], .v (.int .i64 a)] H nx = .is True (.v (.bool (labB n a))) := (rfl)
theorem spRLab_ok : SpecOk Tryz.prog 32 spRLab := specOk_is fun args H nx => by
  unfold spRLab; split
  · next k A n c j B m d a => exact fun _ w => rlabel_any n c k j m d A B a w
  · trivial
set_option maxRecDepth 100000 in
set_option maxHeartbeats 4000000 in
theorem rtleq_any (ns : List ByteArray) (us : List Int) (A B : Option Addr) (c d : Nat) (a b : Int) (hB : Bytes us) (w : World) (hg : allRd w.heap.size w [(1001, .strs A c ns), (1002, .ints B d .u8 us)]) :
    Calls Tryz.prog 84 (dens [.agg [.g 1001 A ns.length c, .g 1002 B us.length d], .v (.int .i64 a), .v (.int .i64 b)]).toArray w fun e w' => e = .returned (.bool (belV us a b)) ∧ Below w.heap.size w w' := by
  refine calls_go (args := [.agg [.g 1001 A ns.length c, .g 1002 B us.length d], .v (.int .i64 a), .v (.int .i64 b)]) (hp := [(1001, .strs A c ns), (1002, .ints B d .u8 us)]) (nx := 2000) (n := 600) (U := [(1000000, 11)]) (V := []) (tl := tlTp) (gl := glDw) (post := fun s' ys => ys = [.v (.bool (belV us a b))])
    followP tlTp_ok glDw_ok Tryz.func84 rfl (by kernel_rfl) (Nat.le_of_ble_eq_true (by kernel_rfl)) (by kernel_rfl) (by kernel_rfl) (hh_list hg) (free_list (by simp [allLt])) ?_ ?_
  · rintro s ys w' rfl H
    exact ⟨rfl, H.below⟩
  intro L F T G nd va hE
  obtain ⟨hL, hF, hs, hv, hT, hG, hR, hI, hJ, hW⟩ := hE
  rw [Tryz.results84] at hF
  simp (maxSteps := 1000000) only [En.nN, En.E, En.evsC, List.map_cons, List.map_nil, ne_eq, En.bitN, Nat.testBit, seval] at hv
  simp only [En.at_nil, En.at_cons, En.ag_nil, En.ag_cons, and_true, tlTp, glDw, tyInt, tyU8, tyBool, tyStr, tyErr, tyStrs, tyBytes, tyInts, tyLat, tyI2, tyTy, tyTOrd, tyWith] at hT hG
  simp (maxSteps := 10000000) only [En.E, En.evsC, List.map_cons, List.map_nil, ne_eq, En.bitN, Nat.testBit, seval, En.vV, hs, hv, hT, hG, hF, spBelow_q, latR_q, latU_q, hB]
def spRTleq : Spc
  | [.agg [.g k A n c, .g j B m d], .v (.int .i64 a), .v (.int .i64 b)], H, _ => .is (latR A n c B m d (H k) (H j) ∧ True) (.v (.bool (belV (latU (H j)) a b)))
  | _, _, _ => .bad
theorem spRTleq_q {k n c j m d : Nat} {A B : Option Addr} {a b : Int} {H : Nat → Ch} {nx : Nat} : spRTleq [.agg [.g k A n c, .g j B m d], .v (.int .i64 a), .v (.int .i64 b)] H nx = .is (latR A n c B m d (H k) (H j) ∧ True) (.v (.bool (belV (latU (H j)) a b))) := (rfl)
theorem spRTleq_ok : SpecOk Tryz.prog 84 spRTleq := by
  intro args hp nx w0 O w H hv
  unfold spRTleq at hv ⊢
  split at hv
  · next k A n c j B m d a b =>
    obtain ⟨hl, hx⟩ := hv
    obtain ⟨x1, x2, x3, x4, x5⟩ := latR_of hl
    have h1 := H.hold k
    have h2 := H.hold j
    rw [x1] at h1
    rw [x2] at h2
    have := rtleq_any (latN (lookH hp k)) (latU (lookH hp j)) A B c d a b x5 w ⟨⟨h1, rfl⟩, ⟨h2, rfl⟩, trivial⟩
    rw [← x3, ← x4] at this
    refine this.mono ?_
    rintro e w' ⟨rfl, hb⟩
    exact ⟨⟨0, none, 0, none, 0, mz⟩, rfl, .still hb⟩
  · exact hv.elim
def ruI (b : Nat) (A B : Option Addr) (c d : Nat) (ns : List ByteArray) (us : List Int) (x y : Int) (i : Nat) : SS :=
  ⟨[(1, .v (.int .i64 x)), (2, .v (.int .i64 y)), (3, .p 2000 b 0), (7, .v (.int .i64 i))], chkHp b A B c d ns us, 12000⟩
set_option maxRecDepth 100000 in
set_option maxHeartbeats 4000000 in
theorem rup_any (ns : List ByteArray) (us : List Int) (A B : Option Addr) (c d : Nat) (a b : Int) (hL' : Lt us) (ha : lab us a) (hb : lab us b) (w : World) (hg : allRd w.heap.size w [(1001, .strs A c ns), (1002, .ints B d .u8 us)]) :
    Calls Tryz.prog 53 (dens [.agg [.g 1001 A ns.length c, .g 1002 B us.length d], .v (.int .i64 a), .v (.int .i64 b)]).toArray w fun e w' => e = .returned (.int .i64 (jI us a b)) ∧ Below w.heap.size w w' := by
  obtain ⟨q, hq⟩ : ∃ q, q = jI us a b := ⟨_, rfl⟩
  rw [← hq]
  refine calls_go (args := [.agg [.g 1001 A ns.length c, .g 1002 B us.length d], .v (.int .i64 a), .v (.int .i64 b)]) (hp := [(1001, .strs A c ns), (1002, .ints B d .u8 us)]) (nx := 2000) (n := 600) (U := [(1000000, 8)]) (V := []) (tl := tlTp) (gl := gl0) (post := fun s' ys => ys = [.v (.int .i64 q)])
    followP tlTp_ok gl0_ok Tryz.func53 rfl (by kernel_rfl) (Nat.le_of_ble_eq_true (by kernel_rfl)) (by kernel_rfl) (by kernel_rfl) (hh_list hg) (free_list (by simp [allLt])) ?_ ?_
  · rintro s ys w' rfl H
    exact ⟨rfl, H.below⟩
  intro L F T G nd va hE
  obtain ⟨hL, hF, hs, hv, hT, hG, hR, hI, hJ, hW⟩ := hE
  rw [Tryz.results53] at hF
  simp (maxSteps := 1000000) only [En.nN, En.E, En.evsC, List.map_cons, List.map_nil, ne_eq, En.bitN, Nat.testBit, seval] at hv
  simp only [En.at_nil, En.at_cons, En.ag_nil, En.ag_cons, and_true, tlTp, gl0, tyInt, tyU8, tyBool, tyStr, tyErr, tyStrs, tyBytes, tyInts, tyLat, tyI2, tyTy, tyTOrd, tyWith] at hT hG
  have a0 := ha.1; have a1 := ha.2; have b0 := hb.1; have b1 := hb.2
  have h8 := hL'.le8
  have hsp := jI_spec hL' ha hb
  have hx : ∀ i, i < us.length → ∀ j, j < i → us.getD j 0 ≠ bits .and .u8 (us.getD a.toNat 0) (us.getD b.toNat 0) → True := fun _ _ _ _ _ => trivial
  clear hx
  simp (maxSteps := 10000000) only [En.E, En.evsC, List.map_cons, List.map_nil, ne_eq, En.bitN, Nat.testBit, seval, En.vV, hs, hv, hT, hG, hF, ]
  intro b2
  refine hI {i : Nat // i ≤ us.length ∧ ∀ j, j < i → us.getD j 0 ≠ bits .and .u8 (us.getD a.toNat 0) (us.getD b.toNat 0)} (fun y => ruI b2 A B c d ns us a b y.1) (fun x => us.length - x.1) _ _ _ ⟨0, Nat.zero_le _, fun j hj => absurd hj (Nat.not_lt_zero j)⟩ (sle_all [2000, 1001, 1002] (by decide) (by simp only [En.E, En.evsC, List.map_cons, List.map_nil, ne_eq, En.bitN, Nat.testBit, seval, En.slLe, En.hpLe, En.chE, En.allLt, ruI, chkHp, Int.cast_ofNat_Int])) ?_
  rintro ⟨i, hi, hp⟩
  refine hR 400 _ _ ?_
  by_cases hlt : i < us.length
  · have d0 : decide ((i : Int) < (us.length : Int)) = true := decide_eq_true (by omega)
    have i1 : inr .i64 ((i : Int) + 1) := by simp only [En.inr, En.lo, En.hi]; omega
    cases d1 : (us.getD i 0 == bits .and .u8 (us.getD a.toNat 0) (us.getD b.toNat 0)) with
    | true =>
      have hq' : q = i := by rw [hq]; unfold jI; rw [ixL_at hlt (eq_of_beq d1) hp]; omega
      simp (maxSteps := 10000000) only [En.E, En.evsC, List.map_cons, List.map_nil, ne_eq, En.bitN, Nat.testBit, seval, En.vV, hs, hv, hT, hG, hF, ruI, chkHp, d0, Int.toNat_natCast, d1, hq']
      exact ⟨by omega, by omega, by omega, by omega, by omega, by omega⟩
    | false =>
      simp (maxSteps := 10000000) only [En.E, En.evsC, List.map_cons, List.map_nil, ne_eq, En.bitN, Nat.testBit, seval, En.vV, hs, hv, hT, hG, hF, ruI, chkHp, d0, Int.toNat_natCast, d1, i1]
      refine ⟨by omega, by omega, by omega, by omega, by omega, by omega, ⟨i + 1, by omega, fun j hj => ?_⟩, (sle_all [2000, 1001, 1002] (by decide) (by simp only [En.E, En.evsC, List.map_cons, List.map_nil, ne_eq, En.bitN, Nat.testBit, seval, En.slLe, En.hpLe, En.chE, En.allLt, ruI, chkHp, Int.natCast_add, Int.cast_ofNat_Int])), by simp only; omega⟩
      by_cases e : j = i
      · rw [e]; simpa using d1
      · exact hp j (by omega)
  · exfalso
    have : jI us a b = -1 := ixL_no fun j hj => hp j (by omega)
    have := hsp.1.1
    omega
def spRUp : Spc
  | [.agg [.g k A n c, .g j B m d], .v (.int .i64 a), .v (.int .i64 b)], H, _ => .is (latR A n c B m d (H k) (H j) ∧ Lt (latU (H j)) ∧ labB m a = true ∧ labB m b = true) (.v (.int .i64 (jI (latU (H j)) a b)))
  | _, _, _ => .bad
theorem spRUp_q {k n c j m d : Nat} {A B : Option Addr} {a b : Int} {H : Nat → Ch} {nx : Nat} : spRUp [.agg [.g k A n c, .g j B m d], .v (.int .i64 a), .v (.int .i64 b)] H nx = .is (latR A n c B m d (H k) (H j) ∧ Lt (latU (H j)) ∧ labB m a = true ∧ labB m b = true) (.v (.int .i64 (jI (latU (H j)) a b))) := (rfl)
theorem spRUp_ok : SpecOk Tryz.prog 53 spRUp := by
  intro args hp nx w0 O w H hv
  unfold spRUp at hv ⊢
  split at hv
  · next k A n c j B m d a b =>
    obtain ⟨hl, hx⟩ := hv
    obtain ⟨x1, x2, x3, x4, x5⟩ := latR_of hl
    have h1 := H.hold k
    have h2 := H.hold j
    rw [x1] at h1
    rw [x2] at h2
    have := rup_any (latN (lookH hp k)) (latU (lookH hp j)) A B c d a b hx.1 (lab_of x4 hx.2.1) (lab_of x4 hx.2.2) w ⟨⟨h1, rfl⟩, ⟨h2, rfl⟩, trivial⟩
    rw [← x3, ← x4] at this
    refine this.mono ?_
    rintro e w' ⟨rfl, hb⟩
    exact ⟨⟨0, none, 0, none, 0, mz⟩, rfl, .still hb⟩
  · exact hv.elim
def rlI (b : Nat) (A B : Option Addr) (c d : Nat) (ns : List ByteArray) (us : List Int) (i : Nat) : SS :=
  ⟨[(1, .p 2000 b 0), (3, .v (.int .i64 i))], chkHp b A B c d ns us, 12000⟩
set_option maxRecDepth 100000 in
set_option maxHeartbeats 4000000 in
theorem rlow_any (ns : List ByteArray) (us : List Int) (A B : Option Addr) (c d : Nat) (hL' : Lt us) (w : World) (hg : allRd w.heap.size w [(1001, .strs A c ns), (1002, .ints B d .u8 us)]) :
    Calls Tryz.prog 83 (dens [.agg [.g 1001 A ns.length c, .g 1002 B us.length d]]).toArray w fun e w' => e = .returned (.int .i64 (botI us)) ∧ Below w.heap.size w w' := by
  obtain ⟨q, hq⟩ : ∃ q, q = botI us := ⟨_, rfl⟩
  rw [← hq]
  refine calls_go (args := [.agg [.g 1001 A ns.length c, .g 1002 B us.length d]]) (hp := [(1001, .strs A c ns), (1002, .ints B d .u8 us)]) (nx := 2000) (n := 600) (U := [(1000000, 4)]) (V := []) (tl := tlTp) (gl := gl0) (post := fun s' ys => ys = [.v (.int .i64 q)])
    followP tlTp_ok gl0_ok Tryz.func83 rfl (by kernel_rfl) (Nat.le_of_ble_eq_true (by kernel_rfl)) (by kernel_rfl) (by kernel_rfl) (hh_list hg) (free_list (by simp [allLt])) ?_ ?_
  · rintro s ys w' rfl H
    exact ⟨rfl, H.below⟩
  intro L F T G nd va hE
  obtain ⟨hL, hF, hs, hv, hT, hG, hR, hI, hJ, hW⟩ := hE
  rw [Tryz.results83] at hF
  simp (maxSteps := 1000000) only [En.nN, En.E, En.evsC, List.map_cons, List.map_nil, ne_eq, En.bitN, Nat.testBit, seval] at hv
  simp only [En.at_nil, En.at_cons, En.ag_nil, En.ag_cons, and_true, tlTp, gl0, tyInt, tyU8, tyBool, tyStr, tyErr, tyStrs, tyBytes, tyInts, tyLat, tyI2, tyTy, tyTOrd, tyWith] at hT hG
  have h8 := hL'.le8
  have hsp := botI_spec hL'
  have mk := msk64 h8
  have mk2 : (2 : Int) ^ us.length - 1 = ((2 ^ us.length - 1 : Nat) : Int) := by
    have : 0 < 2 ^ us.length := Nat.two_pow_pos _
    rw [Int.natCast_sub (by omega)]; simp
  have hp2 : 2 ^ us.length ≤ 256 := Nat.le_trans (Nat.pow_le_pow_right (by decide) h8) (by decide)
  have hp1 : 0 < 2 ^ us.length := Nat.two_pow_pos _
  simp (maxSteps := 10000000) only [En.E, En.evsC, List.map_cons, List.map_nil, ne_eq, En.bitN, Nat.testBit, seval, En.vV, hs, hv, hT, hG, hF, ]
  intro b2
  refine hI {i : Nat // i ≤ us.length ∧ ∀ j, j < i → us.getD j 0 ≠ 2 ^ us.length - 1} (fun y => rlI b2 A B c d ns us y.1) (fun x => us.length - x.1) _ _ _ ⟨0, Nat.zero_le _, fun j hj => absurd hj (Nat.not_lt_zero j)⟩ (sle_all [2000, 1001, 1002] (by decide) (by simp only [En.E, En.evsC, List.map_cons, List.map_nil, ne_eq, En.bitN, Nat.testBit, seval, En.slLe, En.hpLe, En.chE, En.allLt, rlI, chkHp, Int.cast_ofNat_Int])) ?_
  rintro ⟨i, hi, hp⟩
  refine hR 400 _ _ ?_
  by_cases hlt : i < us.length
  · have d0 : decide ((i : Int) < (us.length : Int)) = true := decide_eq_true (by omega)
    have i1 : inr .i64 ((i : Int) + 1) := by simp only [En.inr, En.lo, En.hi]; omega
    have hb := hL'.by8 i
    have i2 : inr .i64 (us.getD i 0) := by simp only [En.inr, En.lo, En.hi]; omega
    have i3 : inr .i64 (1 * 2 ^ min us.length 64) := by
      have : (1 * 2 ^ min us.length 64 : Int) = ((2 ^ us.length - 1 : Nat) : Int) + 1 := by omega
      rw [this]; simp only [En.inr, En.lo, En.hi]; omega
    have i4 : inr .i64 (1 * 2 ^ min us.length 64 - 1) := by rw [mk]; simp only [En.inr, En.lo, En.hi]; omega
    cases d1 : (us.getD i 0 == 1 * 2 ^ min us.length 64 - 1) with
    | true =>
      have hq' : q = i := by rw [hq]; unfold botI; rw [ixL_at hlt ((eq_of_beq d1).trans (mk.trans mk2.symm)) hp]; omega
      simp (maxSteps := 10000000) only [En.E, En.evsC, List.map_cons, List.map_nil, ne_eq, En.bitN, Nat.testBit, seval, En.vV, hs, hv, hT, hG, hF, rlI, chkHp, d0, Int.toNat_natCast, d1, hq', i2, i3, i4]
      exact ⟨by omega, by omega, by omega⟩
    | false =>
      simp (maxSteps := 10000000) only [En.E, En.evsC, List.map_cons, List.map_nil, ne_eq, En.bitN, Nat.testBit, seval, En.vV, hs, hv, hT, hG, hF, rlI, chkHp, d0, Int.toNat_natCast, d1, i1, i2, i3, i4]
      refine ⟨by omega, by omega, by omega, ⟨i + 1, by omega, fun j hj => ?_⟩, (sle_all [2000, 1001, 1002] (by decide) (by simp only [En.E, En.evsC, List.map_cons, List.map_nil, ne_eq, En.bitN, Nat.testBit, seval, En.slLe, En.hpLe, En.chE, En.allLt, rlI, chkHp, Int.natCast_add, Int.cast_ofNat_Int])), by simp only; omega⟩
      by_cases e : j = i
      · rw [e, mk2, ← mk]; simpa using d1
      · exact hp j (by omega)
  · exfalso
    have : botI us = -1 := ixL_no fun j hj => hp j (by omega)
    have := hsp.1.1
    omega
def spRLow : Spc
  | [.agg [.g k A n c, .g j B m d]], H, _ => .is (latR A n c B m d (H k) (H j) ∧ Lt (latU (H j))) (.v (.int .i64 (botI (latU (H j)))))
  | _, _, _ => .bad
theorem spRLow_q {k n c j m d : Nat} {A B : Option Addr}  {H : Nat → Ch} {nx : Nat} : spRLow [.agg [.g k A n c, .g j B m d]] H nx = .is (latR A n c B m d (H k) (H j) ∧ Lt (latU (H j))) (.v (.int .i64 (botI (latU (H j))))) := (rfl)
theorem spRLow_ok : SpecOk Tryz.prog 83 spRLow := by
  intro args hp nx w0 O w H hv
  unfold spRLow at hv ⊢
  split at hv
  · next k A n c j B m d  =>
    obtain ⟨hl, hx⟩ := hv
    obtain ⟨x1, x2, x3, x4, x5⟩ := latR_of hl
    have h1 := H.hold k
    have h2 := H.hold j
    rw [x1] at h1
    rw [x2] at h2
    have := rlow_any (latN (lookH hp k)) (latU (lookH hp j)) A B c d hx w ⟨⟨h1, rfl⟩, ⟨h2, rfl⟩, trivial⟩
    rw [← x3, ← x4] at this
    refine this.mono ?_
    rintro e w' ⟨rfl, hb⟩
    exact ⟨⟨0, none, 0, none, 0, mz⟩, rfl, .still hb⟩
  · exact hv.elim
def glRg : List (FuncId × Spc) := [(32, spRLab), (83, spRLow), (84, spRTleq)]
theorem glRg_ok : GOk Tryz.prog (lookG glRg) := lG_cons (by kernel_rfl) spRLab_ok <| lG_cons (by kernel_rfl) spRLow_ok <| lG_cons (by kernel_rfl) spRTleq_ok lG_nil
theorem bne_of {x y : Int} {b : Bool} (h : (x == y) = b) : (y != x) = !b := by
  rw [← h]
  show (!(y == x)) = _
  congr 1
  apply Bool.eq_iff_iff.2
  rw [beq_iff_eq, beq_iff_eq]
  exact eq_comm
set_option maxRecDepth 100000 in
set_option maxHeartbeats 8000000 in
theorem rgood_any (ns : List ByteArray) (us : List Int) (A B : Option Addr) (c e : Nat) (k r a0 a1 d : Int) (hL' : Lt us) (hl : us.length = ns.length) (w : World) (hg : allRd w.heap.size w [(1001, .strs A c ns), (1002, .ints B e .u8 us)]) :
    Calls Tryz.prog 39 (dens [.agg [.g 1001 A ns.length c, .g 1002 B us.length e], .agg (tyS k r a0 a1 d)]).toArray w fun e w' => e = .returned (.int .i64 (goodV us k r a0 a1 d)) ∧ Below w.heap.size w w' := by
  obtain ⟨q, hq⟩ : ∃ q, q = goodV us k r a0 a1 d := ⟨_, rfl⟩
  rw [← hq]
  refine calls_go (args := [.agg [.g 1001 A ns.length c, .g 1002 B us.length e], .agg (tyS k r a0 a1 d)]) (hp := [(1001, .strs A c ns), (1002, .ints B e .u8 us)]) (nx := 2000) (n := 600) (U := [(6, 3), (11, 3), (1000000, 7)]) (V := []) (tl := tlTp) (gl := glRg) (post := fun s' ys => ys = [.v (.int .i64 q)])
    followP tlTp_ok glRg_ok Tryz.func39 rfl (by kernel_rfl) (Nat.le_of_ble_eq_true (by kernel_rfl)) (by kernel_rfl) (by kernel_rfl) (hh_list hg) (free_list (by simp [allLt])) ?_ ?_
  · rintro s ys w' rfl H
    exact ⟨rfl, H.below⟩
  intro L F T G nd va hE
  obtain ⟨hL, hF, hs, hv, hT, hG, hR, hI, hJ, hW⟩ := hE
  rw [Tryz.results39] at hF
  simp (maxSteps := 1000000) only [En.nN, En.E, En.evsC, List.map_cons, List.map_nil, ne_eq, En.bitN, Nat.testBit, seval] at hv
  simp only [En.at_nil, En.at_cons, En.ag_nil, En.ag_cons, and_true, tlTp, glRg, tyInt, tyU8, tyBool, tyStr, tyErr, tyStrs, tyBytes, tyInts, tyLat, tyI2, tyTy, tyTOrd, tyWith] at hT hG
  have hB := hL'.by8
  have h8 := hL'.le8
  have i1 : inr .i64 1 := by simp only [En.inr, En.lo, En.hi]; omega
  have i2 : inr .i64 2 := by simp only [En.inr, En.lo, En.hi]; omega
  unfold goodV at hq
  cases h1 : (bif k != 1 then k != 2 else false) <;> rw [h1] at hq
  · cases h2 : decide (r < 0) <;> rw [h2] at hq
    · cases h3 : decide (2 < r) <;> rw [h3] at hq
      · have hr : r = 0 ∨ r = 1 ∨ r = 2 := by
          have := of_decide_eq_false h2
          have := of_decide_eq_false h3
          omega
        cases h4 : labB us.length a0 <;> rw [h4] at hq
        · simp (maxSteps := 10000000) only [En.E, En.evsC, List.map_cons, List.map_nil, ne_eq, En.bitN, Nat.testBit, seval, En.vV, hs, hv, hT, hG, hF, tyS, h1, h2, h3, spRLab_q, ← hl, h4, hq]
        · cases h5 : labB us.length a1 <;> rw [h5] at hq
          · simp (maxSteps := 10000000) only [En.E, En.evsC, List.map_cons, List.map_nil, ne_eq, En.bitN, Nat.testBit, seval, En.vV, hs, hv, hT, hG, hF, tyS, h1, h2, h3, spRLab_q, ← hl, h4, h5, hq]
          · cases h6 : labB us.length d <;> rw [h6] at hq
            · simp (maxSteps := 10000000) only [En.E, En.evsC, List.map_cons, List.map_nil, ne_eq, En.bitN, Nat.testBit, seval, En.vV, hs, hv, hT, hG, hF, tyS, h1, h2, h3, spRLab_q, ← hl, h4, h5, h6, hq]
            · have hq : q = goodR us r a0 a1 d := hq
              have l0 := labB_iff.1 h4
              have l1 := labB_iff.1 h5
              have l2 := labB_iff.1 h6
              have v0 := belV_lab hB h8 l0 l2
              have v1 := belV_lab hB h8 l1 l2
              rcases hr with rfl | rfl | rfl
              · cases e0 : (botI us == a0)
                · have hq : q = 6 := by rw [hq]; unfold goodR; rw [e0]; rfl
                  have e0' := bne_of e0
                  simp (maxSteps := 10000000) only [En.E, En.evsC, List.map_cons, List.map_nil, ne_eq, En.bitN, Nat.testBit, seval, En.vV, hs, hv, hT, hG, hF, tyS, h1, spRLab_q, ← hl, h4, h5, h6, spRLow_q, spRTleq_q, latR_q, latU_q, hB, hL', i1, i2, e0', hq]
                · have e0' := bne_of e0
                  cases e1 : (botI us == a1)
                  · have hq : q = 6 := by rw [hq]; unfold goodR; rw [e0, e1]; rfl
                    have e1' := bne_of e1
                    simp (maxSteps := 10000000) only [En.E, En.evsC, List.map_cons, List.map_nil, ne_eq, En.bitN, Nat.testBit, seval, En.vV, hs, hv, hT, hG, hF, tyS, h1, spRLab_q, ← hl, h4, h5, h6, spRLow_q, spRTleq_q, latR_q, latU_q, hB, hL', i1, i2, e0', e1', hq]
                  · have hq : q = 0 := by rw [hq]; unfold goodR; rw [e0, e1]; rfl
                    have e1' := bne_of e1
                    simp (maxSteps := 10000000) only [En.E, En.evsC, List.map_cons, List.map_nil, ne_eq, En.bitN, Nat.testBit, seval, En.vV, hs, hv, hT, hG, hF, tyS, h1, spRLab_q, ← hl, h4, h5, h6, spRLow_q, spRTleq_q, latR_q, latU_q, hB, hL', i1, i2, e0', e1', hq]
              · cases e1 : (botI us == a1)
                · have hq : q = 6 := by rw [hq]; unfold goodR; rw [e1]; rfl
                  have e1' := bne_of e1
                  simp (maxSteps := 10000000) only [En.E, En.evsC, List.map_cons, List.map_nil, ne_eq, En.bitN, Nat.testBit, seval, En.vV, hs, hv, hT, hG, hF, tyS, h1, spRLab_q, ← hl, h4, h5, h6, spRLow_q, spRTleq_q, latR_q, latU_q, hB, hL', i1, i2, e1', hq]
                · have e1' := bne_of e1
                  cases e2 : leI us a0 d <;> rw [e2] at v0
                  · have hq : q = 25 := by rw [hq]; unfold goodR; rw [e1, e2]; rfl
                    simp (maxSteps := 10000000) only [En.E, En.evsC, List.map_cons, List.map_nil, ne_eq, En.bitN, Nat.testBit, seval, En.vV, hs, hv, hT, hG, hF, tyS, h1, spRLab_q, ← hl, h4, h5, h6, spRLow_q, spRTleq_q, latR_q, latU_q, hB, hL', i1, i2, e1', v0, hq]
                  · have hq : q = 0 := by rw [hq]; unfold goodR; rw [e1, e2]; rfl
                    simp (maxSteps := 10000000) only [En.E, En.evsC, List.map_cons, List.map_nil, ne_eq, En.bitN, Nat.testBit, seval, En.vV, hs, hv, hT, hG, hF, tyS, h1, spRLab_q, ← hl, h4, h5, h6, spRLow_q, spRTleq_q, latR_q, latU_q, hB, hL', i1, i2, e1', v0, hq]
              · cases e2 : leI us a0 d <;> rw [e2] at v0
                · have hq : q = 25 := by rw [hq]; unfold goodR; rw [e2]; rfl
                  simp (maxSteps := 10000000) only [En.E, En.evsC, List.map_cons, List.map_nil, ne_eq, En.bitN, Nat.testBit, seval, En.vV, hs, hv, hT, hG, hF, tyS, h1, spRLab_q, ← hl, h4, h5, h6, spRLow_q, spRTleq_q, latR_q, latU_q, hB, hL', i1, i2, v0, hq]
                · cases e3 : leI us a1 d <;> rw [e3] at v1
                  · have hq : q = 25 := by rw [hq]; unfold goodR; rw [e2, e3]; rfl
                    simp (maxSteps := 10000000) only [En.E, En.evsC, List.map_cons, List.map_nil, ne_eq, En.bitN, Nat.testBit, seval, En.vV, hs, hv, hT, hG, hF, tyS, h1, spRLab_q, ← hl, h4, h5, h6, spRLow_q, spRTleq_q, latR_q, latU_q, hB, hL', i1, i2, v0, v1, hq]
                  · have hq : q = 0 := by rw [hq]; unfold goodR; rw [e2, e3]; rfl
                    simp (maxSteps := 10000000) only [En.E, En.evsC, List.map_cons, List.map_nil, ne_eq, En.bitN, Nat.testBit, seval, En.vV, hs, hv, hT, hG, hF, tyS, h1, spRLab_q, ← hl, h4, h5, h6, spRLow_q, spRTleq_q, latR_q, latU_q, hB, hL', i1, i2, v0, v1, hq]
      · simp (maxSteps := 10000000) only [En.E, En.evsC, List.map_cons, List.map_nil, ne_eq, En.bitN, Nat.testBit, seval, En.vV, hs, hv, hT, hG, hF, tyS, h1, h2, h3, hq]
    · simp (maxSteps := 10000000) only [En.E, En.evsC, List.map_cons, List.map_nil, ne_eq, En.bitN, Nat.testBit, seval, En.vV, hs, hv, hT, hG, hF, tyS, h1, h2, hq]
  · simp (maxSteps := 10000000) only [En.E, En.evsC, List.map_cons, List.map_nil, ne_eq, En.bitN, Nat.testBit, seval, En.vV, hs, hv, hT, hG, hF, tyS, h1, hq]
end Pr
end Go.Proofs.YtnpkmimbnjnicaaGreatDoor
/-
The rules of primitives: joins of labels over both operands (chapter 21; printed by genRl.py).
-/
set_option linter.unusedSimpArgs false
set_option linter.unusedVariables false
namespace Go.Proofs.YtnpkmimbnjnicaaGreatDoor
namespace Pr
open Go Go.RowKit En
open Lt
def tlRu : List (TypeId × TI) := [tyInt, tyU8, tyBool, tyErr, tyStrs, tyBytes, tyInts, tyLat, tyI2, tyTy, tyTys, tyRule, tyTwo, tyLook, tyTab, tyRFn]
theorem tlRu_ok : TyAll Tryz.prog (lookT tlRu) := tyAll_p tyInt_ok <| tyAll_p tyU8_ok <| tyAll_p tyBool_ok <| tyAll_p tyErr_ok <| tyAll_p tyStrs_ok <| tyAll_p tyBytes_ok <| tyAll_p tyInts_ok <| tyAll_p tyLat_ok <| tyAll_p tyI2_ok <| tyAll_p tyTy_ok <| tyAll_p tyTys_ok <| tyAll_p tyRule_ok <| tyAll_p tyTwo_ok <| tyAll_p tyLook_ok <| tyAll_p tyTab_ok <| tyAll_p tyRFn_ok tyAll_nil
def lkR (m : Nat) (us : List Int) (a0 a1 d b0 b1 f z : Int) : Prop := Lt us ∧ z = botI us ∧ labB m a0 = true ∧ labB m a1 = true ∧ labB m d = true ∧ labB m b0 = true ∧ labB m b1 = true ∧ labB m f = true
theorem jI_fold {us : List Int} {a b : Int} : ixL (bits .and .u8 (us.getD a.toNat 0) (us.getD b.toNat 0)) us 0 = jI us a b := (rfl)
theorem labB_jI {us : List Int} (h : Lt us) {a b : Int} (ha : labB us.length a = true) (hb : labB us.length b = true) : labB us.length (jI us a b) = true := labB_iff.2 (jI_spec h (labB_iff.1 ha) (labB_iff.1 hb)).1
def ruS (k r a0 a1 d e c : Int) : List SV := [.v (.int .i64 k), .v (.int .i64 r), .v (.int .i64 a0), .v (.int .i64 a1), .v (.int .i64 d), .v (.int .i64 e), .v (.int .i64 c)]
set_option maxRecDepth 100000 in
set_option maxHeartbeats 8000000 in
theorem ljoin_any (ns : List ByteArray) (us : List Int) (A B C : Option Addr) (c e g : Nat) (ka ra a0 a1 d kb rb b0 b1 f x y : Int) (hL' : Lt us) (hx : labB us.length x = true) (hy : labB us.length y = true) (w : World) (hg : allRd w.heap.size w [(1001, .strs A c ns), (1002, .ints B e .u8 us), (1003, .ints C g .i64 [x, y])]) :
    Calls Tryz.prog 113 (dens [.agg [.g 1001 A ns.length c, .g 1002 B us.length e, .v (.int .i64 ka), .v (.int .i64 ra), .v (.int .i64 a0), .v (.int .i64 a1), .v (.int .i64 d), .v (.int .i64 kb), .v (.int .i64 rb), .v (.int .i64 b0), .v (.int .i64 b1), .v (.int .i64 f), .v (.int .i64 (botI us))], .g 1003 C 2 g]).toArray w fun e' w' => e' = .returned (.int .i64 (jI us x y)) ∧ Below w.heap.size w w' := by
  have hB := hL'.by8
  have lx := labB_iff.1 hx
  have ly := labB_iff.1 hy
  have lb := (botI_spec hL').1
  have jb := jI_bot hL' lx
  have h8 := hL'.le8
  have h9 : us.length ≤ 100000 := by omega
  refine calls_go (args := [.agg [.g 1001 A ns.length c, .g 1002 B us.length e, .v (.int .i64 ka), .v (.int .i64 ra), .v (.int .i64 a0), .v (.int .i64 a1), .v (.int .i64 d), .v (.int .i64 kb), .v (.int .i64 rb), .v (.int .i64 b0), .v (.int .i64 b1), .v (.int .i64 f), .v (.int .i64 (botI us))], .g 1003 C 2 g]) (hp := [(1001, .strs A c ns), (1002, .ints B e .u8 us), (1003, .ints C g .i64 [x, y])]) (nx := 2000) (n := 900) (U := [(3, 3), (1000000, 35)]) (V := []) (tl := tlRu) (gl := glTj) (post := fun s' ys => ys = [.v (.int .i64 (jI us x y))])
    followP tlRu_ok glTj_ok Tryz.func113 rfl (by kernel_rfl) (Nat.le_of_ble_eq_true (by kernel_rfl)) (by kernel_rfl) (by kernel_rfl) (hh_list hg) (free_list (by simp [allLt])) ?_ ?_
  · rintro s ys w' rfl H
    exact ⟨rfl, H.below⟩
  intro L F T G nd va hE
  obtain ⟨hL, hF, hs, hv, hT, hG, hR, hI, hJ, hW⟩ := hE
  rw [Tryz.results113] at hF
  simp (maxSteps := 1000000) only [En.nN, En.E, En.evsC, List.map_cons, List.map_nil, ne_eq, En.bitN, Nat.testBit, seval] at hv
  simp only [En.at_nil, En.at_cons, En.ag_nil, En.ag_cons, and_true, tlRu, glTj, tyInt, tyU8, tyBool, tyErr, tyStrs, tyBytes, tyInts, tyLat, tyI2, tyTy, tyTys, tyRule, tyTwo, tyLook, tyTab, tyRFn] at hT hG
  have i1 : inr .i64 1 := by simp only [En.inr, En.lo, En.hi]; omega
  have i2 : inr .i64 2 := by simp only [En.inr, En.lo, En.hi]; omega
  have x0 := lx.1; have x1 := lx.2; have y0 := ly.1; have y1 := ly.2; have z0 := lb.1; have z1 := lb.2
  simp (maxSteps := 10000000) only [En.E, En.evsC, List.map_cons, List.map_nil, ne_eq, En.bitN, Nat.testBit, seval, En.vV, hs, hv, hT, hG, hF, spIxU_q, byR_q, latU_q, hB, h9, jI_fold, jb, i1, i2, List.length_cons, List.length_nil, List.getD_cons_zero, List.getD_cons_succ, Int.cast_ofNat_Int]
  exact ⟨⟨z0, z1⟩, ⟨z0, by omega⟩, ⟨x0, x1⟩, ⟨x0, by omega⟩, ⟨x0, x1⟩, ⟨x0, by omega⟩, ⟨y0, y1⟩, y0, by omega⟩
def ljR {i n c j m e : Nat} {A B : Option Addr} {ka ra a0 a1 d kb rb b0 b1 f z : Int} (H : Nat → Ch) : Option (List Int) → Res
  | some [x, y] => .is (latR A n c B m e (H i) (H j) ∧ Lt (latU (H j)) ∧ z = botI (latU (H j)) ∧ labB m x = true ∧ labB m y = true) (.v (.int .i64 (jI (latU (H j)) x y)))
  | _ => .bad
def spLJ : Spc
  | [.agg [.g i A n c, .g j B m e, .v (.int .i64 ka), .v (.int .i64 ra), .v (.int .i64 a0), .v (.int .i64 a1), .v (.int .i64 d), .v (.int .i64 kb), .v (.int .i64 rb), .v (.int .i64 b0), .v (.int .i64 b1), .v (.int .i64 f), .v (.int .i64 z)], L], H, _ => ljR (A := A) (B := B) (i := i) (n := n) (c := c) (j := j) (m := m) (e := e) (ka := ka) (ra := ra) (a0 := a0) (a1 := a1) (d := d) (kb := kb) (rb := rb) (b0 := b0) (b1 := b1) (f := f) (z := z) H (getN H L)
  | _, _, _ => .bad
theorem spLJ_q {i n c j m e : Nat} {A B : Option Addr} {ka ra a0 a1 d kb rb b0 b1 f z : Int} {L : SV} {H : Nat → Ch} {nx : Nat} : spLJ [.agg [.g i A n c, .g j B m e, .v (.int .i64 ka), .v (.int .i64 ra), .v (.int .i64 a0), .v (.int .i64 a1), .v (.int .i64 d), .v (.int .i64 kb), .v (.int .i64 rb), .v (.int .i64 b0), .v (.int .i64 b1), .v (.int .i64 f), .v (.int .i64 z)], L] H nx = ljR (A := A) (B := B) (i := i) (n := n) (c := c) (j := j) (m := m) (e := e) (ka := ka) (ra := ra) (a0 := a0) (a1 := a1) (d := d) (kb := kb) (rb := rb) (b0 := b0) (b1 := b1) (f := f) (z := z) H (getN H L) := (rfl)
theorem ljR_q {i n c j m e : Nat} {A B : Option Addr} {ka ra a0 a1 d kb rb b0 b1 f z : Int} {x y : Int} {H : Nat → Ch} : ljR (A := A) (B := B) (i := i) (n := n) (c := c) (j := j) (m := m) (e := e) (ka := ka) (ra := ra) (a0 := a0) (a1 := a1) (d := d) (kb := kb) (rb := rb) (b0 := b0) (b1 := b1) (f := f) (z := z) H (some [x, y]) = .is (latR A n c B m e (H i) (H j) ∧ Lt (latU (H j)) ∧ z = botI (latU (H j)) ∧ labB m x = true ∧ labB m y = true) (.v (.int .i64 (jI (latU (H j)) x y))) := (rfl)
theorem spLJ_ok : SpecOk Tryz.prog 113 spLJ := by
  intro args hp nx w0 O w H hv
  unfold spLJ at hv ⊢
  split at hv
  · next i A n c j B m e ka ra a0 a1 d kb rb b0 b1 f z L =>
    unfold ljR at hv ⊢
    split at hv
    · next x y hL =>
      obtain ⟨hl, hl', hz, hx, hy⟩ := hv
      obtain ⟨C, g, q1, q2, _⟩ := getN_ok H hL
      obtain ⟨x1, x2, x3, x4, x5⟩ := latR_of hl
      have h1 := H.hold i
      have h2 := H.hold j
      rw [x1] at h1
      rw [x2] at h2
      have := ljoin_any (latN (lookH hp i)) (latU (lookH hp j)) A B C c e g ka ra a0 a1 d kb rb b0 b1 f x y hl' (by rw [← x4]; exact hx) (by rw [← x4]; exact hy) w ⟨⟨h1, rfl⟩, ⟨h2, rfl⟩, ⟨q2, rfl⟩, trivial⟩
      rw [← hz, ← x3, ← x4] at this
      rw [show dens [.agg [.g i A n c, .g j B m e, .v (.int .i64 ka), .v (.int .i64 ra), .v (.int .i64 a0), .v (.int .i64 a1), .v (.int .i64 d), .v (.int .i64 kb), .v (.int .i64 rb), .v (.int .i64 b0), .v (.int .i64 b1), .v (.int .i64 f), .v (.int .i64 z)], L] = dens [.agg [.g i A n c, .g j B m e, .v (.int .i64 ka), .v (.int .i64 ra), .v (.int .i64 a0), .v (.int .i64 a1), .v (.int .i64 d), .v (.int .i64 kb), .v (.int .i64 rb), .v (.int .i64 b0), .v (.int .i64 b1), .v (.int .i64 f), .v (.int .i64 z)], .g 1003 C 2 g] by simp [dens, den, q1]]
      refine this.mono ?_
      rintro e w' ⟨rfl, hb⟩
      exact ⟨⟨0, none, 0, none, 0, mz⟩, rfl, .still hb⟩
    · exact hv.elim
  · exact hv.elim
def glSh : List (FuncId × Spc) := [(113, spLJ)]
theorem glSh_ok : GOk Tryz.prog (lookG glSh) := lG_cons (by kernel_rfl) spLJ_ok lG_nil
set_option maxRecDepth 100000 in
set_option maxHeartbeats 8000000 in
theorem lshape_any (ns : List ByteArray) (us : List Int) (A B : Option Addr) (c e : Nat) (ka ra a0 a1 d kb rb b0 b1 f : Int) (k r t0 t1 t : Int) (g0 : labB us.length t0 = true) (g1 : labB us.length t1 = true) (hL' : Lt us) (h0 : labB us.length a0 = true) (h1 : labB us.length a1 = true) (h2 : labB us.length d = true) (h3 : labB us.length b0 = true) (h4 : labB us.length b1 = true) (h5 : labB us.length f = true) (w : World) (hg : allRd w.heap.size w [(1001, .strs A c ns), (1002, .ints B e .u8 us)]) :
    Calls Tryz.prog 114 (dens [.agg [.g 1001 A ns.length c, .g 1002 B us.length e, .v (.int .i64 ka), .v (.int .i64 ra), .v (.int .i64 a0), .v (.int .i64 a1), .v (.int .i64 d), .v (.int .i64 kb), .v (.int .i64 rb), .v (.int .i64 b0), .v (.int .i64 b1), .v (.int .i64 f), .v (.int .i64 (botI us))], .agg [.v (.int .i64 k), .v (.int .i64 r), .v (.int .i64 t0), .v (.int .i64 t1), .v (.int .i64 t)]]).toArray w fun e' w' => e' = .returned (.int .i64 (jI us t0 t1)) ∧ Below w.heap.size w w' := by
  have hB := hL'.by8
  refine calls_go (args := [.agg [.g 1001 A ns.length c, .g 1002 B us.length e, .v (.int .i64 ka), .v (.int .i64 ra), .v (.int .i64 a0), .v (.int .i64 a1), .v (.int .i64 d), .v (.int .i64 kb), .v (.int .i64 rb), .v (.int .i64 b0), .v (.int .i64 b1), .v (.int .i64 f), .v (.int .i64 (botI us))], .agg [.v (.int .i64 k), .v (.int .i64 r), .v (.int .i64 t0), .v (.int .i64 t1), .v (.int .i64 t)]]) (hp := [(1001, .strs A c ns), (1002, .ints B e .u8 us)]) (nx := 2000) (n := 900) (U := [(1000000, 60)]) (V := []) (tl := tlRu) (gl := glSh) (post := fun s' ys => ys = [.v (.int .i64 (jI us t0 t1))])
    followP tlRu_ok glSh_ok Tryz.func114 rfl (by kernel_rfl) (Nat.le_of_ble_eq_true (by kernel_rfl)) (by kernel_rfl) (by kernel_rfl) (hh_list hg) (free_list (by simp [allLt])) ?_ ?_
  · rintro s ys w' rfl H
    exact ⟨rfl, H.below⟩
  intro L F T G nd va hE
  obtain ⟨hL, hF, hs, hv, hT, hG, hR, hI, hJ, hW⟩ := hE
  rw [Tryz.results114] at hF
  simp (maxSteps := 1000000) only [En.nN, En.E, En.evsC, List.map_cons, List.map_nil, ne_eq, En.bitN, Nat.testBit, seval] at hv
  simp only [En.at_nil, En.at_cons, En.ag_nil, En.ag_cons, and_true, tlRu, glSh, tyInt, tyU8, tyBool, tyErr, tyStrs, tyBytes, tyInts, tyLat, tyI2, tyTy, tyTys, tyRule, tyTwo, tyLook, tyTab, tyRFn] at hT hG
  simp (maxSteps := 10000000) only [En.E, En.evsC, List.map_cons, List.map_nil, ne_eq, En.bitN, Nat.testBit, seval, En.vV, hs, hv, hT, hG, hF, spLJ_q, getN_gp, getN_nil, showC, intsOf, if_true, Option.bind_some, Option.map_some, List.length_cons, List.length_nil, ljR_q, g0, g1, hL', h0, h1, h2, h3, h4, h5, lkR, latR_q, latN_q, latU_q, hB, and_self]
def spShp : Spc
  | [.agg [.g i A n c, .g j B m e, .v (.int .i64 ka), .v (.int .i64 ra), .v (.int .i64 a0), .v (.int .i64 a1), .v (.int .i64 d), .v (.int .i64 kb), .v (.int .i64 rb), .v (.int .i64 b0), .v (.int .i64 b1), .v (.int .i64 f), .v (.int .i64 z)], .agg [.v (.int .i64 k), .v (.int .i64 r), .v (.int .i64 t0), .v (.int .i64 t1), .v (.int .i64 t)]], H, _ => .is (latR A n c B m e (H i) (H j) ∧ lkR m (latU (H j)) a0 a1 d b0 b1 f z ∧ labB m t0 = true ∧ labB m t1 = true) (.v (.int .i64 (jI (latU (H j)) t0 t1)))
  | _, _, _ => .bad
theorem spShp_q {i n c j m e : Nat} {A B : Option Addr} {ka ra a0 a1 d kb rb b0 b1 f z : Int} {k r t0 t1 t : Int} {H : Nat → Ch} {nx : Nat} : spShp [.agg [.g i A n c, .g j B m e, .v (.int .i64 ka), .v (.int .i64 ra), .v (.int .i64 a0), .v (.int .i64 a1), .v (.int .i64 d), .v (.int .i64 kb), .v (.int .i64 rb), .v (.int .i64 b0), .v (.int .i64 b1), .v (.int .i64 f), .v (.int .i64 z)], .agg [.v (.int .i64 k), .v (.int .i64 r), .v (.int .i64 t0), .v (.int .i64 t1), .v (.int .i64 t)]] H nx = .is (latR A n c B m e (H i) (H j) ∧ lkR m (latU (H j)) a0 a1 d b0 b1 f z ∧ labB m t0 = true ∧ labB m t1 = true) (.v (.int .i64 (jI (latU (H j)) t0 t1))) := (rfl)
theorem spShp_ok : SpecOk Tryz.prog 114 spShp := by
  intro args hp nx w0 O w H hv
  unfold spShp at hv ⊢
  split at hv
  · next i A n c j B m e ka ra a0 a1 d kb rb b0 b1 f z k r t0 t1 t =>
    obtain ⟨hl, hx⟩ := hv
    obtain ⟨x1, x2, x3, x4, x5⟩ := latR_of hl
    have h1 := H.hold i
    have h2 := H.hold j
    rw [x1] at h1
    rw [x2] at h2
    have := lshape_any (latN (lookH hp i)) (latU (lookH hp j)) A B c e ka ra a0 a1 d kb rb b0 b1 f k r t0 t1 t (by rw [← x4]; exact hx.2.1) (by rw [← x4]; exact hx.2.2) hx.1.1 (by rw [← x4]; exact hx.1.2.2.1) (by rw [← x4]; exact hx.1.2.2.2.1) (by rw [← x4]; exact hx.1.2.2.2.2.1) (by rw [← x4]; exact hx.1.2.2.2.2.2.1) (by rw [← x4]; exact hx.1.2.2.2.2.2.2.1) (by rw [← x4]; exact hx.1.2.2.2.2.2.2.2) w ⟨⟨h1, rfl⟩, ⟨h2, rfl⟩, trivial⟩
    rw [← hx.1.2.1, ← x3, ← x4] at this
    refine this.mono ?_
    rintro e w' ⟨rfl, hb⟩
    exact ⟨⟨0, none, 0, none, 0, mz⟩, rfl, .still hb⟩
  · exact hv.elim
set_option maxRecDepth 100000 in
set_option maxHeartbeats 8000000 in
theorem ldata_any (ns : List ByteArray) (us : List Int) (A B : Option Addr) (c e : Nat) (ka ra a0 a1 d kb rb b0 b1 f : Int) (hL' : Lt us) (h0 : labB us.length a0 = true) (h1 : labB us.length a1 = true) (h2 : labB us.length d = true) (h3 : labB us.length b0 = true) (h4 : labB us.length b1 = true) (h5 : labB us.length f = true) (w : World) (hg : allRd w.heap.size w [(1001, .strs A c ns), (1002, .ints B e .u8 us)]) :
    Calls Tryz.prog 111 (dens [.agg [.g 1001 A ns.length c, .g 1002 B us.length e, .v (.int .i64 ka), .v (.int .i64 ra), .v (.int .i64 a0), .v (.int .i64 a1), .v (.int .i64 d), .v (.int .i64 kb), .v (.int .i64 rb), .v (.int .i64 b0), .v (.int .i64 b1), .v (.int .i64 f), .v (.int .i64 (botI us))]]).toArray w fun e' w' => e' = .returned (.int .i64 (jI us d f)) ∧ Below w.heap.size w w' := by
  have hB := hL'.by8
  refine calls_go (args := [.agg [.g 1001 A ns.length c, .g 1002 B us.length e, .v (.int .i64 ka), .v (.int .i64 ra), .v (.int .i64 a0), .v (.int .i64 a1), .v (.int .i64 d), .v (.int .i64 kb), .v (.int .i64 rb), .v (.int .i64 b0), .v (.int .i64 b1), .v (.int .i64 f), .v (.int .i64 (botI us))]]) (hp := [(1001, .strs A c ns), (1002, .ints B e .u8 us)]) (nx := 2000) (n := 900) (U := [(1000000, 60)]) (V := []) (tl := tlRu) (gl := glSh) (post := fun s' ys => ys = [.v (.int .i64 (jI us d f))])
    followP tlRu_ok glSh_ok Tryz.func111 rfl (by kernel_rfl) (Nat.le_of_ble_eq_true (by kernel_rfl)) (by kernel_rfl) (by kernel_rfl) (hh_list hg) (free_list (by simp [allLt])) ?_ ?_
  · rintro s ys w' rfl H
    exact ⟨rfl, H.below⟩
  intro L F T G nd va hE
  obtain ⟨hL, hF, hs, hv, hT, hG, hR, hI, hJ, hW⟩ := hE
  rw [Tryz.results111] at hF
  simp (maxSteps := 1000000) only [En.nN, En.E, En.evsC, List.map_cons, List.map_nil, ne_eq, En.bitN, Nat.testBit, seval] at hv
  simp only [En.at_nil, En.at_cons, En.ag_nil, En.ag_cons, and_true, tlRu, glSh, tyInt, tyU8, tyBool, tyErr, tyStrs, tyBytes, tyInts, tyLat, tyI2, tyTy, tyTys, tyRule, tyTwo, tyLook, tyTab, tyRFn] at hT hG
  simp (maxSteps := 10000000) only [En.E, En.evsC, List.map_cons, List.map_nil, ne_eq, En.bitN, Nat.testBit, seval, En.vV, hs, hv, hT, hG, hF, spLJ_q, getN_gp, getN_nil, showC, intsOf, if_true, Option.bind_some, Option.map_some, List.length_cons, List.length_nil, ljR_q, hL', h0, h1, h2, h3, h4, h5, lkR, latR_q, latN_q, latU_q, hB, and_self]
def spDat : Spc
  | [.agg [.g i A n c, .g j B m e, .v (.int .i64 ka), .v (.int .i64 ra), .v (.int .i64 a0), .v (.int .i64 a1), .v (.int .i64 d), .v (.int .i64 kb), .v (.int .i64 rb), .v (.int .i64 b0), .v (.int .i64 b1), .v (.int .i64 f), .v (.int .i64 z)]], H, _ => .is (latR A n c B m e (H i) (H j) ∧ lkR m (latU (H j)) a0 a1 d b0 b1 f z) (.v (.int .i64 (jI (latU (H j)) d f)))
  | _, _, _ => .bad
theorem spDat_q {i n c j m e : Nat} {A B : Option Addr} {ka ra a0 a1 d kb rb b0 b1 f z : Int}  {H : Nat → Ch} {nx : Nat} : spDat [.agg [.g i A n c, .g j B m e, .v (.int .i64 ka), .v (.int .i64 ra), .v (.int .i64 a0), .v (.int .i64 a1), .v (.int .i64 d), .v (.int .i64 kb), .v (.int .i64 rb), .v (.int .i64 b0), .v (.int .i64 b1), .v (.int .i64 f), .v (.int .i64 z)]] H nx = .is (latR A n c B m e (H i) (H j) ∧ lkR m (latU (H j)) a0 a1 d b0 b1 f z) (.v (.int .i64 (jI (latU (H j)) d f))) := (rfl)
theorem spDat_ok : SpecOk Tryz.prog 111 spDat := by
  intro args hp nx w0 O w H hv
  unfold spDat at hv ⊢
  split at hv
  · next i A n c j B m e ka ra a0 a1 d kb rb b0 b1 f z  =>
    obtain ⟨hl, hx⟩ := hv
    obtain ⟨x1, x2, x3, x4, x5⟩ := latR_of hl
    have h1 := H.hold i
    have h2 := H.hold j
    rw [x1] at h1
    rw [x2] at h2
    have := ldata_any (latN (lookH hp i)) (latU (lookH hp j)) A B c e ka ra a0 a1 d kb rb b0 b1 f  hx.1 (by rw [← x4]; exact hx.2.2.1) (by rw [← x4]; exact hx.2.2.2.1) (by rw [← x4]; exact hx.2.2.2.2.1) (by rw [← x4]; exact hx.2.2.2.2.2.1) (by rw [← x4]; exact hx.2.2.2.2.2.2.1) (by rw [← x4]; exact hx.2.2.2.2.2.2.2) w ⟨⟨h1, rfl⟩, ⟨h2, rfl⟩, trivial⟩
    rw [← hx.2.1, ← x3, ← x4] at this
    refine this.mono ?_
    rintro e w' ⟨rfl, hb⟩
    exact ⟨⟨0, none, 0, none, 0, mz⟩, rfl, .still hb⟩
  · exact hv.elim
def glAx : List (FuncId × Spc) := [(113, spLJ), (114, spShp)]
theorem glAx_ok : GOk Tryz.prog (lookG glAx) := lG_cons (by kernel_rfl) spLJ_ok <| lG_cons (by kernel_rfl) spShp_ok lG_nil
def axX (us : List Int) (a0 a1 b0 b1 : Int) : Int := jI us (jI us a0 a1) (jI us b0 b1)
set_option maxRecDepth 100000 in
set_option maxHeartbeats 8000000 in
theorem laxes_any (ns : List ByteArray) (us : List Int) (A B : Option Addr) (c e : Nat) (ka ra a0 a1 d kb rb b0 b1 f : Int) (hL' : Lt us) (h0 : labB us.length a0 = true) (h1 : labB us.length a1 = true) (h2 : labB us.length d = true) (h3 : labB us.length b0 = true) (h4 : labB us.length b1 = true) (h5 : labB us.length f = true) (w : World) (hg : allRd w.heap.size w [(1001, .strs A c ns), (1002, .ints B e .u8 us)]) :
    Calls Tryz.prog 112 (dens [.agg [.g 1001 A ns.length c, .g 1002 B us.length e, .v (.int .i64 ka), .v (.int .i64 ra), .v (.int .i64 a0), .v (.int .i64 a1), .v (.int .i64 d), .v (.int .i64 kb), .v (.int .i64 rb), .v (.int .i64 b0), .v (.int .i64 b1), .v (.int .i64 f), .v (.int .i64 (botI us))]]).toArray w fun e' w' => e' = .returned (.int .i64 (axX us a0 a1 b0 b1)) ∧ Below w.heap.size w w' := by
  have hB := hL'.by8
  refine calls_go (args := [.agg [.g 1001 A ns.length c, .g 1002 B us.length e, .v (.int .i64 ka), .v (.int .i64 ra), .v (.int .i64 a0), .v (.int .i64 a1), .v (.int .i64 d), .v (.int .i64 kb), .v (.int .i64 rb), .v (.int .i64 b0), .v (.int .i64 b1), .v (.int .i64 f), .v (.int .i64 (botI us))]]) (hp := [(1001, .strs A c ns), (1002, .ints B e .u8 us)]) (nx := 2000) (n := 900) (U := [(1000000, 60)]) (V := []) (tl := tlRu) (gl := glAx) (post := fun s' ys => ys = [.v (.int .i64 (axX us a0 a1 b0 b1))])
    followP tlRu_ok glAx_ok Tryz.func112 rfl (by kernel_rfl) (Nat.le_of_ble_eq_true (by kernel_rfl)) (by kernel_rfl) (by kernel_rfl) (hh_list hg) (free_list (by simp [allLt])) ?_ ?_
  · rintro s ys w' rfl H
    exact ⟨rfl, H.below⟩
  intro L F T G nd va hE
  obtain ⟨hL, hF, hs, hv, hT, hG, hR, hI, hJ, hW⟩ := hE
  rw [Tryz.results112] at hF
  simp (maxSteps := 1000000) only [En.nN, En.E, En.evsC, List.map_cons, List.map_nil, ne_eq, En.bitN, Nat.testBit, seval] at hv
  simp only [En.at_nil, En.at_cons, En.ag_nil, En.ag_cons, and_true, tlRu, glAx, tyInt, tyU8, tyBool, tyErr, tyStrs, tyBytes, tyInts, tyLat, tyI2, tyTy, tyTys, tyRule, tyTwo, tyLook, tyTab, tyRFn] at hT hG
  have j1 := labB_jI hL' h0 h1
  have j2 := labB_jI hL' h3 h4
  simp (maxSteps := 10000000) only [En.E, En.evsC, List.map_cons, List.map_nil, ne_eq, En.bitN, Nat.testBit, seval, En.vV, hs, hv, hT, hG, hF, spLJ_q, spShp_q, getN_gp, getN_nil, showC, intsOf, if_true, Option.bind_some, Option.map_some, List.length_cons, List.length_nil, ljR_q, j1, j2, axX, hL', h0, h1, h2, h3, h4, h5, lkR, latR_q, latN_q, latU_q, hB, and_self]
def spAxs : Spc
  | [.agg [.g i A n c, .g j B m e, .v (.int .i64 ka), .v (.int .i64 ra), .v (.int .i64 a0), .v (.int .i64 a1), .v (.int .i64 d), .v (.int .i64 kb), .v (.int .i64 rb), .v (.int .i64 b0), .v (.int .i64 b1), .v (.int .i64 f), .v (.int .i64 z)]], H, _ => .is (latR A n c B m e (H i) (H j) ∧ lkR m (latU (H j)) a0 a1 d b0 b1 f z) (.v (.int .i64 (axX (latU (H j)) a0 a1 b0 b1)))
  | _, _, _ => .bad
theorem spAxs_q {i n c j m e : Nat} {A B : Option Addr} {ka ra a0 a1 d kb rb b0 b1 f z : Int}  {H : Nat → Ch} {nx : Nat} : spAxs [.agg [.g i A n c, .g j B m e, .v (.int .i64 ka), .v (.int .i64 ra), .v (.int .i64 a0), .v (.int .i64 a1), .v (.int .i64 d), .v (.int .i64 kb), .v (.int .i64 rb), .v (.int .i64 b0), .v (.int .i64 b1), .v (.int .i64 f), .v (.int .i64 z)]] H nx = .is (latR A n c B m e (H i) (H j) ∧ lkR m (latU (H j)) a0 a1 d b0 b1 f z) (.v (.int .i64 (axX (latU (H j)) a0 a1 b0 b1))) := (rfl)
theorem spAxs_ok : SpecOk Tryz.prog 112 spAxs := by
  intro args hp nx w0 O w H hv
  unfold spAxs at hv ⊢
  split at hv
  · next i A n c j B m e ka ra a0 a1 d kb rb b0 b1 f z  =>
    obtain ⟨hl, hx⟩ := hv
    obtain ⟨x1, x2, x3, x4, x5⟩ := latR_of hl
    have h1 := H.hold i
    have h2 := H.hold j
    rw [x1] at h1
    rw [x2] at h2
    have := laxes_any (latN (lookH hp i)) (latU (lookH hp j)) A B c e ka ra a0 a1 d kb rb b0 b1 f  hx.1 (by rw [← x4]; exact hx.2.2.1) (by rw [← x4]; exact hx.2.2.2.1) (by rw [← x4]; exact hx.2.2.2.2.1) (by rw [← x4]; exact hx.2.2.2.2.2.1) (by rw [← x4]; exact hx.2.2.2.2.2.2.1) (by rw [← x4]; exact hx.2.2.2.2.2.2.2) w ⟨⟨h1, rfl⟩, ⟨h2, rfl⟩, trivial⟩
    rw [← hx.2.1, ← x3, ← x4] at this
    refine this.mono ?_
    rintro e w' ⟨rfl, hb⟩
    exact ⟨⟨0, none, 0, none, 0, mz⟩, rfl, .still hb⟩
  · exact hv.elim
set_option maxRecDepth 100000 in
set_option maxHeartbeats 8000000 in
theorem lboth_any (ns : List ByteArray) (us : List Int) (A B : Option Addr) (c e : Nat) (ka ra a0 a1 d kb rb b0 b1 f : Int) (hL' : Lt us) (h0 : labB us.length a0 = true) (h1 : labB us.length a1 = true) (h2 : labB us.length d = true) (h3 : labB us.length b0 = true) (h4 : labB us.length b1 = true) (h5 : labB us.length f = true) (w : World) (hg : allRd w.heap.size w [(1001, .strs A c ns), (1002, .ints B e .u8 us)]) :
    Calls Tryz.prog 115 (dens [.agg [.g 1001 A ns.length c, .g 1002 B us.length e, .v (.int .i64 ka), .v (.int .i64 ra), .v (.int .i64 a0), .v (.int .i64 a1), .v (.int .i64 d), .v (.int .i64 kb), .v (.int .i64 rb), .v (.int .i64 b0), .v (.int .i64 b1), .v (.int .i64 f), .v (.int .i64 (botI us))]]).toArray w fun e' w' => e' = .returned (den (.agg [.v (.int .i64 (jI us a0 b0)), .v (.int .i64 (jI us a1 b1))])) ∧ Below w.heap.size w w' := by
  have hB := hL'.by8
  refine calls_go (args := [.agg [.g 1001 A ns.length c, .g 1002 B us.length e, .v (.int .i64 ka), .v (.int .i64 ra), .v (.int .i64 a0), .v (.int .i64 a1), .v (.int .i64 d), .v (.int .i64 kb), .v (.int .i64 rb), .v (.int .i64 b0), .v (.int .i64 b1), .v (.int .i64 f), .v (.int .i64 (botI us))]]) (hp := [(1001, .strs A c ns), (1002, .ints B e .u8 us)]) (nx := 2000) (n := 900) (U := [(2, 3), (1000000, 5)]) (V := []) (tl := tlRu) (gl := glSh) (post := fun s' ys => ys = [.agg [.v (.int .i64 (jI us a0 b0)), .v (.int .i64 (jI us a1 b1))]])
    followP tlRu_ok glSh_ok Tryz.func115 rfl (by kernel_rfl) (Nat.le_of_ble_eq_true (by kernel_rfl)) (by kernel_rfl) (by kernel_rfl) (hh_list hg) (free_list (by simp [allLt])) ?_ ?_
  · rintro s ys w' rfl H
    exact ⟨rfl, H.below⟩
  intro L F T G nd va hE
  obtain ⟨hL, hF, hs, hv, hT, hG, hR, hI, hJ, hW⟩ := hE
  rw [Tryz.results115] at hF
  simp (maxSteps := 1000000) only [En.nN, En.E, En.evsC, List.map_cons, List.map_nil, ne_eq, En.bitN, Nat.testBit, seval] at hv
  simp only [En.at_nil, En.at_cons, En.ag_nil, En.ag_cons, and_true, tlRu, glSh, tyInt, tyU8, tyBool, tyErr, tyStrs, tyBytes, tyInts, tyLat, tyI2, tyTy, tyTys, tyRule, tyTwo, tyLook, tyTab, tyRFn] at hT hG
  have i1 : inr .i64 1 := by simp only [En.inr, En.lo, En.hi]; omega
  have i2 : inr .i64 2 := by simp only [En.inr, En.lo, En.hi]; omega
  simp (maxSteps := 10000000) only [En.E, En.evsC, List.map_cons, List.map_nil, ne_eq, En.bitN, Nat.testBit, seval, En.vV, hs, hv, hT, hG, hF, spLJ_q, getN_gp, getN_nil, showC, intsOf, if_true, Option.bind_some, Option.map_some, List.length_cons, List.length_nil, ljR_q, i1, i2, hL', h0, h1, h2, h3, h4, h5, lkR, latR_q, latN_q, latU_q, hB, and_self]
def spBth : Spc
  | [.agg [.g i A n c, .g j B m e, .v (.int .i64 ka), .v (.int .i64 ra), .v (.int .i64 a0), .v (.int .i64 a1), .v (.int .i64 d), .v (.int .i64 kb), .v (.int .i64 rb), .v (.int .i64 b0), .v (.int .i64 b1), .v (.int .i64 f), .v (.int .i64 z)]], H, _ => .is (latR A n c B m e (H i) (H j) ∧ lkR m (latU (H j)) a0 a1 d b0 b1 f z) (.agg [.v (.int .i64 (jI (latU (H j)) a0 b0)), .v (.int .i64 (jI (latU (H j)) a1 b1))])
  | _, _, _ => .bad
theorem spBth_q {i n c j m e : Nat} {A B : Option Addr} {ka ra a0 a1 d kb rb b0 b1 f z : Int}  {H : Nat → Ch} {nx : Nat} : spBth [.agg [.g i A n c, .g j B m e, .v (.int .i64 ka), .v (.int .i64 ra), .v (.int .i64 a0), .v (.int .i64 a1), .v (.int .i64 d), .v (.int .i64 kb), .v (.int .i64 rb), .v (.int .i64 b0), .v (.int .i64 b1), .v (.int .i64 f), .v (.int .i64 z)]] H nx = .is (latR A n c B m e (H i) (H j) ∧ lkR m (latU (H j)) a0 a1 d b0 b1 f z) (.agg [.v (.int .i64 (jI (latU (H j)) a0 b0)), .v (.int .i64 (jI (latU (H j)) a1 b1))]) := (rfl)
theorem spBth_ok : SpecOk Tryz.prog 115 spBth := by
  intro args hp nx w0 O w H hv
  unfold spBth at hv ⊢
  split at hv
  · next i A n c j B m e ka ra a0 a1 d kb rb b0 b1 f z  =>
    obtain ⟨hl, hx⟩ := hv
    obtain ⟨x1, x2, x3, x4, x5⟩ := latR_of hl
    have h1 := H.hold i
    have h2 := H.hold j
    rw [x1] at h1
    rw [x2] at h2
    have := lboth_any (latN (lookH hp i)) (latU (lookH hp j)) A B c e ka ra a0 a1 d kb rb b0 b1 f  hx.1 (by rw [← x4]; exact hx.2.2.1) (by rw [← x4]; exact hx.2.2.2.1) (by rw [← x4]; exact hx.2.2.2.2.1) (by rw [← x4]; exact hx.2.2.2.2.2.1) (by rw [← x4]; exact hx.2.2.2.2.2.2.1) (by rw [← x4]; exact hx.2.2.2.2.2.2.2) w ⟨⟨h1, rfl⟩, ⟨h2, rfl⟩, trivial⟩
    rw [← hx.2.1, ← x3, ← x4] at this
    refine this.mono ?_
    rintro e w' ⟨rfl, hb⟩
    exact ⟨⟨0, none, 0, none, 0, mz⟩, rfl, .still hb⟩
  · exact hv.elim
def glRu : List (FuncId × Spc) := [(112, spAxs)]
theorem glRu_ok : GOk Tryz.prog (lookG glRu) := lG_cons (by kernel_rfl) spAxs_ok lG_nil
set_option maxRecDepth 100000 in
set_option maxHeartbeats 8000000 in
theorem lrule_any (ns : List ByteArray) (us : List Int) (A B : Option Addr) (c e : Nat) (ka ra a0 a1 d kb rb b0 b1 f : Int) (p0 p1 dt er : Int) (hL' : Lt us) (h0 : labB us.length a0 = true) (h1 : labB us.length a1 = true) (h2 : labB us.length d = true) (h3 : labB us.length b0 = true) (h4 : labB us.length b1 = true) (h5 : labB us.length f = true) (w : World) (hg : allRd w.heap.size w [(1001, .strs A c ns), (1002, .ints B e .u8 us)]) :
    Calls Tryz.prog 110 (dens [.agg [.g 1001 A ns.length c, .g 1002 B us.length e, .v (.int .i64 ka), .v (.int .i64 ra), .v (.int .i64 a0), .v (.int .i64 a1), .v (.int .i64 d), .v (.int .i64 kb), .v (.int .i64 rb), .v (.int .i64 b0), .v (.int .i64 b1), .v (.int .i64 f), .v (.int .i64 (botI us))], .agg [.v (.int .i64 p0), .v (.int .i64 p1)], .v (.int .i64 dt), .v (.int .i64 er)]).toArray w fun e' w' => e' = .returned (den (.agg (ruS 0 0 p0 p1 dt er (axX us a0 a1 b0 b1)))) ∧ Below w.heap.size w w' := by
  have hB := hL'.by8
  refine calls_go (args := [.agg [.g 1001 A ns.length c, .g 1002 B us.length e, .v (.int .i64 ka), .v (.int .i64 ra), .v (.int .i64 a0), .v (.int .i64 a1), .v (.int .i64 d), .v (.int .i64 kb), .v (.int .i64 rb), .v (.int .i64 b0), .v (.int .i64 b1), .v (.int .i64 f), .v (.int .i64 (botI us))], .agg [.v (.int .i64 p0), .v (.int .i64 p1)], .v (.int .i64 dt), .v (.int .i64 er)]) (hp := [(1001, .strs A c ns), (1002, .ints B e .u8 us)]) (nx := 2000) (n := 900) (U := [(1000000, 60)]) (V := []) (tl := tlRu) (gl := glRu) (post := fun s' ys => ys = [.agg (ruS 0 0 p0 p1 dt er (axX us a0 a1 b0 b1))])
    followP tlRu_ok glRu_ok Tryz.func110 rfl (by kernel_rfl) (Nat.le_of_ble_eq_true (by kernel_rfl)) (by kernel_rfl) (by kernel_rfl) (hh_list hg) (free_list (by simp [allLt])) ?_ ?_
  · rintro s ys w' rfl H
    exact ⟨rfl, H.below⟩
  intro L F T G nd va hE
  obtain ⟨hL, hF, hs, hv, hT, hG, hR, hI, hJ, hW⟩ := hE
  rw [Tryz.results110] at hF
  simp (maxSteps := 1000000) only [En.nN, En.E, En.evsC, List.map_cons, List.map_nil, ne_eq, En.bitN, Nat.testBit, seval] at hv
  simp only [En.at_nil, En.at_cons, En.ag_nil, En.ag_cons, and_true, tlRu, glRu, tyInt, tyU8, tyBool, tyErr, tyStrs, tyBytes, tyInts, tyLat, tyI2, tyTy, tyTys, tyRule, tyTwo, tyLook, tyTab, tyRFn] at hT hG
  simp (maxSteps := 10000000) only [En.E, En.evsC, List.map_cons, List.map_nil, ne_eq, En.bitN, Nat.testBit, seval, En.vV, hs, hv, hT, hG, hF, spAxs_q, ruS, hL', h0, h1, h2, h3, h4, h5, lkR, latR_q, latN_q, latU_q, hB, and_self]
def spRul : Spc
  | [.agg [.g i A n c, .g j B m e, .v (.int .i64 ka), .v (.int .i64 ra), .v (.int .i64 a0), .v (.int .i64 a1), .v (.int .i64 d), .v (.int .i64 kb), .v (.int .i64 rb), .v (.int .i64 b0), .v (.int .i64 b1), .v (.int .i64 f), .v (.int .i64 z)], .agg [.v (.int .i64 p0), .v (.int .i64 p1)], .v (.int .i64 dt), .v (.int .i64 er)], H, _ => .is (latR A n c B m e (H i) (H j) ∧ lkR m (latU (H j)) a0 a1 d b0 b1 f z) (.agg (ruS 0 0 p0 p1 dt er (axX (latU (H j)) a0 a1 b0 b1)))
  | _, _, _ => .bad
theorem spRul_q {i n c j m e : Nat} {A B : Option Addr} {ka ra a0 a1 d kb rb b0 b1 f z : Int} {p0 p1 dt er : Int} {H : Nat → Ch} {nx : Nat} : spRul [.agg [.g i A n c, .g j B m e, .v (.int .i64 ka), .v (.int .i64 ra), .v (.int .i64 a0), .v (.int .i64 a1), .v (.int .i64 d), .v (.int .i64 kb), .v (.int .i64 rb), .v (.int .i64 b0), .v (.int .i64 b1), .v (.int .i64 f), .v (.int .i64 z)], .agg [.v (.int .i64 p0), .v (.int .i64 p1)], .v (.int .i64 dt), .v (.int .i64 er)] H nx = .is (latR A n c B m e (H i) (H j) ∧ lkR m (latU (H j)) a0 a1 d b0 b1 f z) (.agg (ruS 0 0 p0 p1 dt er (axX (latU (H j)) a0 a1 b0 b1))) := (rfl)
theorem spRul_ok : SpecOk Tryz.prog 110 spRul := by
  intro args hp nx w0 O w H hv
  unfold spRul at hv ⊢
  split at hv
  · next i A n c j B m e ka ra a0 a1 d kb rb b0 b1 f z p0 p1 dt er =>
    obtain ⟨hl, hx⟩ := hv
    obtain ⟨x1, x2, x3, x4, x5⟩ := latR_of hl
    have h1 := H.hold i
    have h2 := H.hold j
    rw [x1] at h1
    rw [x2] at h2
    have := lrule_any (latN (lookH hp i)) (latU (lookH hp j)) A B c e ka ra a0 a1 d kb rb b0 b1 f p0 p1 dt er hx.1 (by rw [← x4]; exact hx.2.2.1) (by rw [← x4]; exact hx.2.2.2.1) (by rw [← x4]; exact hx.2.2.2.2.1) (by rw [← x4]; exact hx.2.2.2.2.2.1) (by rw [← x4]; exact hx.2.2.2.2.2.2.1) (by rw [← x4]; exact hx.2.2.2.2.2.2.2) w ⟨⟨h1, rfl⟩, ⟨h2, rfl⟩, trivial⟩
    rw [← hx.2.1, ← x3, ← x4] at this
    refine this.mono ?_
    rintro e w' ⟨rfl, hb⟩
    exact ⟨⟨0, none, 0, none, 0, mz⟩, rfl, .still hb⟩
  · exact hv.elim
end Pr
end Go.Proofs.YtnpkmimbnjnicaaGreatDoor
/-
The rules of primitives: the methods (chapter 21; printed by genRl.py).
-/
set_option linter.unusedSimpArgs false
set_option linter.unusedVariables false
namespace Go.Proofs.YtnpkmimbnjnicaaGreatDoor
namespace Pr
open Go Go.RowKit En
open Lt
structure MR where
  x0 : Int
  x1 : Int
  dt : Int
  er : Int
  co : Int
def mres (m : Nat) (us : List Int) (ra rb a0 a1 d b0 b1 f z : Int) : MR :=
  match m with
  | 0 => ⟨a0, a1, (jI us d f), (jI us d f), (axX us a0 a1 b0 b1)⟩
  | 1 => ⟨a0, a1, (jI us d f), z, (axX us a0 a1 b0 b1)⟩
  | 2 => ⟨z, z, (axX us a0 a1 b0 b1), z, (axX us a0 a1 b0 b1)⟩
  | 3 => ⟨(axX us a0 a1 b0 b1), 0, (jI us d f), z, (axX us a0 a1 b0 b1)⟩
  | 4 => ⟨a1, a0, (jI us d f), z, (axX us a0 a1 b0 b1)⟩
  | 5 => ⟨d, d, (jI us d f), d, (jI us (axX us a0 a1 b0 b1) d)⟩
  | 6 => ⟨a0, a1, (jI us d f), (axX us a0 a1 b0 b1), (axX us a0 a1 b0 b1)⟩
  | 7 => ⟨a0, a1, (axX us a0 a1 b0 b1), z, (axX us a0 a1 b0 b1)⟩
  | 8 => ⟨(jI us d (jI us b0 b1)), 0, (jI us d f), z, (axX us a0 a1 b0 b1)⟩
  | 9 => ⟨d, d, (jI us d f), (jI us d (jI us b0 b1)), (jI us (axX us a0 a1 b0 b1) d)⟩
  | 10 => ⟨(jI us a0 b0), (jI us a1 b1), (jI us d f), (axX us a0 a1 b0 b1), (axX us a0 a1 b0 b1)⟩
  | 11 => ⟨b0, b1, (jI us d f), (jI us (jI us a0 a1) f), (axX us a0 a1 b0 b1)⟩
  | 12 => ⟨(jI us d (jI us b0 b1)), 0, (jI us d f), (axX us a0 a1 b0 b1), (axX us a0 a1 b0 b1)⟩
  | 13 => ⟨bif decide (rb < ra) then a0 else bif decide (ra < rb) then b0 else jI us a0 b0, bif decide (rb < ra) then a1 else bif decide (ra < rb) then b1 else jI us a1 b1, jI us d f, bif decide (rb < ra) then z else bif decide (ra < rb) then z else bif decide (0 < ra) then axX us a0 a1 b0 b1 else z, axX us a0 a1 b0 b1⟩
  | _ => ⟨bif decide (rb < ra) then a0 else bif decide (ra < rb) then b0 else jI us a0 b0, bif decide (rb < ra) then a1 else bif decide (ra < rb) then b1 else jI us a1 b1, jI us d f, jI us d f, axX us a0 a1 b0 b1⟩
def spMth (q : Nat) : Spc
  | [.agg [.g i A n c, .g j B m e, .v (.int .i64 ka), .v (.int .i64 ra), .v (.int .i64 a0), .v (.int .i64 a1), .v (.int .i64 d), .v (.int .i64 kb), .v (.int .i64 rb), .v (.int .i64 b0), .v (.int .i64 b1), .v (.int .i64 f), .v (.int .i64 z)]], H, _ => .is (latR A n c B m e (H i) (H j) ∧ lkR m (latU (H j)) a0 a1 d b0 b1 f z) (.agg (ruS 0 0 (mres q (latU (H j)) ra rb a0 a1 d b0 b1 f z).x0 (mres q (latU (H j)) ra rb a0 a1 d b0 b1 f z).x1 (mres q (latU (H j)) ra rb a0 a1 d b0 b1 f z).dt (mres q (latU (H j)) ra rb a0 a1 d b0 b1 f z).er (mres q (latU (H j)) ra rb a0 a1 d b0 b1 f z).co))
  | _, _, _ => .bad
theorem spMth_q {q : Nat} {i n c j m e : Nat} {A B : Option Addr} {ka ra a0 a1 d kb rb b0 b1 f z : Int} {H : Nat → Ch} {nx : Nat} : spMth q [.agg [.g i A n c, .g j B m e, .v (.int .i64 ka), .v (.int .i64 ra), .v (.int .i64 a0), .v (.int .i64 a1), .v (.int .i64 d), .v (.int .i64 kb), .v (.int .i64 rb), .v (.int .i64 b0), .v (.int .i64 b1), .v (.int .i64 f), .v (.int .i64 z)]] H nx = .is (latR A n c B m e (H i) (H j) ∧ lkR m (latU (H j)) a0 a1 d b0 b1 f z) (.agg (ruS 0 0 (mres q (latU (H j)) ra rb a0 a1 d b0 b1 f z).x0 (mres q (latU (H j)) ra rb a0 a1 d b0 b1 f z).x1 (mres q (latU (H j)) ra rb a0 a1 d b0 b1 f z).dt (mres q (latU (H j)) ra rb a0 a1 d b0 b1 f z).er (mres q (latU (H j)) ra rb a0 a1 d b0 b1 f z).co)) := (rfl)
theorem mth_ok {fid : FuncId} {q : Nat} (h : ∀ (ns : List ByteArray) (us : List Int) (A B : Option Addr) (c e : Nat) (ka ra a0 a1 d kb rb b0 b1 f : Int) (hL' : Lt us) (h0 : labB us.length a0 = true) (h1 : labB us.length a1 = true) (h2 : labB us.length d = true) (h3 : labB us.length b0 = true) (h4 : labB us.length b1 = true) (h5 : labB us.length f = true) (w : World) (hg : allRd w.heap.size w [(1001, .strs A c ns), (1002, .ints B e .u8 us)]), Calls Tryz.prog fid (dens [.agg [.g 1001 A ns.length c, .g 1002 B us.length e, .v (.int .i64 ka), .v (.int .i64 ra), .v (.int .i64 a0), .v (.int .i64 a1), .v (.int .i64 d), .v (.int .i64 kb), .v (.int .i64 rb), .v (.int .i64 b0), .v (.int .i64 b1), .v (.int .i64 f), .v (.int .i64 (botI us))]]).toArray w fun e' w' => e' = .returned (den (.agg (ruS 0 0 (mres q us ra rb a0 a1 d b0 b1 f (botI us)).x0 (mres q us ra rb a0 a1 d b0 b1 f (botI us)).x1 (mres q us ra rb a0 a1 d b0 b1 f (botI us)).dt (mres q us ra rb a0 a1 d b0 b1 f (botI us)).er (mres q us ra rb a0 a1 d b0 b1 f (botI us)).co))) ∧ Below w.heap.size w w') : SpecOk Tryz.prog fid (spMth q) := by
  intro args hp nx w0 O w H hv
  unfold spMth at hv ⊢
  split at hv
  · next i A n c j B m e ka ra a0 a1 d kb rb b0 b1 f z =>
    obtain ⟨hl, hx⟩ := hv
    obtain ⟨x1, x2, x3, x4, x5⟩ := latR_of hl
    have h1 := H.hold i
    have h2 := H.hold j
    rw [x1] at h1
    rw [x2] at h2
    have := h (latN (lookH hp i)) (latU (lookH hp j)) A B c e ka ra a0 a1 d kb rb b0 b1 f  hx.1 (by rw [← x4]; exact hx.2.2.1) (by rw [← x4]; exact hx.2.2.2.1) (by rw [← x4]; exact hx.2.2.2.2.1) (by rw [← x4]; exact hx.2.2.2.2.2.1) (by rw [← x4]; exact hx.2.2.2.2.2.2.1) (by rw [← x4]; exact hx.2.2.2.2.2.2.2) w ⟨⟨h1, rfl⟩, ⟨h2, rfl⟩, trivial⟩
    rw [← hx.2.1, ← x3, ← x4] at this
    refine this.mono ?_
    rintro e w' ⟨rfl, hb⟩
    exact ⟨⟨0, none, 0, none, 0, mz⟩, rfl, .still hb⟩
  · exact hv.elim
def glMe : List (FuncId × Spc) := [(110, spRul), (111, spDat), (112, spAxs), (115, spBth), (113, spLJ), (114, spShp)]
theorem glMe_ok : GOk Tryz.prog (lookG glMe) := lG_cons (by kernel_rfl) spRul_ok <| lG_cons (by kernel_rfl) spDat_ok <| lG_cons (by kernel_rfl) spAxs_ok <| lG_cons (by kernel_rfl) spBth_ok <| lG_cons (by kernel_rfl) spLJ_ok <| lG_cons (by kernel_rfl) spShp_ok lG_nil
set_option maxRecDepth 100000 in
set_option maxHeartbeats 8000000 in
theorem lchecked_any (ns : List ByteArray) (us : List Int) (A B : Option Addr) (c e : Nat) (ka ra a0 a1 d kb rb b0 b1 f : Int) (hL' : Lt us) (h0 : labB us.length a0 = true) (h1 : labB us.length a1 = true) (h2 : labB us.length d = true) (h3 : labB us.length b0 = true) (h4 : labB us.length b1 = true) (h5 : labB us.length f = true) (w : World) (hg : allRd w.heap.size w [(1001, .strs A c ns), (1002, .ints B e .u8 us)]) :
    Calls Tryz.prog 64 (dens [.agg [.g 1001 A ns.length c, .g 1002 B us.length e, .v (.int .i64 ka), .v (.int .i64 ra), .v (.int .i64 a0), .v (.int .i64 a1), .v (.int .i64 d), .v (.int .i64 kb), .v (.int .i64 rb), .v (.int .i64 b0), .v (.int .i64 b1), .v (.int .i64 f), .v (.int .i64 (botI us))]]).toArray w fun e' w' => e' = .returned (den (.agg (ruS 0 0 (mres 0 us ra rb a0 a1 d b0 b1 f (botI us)).x0 (mres 0 us ra rb a0 a1 d b0 b1 f (botI us)).x1 (mres 0 us ra rb a0 a1 d b0 b1 f (botI us)).dt (mres 0 us ra rb a0 a1 d b0 b1 f (botI us)).er (mres 0 us ra rb a0 a1 d b0 b1 f (botI us)).co))) ∧ Below w.heap.size w w' := by
  have hB := hL'.by8
  obtain ⟨v, hv'⟩ : ∃ v, v = mres 0 us ra rb a0 a1 d b0 b1 f (botI us) := ⟨_, rfl⟩
  rw [← hv']
  refine calls_go (args := [.agg [.g 1001 A ns.length c, .g 1002 B us.length e, .v (.int .i64 ka), .v (.int .i64 ra), .v (.int .i64 a0), .v (.int .i64 a1), .v (.int .i64 d), .v (.int .i64 kb), .v (.int .i64 rb), .v (.int .i64 b0), .v (.int .i64 b1), .v (.int .i64 f), .v (.int .i64 (botI us))]]) (hp := [(1001, .strs A c ns), (1002, .ints B e .u8 us)]) (nx := 2000) (n := 900) (U := [(1000000, 60)]) (V := []) (tl := tlRu) (gl := glMe) (post := fun s' ys => ys = [.agg (ruS 0 0 v.x0 v.x1 v.dt v.er v.co)])
    followP tlRu_ok glMe_ok Tryz.func64 rfl (by kernel_rfl) (Nat.le_of_ble_eq_true (by kernel_rfl)) (by kernel_rfl) (by kernel_rfl) (hh_list hg) (free_list (by simp [allLt])) ?_ ?_
  · rintro s ys w' rfl H
    exact ⟨rfl, H.below⟩
  intro L F T G nd va hE
  obtain ⟨hL, hF, hs, hv, hT, hG, hR, hI, hJ, hW⟩ := hE
  rw [Tryz.results64] at hF
  simp (maxSteps := 1000000) only [En.nN, En.E, En.evsC, List.map_cons, List.map_nil, ne_eq, En.bitN, Nat.testBit, seval] at hv
  simp only [En.at_nil, En.at_cons, En.ag_nil, En.ag_cons, and_true, tlRu, glMe, tyInt, tyU8, tyBool, tyErr, tyStrs, tyBytes, tyInts, tyLat, tyI2, tyTy, tyTys, tyRule, tyTwo, tyLook, tyTab, tyRFn] at hT hG
  have j0 := labB_jI hL' h0 h1
  have j1 := labB_jI hL' h3 h4
  have j2 := labB_jI hL' j0 j1
  have j2 : labB us.length (axX us a0 a1 b0 b1) = true := j2
  simp only [mres] at hv'
  subst hv'
  simp (maxSteps := 10000000) only [En.E, En.evsC, List.map_cons, List.map_nil, ne_eq, En.bitN, Nat.testBit, seval, En.vV, hs, hv, hT, hG, hF, spRul_q, spDat_q, spAxs_q, spBth_q, spLJ_q, spShp_q, getN_gp, getN_nil, showC, intsOf, if_true, Option.bind_some, Option.map_some, List.length_cons, List.length_nil, ljR_q, ruS, j0, j1, j2, hL', h0, h1, h2, h3, h4, h5, lkR, latR_q, latN_q, latU_q, hB, and_self]
theorem spM_checked_ok : SpecOk Tryz.prog 64 (spMth 0) := mth_ok lchecked_any
set_option maxRecDepth 100000 in
set_option maxHeartbeats 8000000 in
theorem lsame_any (ns : List ByteArray) (us : List Int) (A B : Option Addr) (c e : Nat) (ka ra a0 a1 d kb rb b0 b1 f : Int) (hL' : Lt us) (h0 : labB us.length a0 = true) (h1 : labB us.length a1 = true) (h2 : labB us.length d = true) (h3 : labB us.length b0 = true) (h4 : labB us.length b1 = true) (h5 : labB us.length f = true) (w : World) (hg : allRd w.heap.size w [(1001, .strs A c ns), (1002, .ints B e .u8 us)]) :
    Calls Tryz.prog 65 (dens [.agg [.g 1001 A ns.length c, .g 1002 B us.length e, .v (.int .i64 ka), .v (.int .i64 ra), .v (.int .i64 a0), .v (.int .i64 a1), .v (.int .i64 d), .v (.int .i64 kb), .v (.int .i64 rb), .v (.int .i64 b0), .v (.int .i64 b1), .v (.int .i64 f), .v (.int .i64 (botI us))]]).toArray w fun e' w' => e' = .returned (den (.agg (ruS 0 0 (mres 1 us ra rb a0 a1 d b0 b1 f (botI us)).x0 (mres 1 us ra rb a0 a1 d b0 b1 f (botI us)).x1 (mres 1 us ra rb a0 a1 d b0 b1 f (botI us)).dt (mres 1 us ra rb a0 a1 d b0 b1 f (botI us)).er (mres 1 us ra rb a0 a1 d b0 b1 f (botI us)).co))) ∧ Below w.heap.size w w' := by
  have hB := hL'.by8
  obtain ⟨v, hv'⟩ : ∃ v, v = mres 1 us ra rb a0 a1 d b0 b1 f (botI us) := ⟨_, rfl⟩
  rw [← hv']
  refine calls_go (args := [.agg [.g 1001 A ns.length c, .g 1002 B us.length e, .v (.int .i64 ka), .v (.int .i64 ra), .v (.int .i64 a0), .v (.int .i64 a1), .v (.int .i64 d), .v (.int .i64 kb), .v (.int .i64 rb), .v (.int .i64 b0), .v (.int .i64 b1), .v (.int .i64 f), .v (.int .i64 (botI us))]]) (hp := [(1001, .strs A c ns), (1002, .ints B e .u8 us)]) (nx := 2000) (n := 900) (U := [(1000000, 60)]) (V := []) (tl := tlRu) (gl := glMe) (post := fun s' ys => ys = [.agg (ruS 0 0 v.x0 v.x1 v.dt v.er v.co)])
    followP tlRu_ok glMe_ok Tryz.func65 rfl (by kernel_rfl) (Nat.le_of_ble_eq_true (by kernel_rfl)) (by kernel_rfl) (by kernel_rfl) (hh_list hg) (free_list (by simp [allLt])) ?_ ?_
  · rintro s ys w' rfl H
    exact ⟨rfl, H.below⟩
  intro L F T G nd va hE
  obtain ⟨hL, hF, hs, hv, hT, hG, hR, hI, hJ, hW⟩ := hE
  rw [Tryz.results65] at hF
  simp (maxSteps := 1000000) only [En.nN, En.E, En.evsC, List.map_cons, List.map_nil, ne_eq, En.bitN, Nat.testBit, seval] at hv
  simp only [En.at_nil, En.at_cons, En.ag_nil, En.ag_cons, and_true, tlRu, glMe, tyInt, tyU8, tyBool, tyErr, tyStrs, tyBytes, tyInts, tyLat, tyI2, tyTy, tyTys, tyRule, tyTwo, tyLook, tyTab, tyRFn] at hT hG
  have j0 := labB_jI hL' h0 h1
  have j1 := labB_jI hL' h3 h4
  have j2 := labB_jI hL' j0 j1
  have j2 : labB us.length (axX us a0 a1 b0 b1) = true := j2
  simp only [mres] at hv'
  subst hv'
  simp (maxSteps := 10000000) only [En.E, En.evsC, List.map_cons, List.map_nil, ne_eq, En.bitN, Nat.testBit, seval, En.vV, hs, hv, hT, hG, hF, spRul_q, spDat_q, spAxs_q, spBth_q, spLJ_q, spShp_q, getN_gp, getN_nil, showC, intsOf, if_true, Option.bind_some, Option.map_some, List.length_cons, List.length_nil, ljR_q, ruS, j0, j1, j2, hL', h0, h1, h2, h3, h4, h5, lkR, latR_q, latN_q, latU_q, hB, and_self]
theorem spM_same_ok : SpecOk Tryz.prog 65 (spMth 1) := mth_ok lsame_any
set_option maxRecDepth 100000 in
set_option maxHeartbeats 8000000 in
theorem lshaped_any (ns : List ByteArray) (us : List Int) (A B : Option Addr) (c e : Nat) (ka ra a0 a1 d kb rb b0 b1 f : Int) (hL' : Lt us) (h0 : labB us.length a0 = true) (h1 : labB us.length a1 = true) (h2 : labB us.length d = true) (h3 : labB us.length b0 = true) (h4 : labB us.length b1 = true) (h5 : labB us.length f = true) (w : World) (hg : allRd w.heap.size w [(1001, .strs A c ns), (1002, .ints B e .u8 us)]) :
    Calls Tryz.prog 66 (dens [.agg [.g 1001 A ns.length c, .g 1002 B us.length e, .v (.int .i64 ka), .v (.int .i64 ra), .v (.int .i64 a0), .v (.int .i64 a1), .v (.int .i64 d), .v (.int .i64 kb), .v (.int .i64 rb), .v (.int .i64 b0), .v (.int .i64 b1), .v (.int .i64 f), .v (.int .i64 (botI us))]]).toArray w fun e' w' => e' = .returned (den (.agg (ruS 0 0 (mres 2 us ra rb a0 a1 d b0 b1 f (botI us)).x0 (mres 2 us ra rb a0 a1 d b0 b1 f (botI us)).x1 (mres 2 us ra rb a0 a1 d b0 b1 f (botI us)).dt (mres 2 us ra rb a0 a1 d b0 b1 f (botI us)).er (mres 2 us ra rb a0 a1 d b0 b1 f (botI us)).co))) ∧ Below w.heap.size w w' := by
  have hB := hL'.by8
  obtain ⟨v, hv'⟩ : ∃ v, v = mres 2 us ra rb a0 a1 d b0 b1 f (botI us) := ⟨_, rfl⟩
  rw [← hv']
  refine calls_go (args := [.agg [.g 1001 A ns.length c, .g 1002 B us.length e, .v (.int .i64 ka), .v (.int .i64 ra), .v (.int .i64 a0), .v (.int .i64 a1), .v (.int .i64 d), .v (.int .i64 kb), .v (.int .i64 rb), .v (.int .i64 b0), .v (.int .i64 b1), .v (.int .i64 f), .v (.int .i64 (botI us))]]) (hp := [(1001, .strs A c ns), (1002, .ints B e .u8 us)]) (nx := 2000) (n := 900) (U := [(1000000, 60)]) (V := []) (tl := tlRu) (gl := glMe) (post := fun s' ys => ys = [.agg (ruS 0 0 v.x0 v.x1 v.dt v.er v.co)])
    followP tlRu_ok glMe_ok Tryz.func66 rfl (by kernel_rfl) (Nat.le_of_ble_eq_true (by kernel_rfl)) (by kernel_rfl) (by kernel_rfl) (hh_list hg) (free_list (by simp [allLt])) ?_ ?_
  · rintro s ys w' rfl H
    exact ⟨rfl, H.below⟩
  intro L F T G nd va hE
  obtain ⟨hL, hF, hs, hv, hT, hG, hR, hI, hJ, hW⟩ := hE
  rw [Tryz.results66] at hF
  simp (maxSteps := 1000000) only [En.nN, En.E, En.evsC, List.map_cons, List.map_nil, ne_eq, En.bitN, Nat.testBit, seval] at hv
  simp only [En.at_nil, En.at_cons, En.ag_nil, En.ag_cons, and_true, tlRu, glMe, tyInt, tyU8, tyBool, tyErr, tyStrs, tyBytes, tyInts, tyLat, tyI2, tyTy, tyTys, tyRule, tyTwo, tyLook, tyTab, tyRFn] at hT hG
  have j0 := labB_jI hL' h0 h1
  have j1 := labB_jI hL' h3 h4
  have j2 := labB_jI hL' j0 j1
  have j2 : labB us.length (axX us a0 a1 b0 b1) = true := j2
  simp only [mres] at hv'
  subst hv'
  simp (maxSteps := 10000000) only [En.E, En.evsC, List.map_cons, List.map_nil, ne_eq, En.bitN, Nat.testBit, seval, En.vV, hs, hv, hT, hG, hF, spRul_q, spDat_q, spAxs_q, spBth_q, spLJ_q, spShp_q, getN_gp, getN_nil, showC, intsOf, if_true, Option.bind_some, Option.map_some, List.length_cons, List.length_nil, ljR_q, ruS, j0, j1, j2, hL', h0, h1, h2, h3, h4, h5, lkR, latR_q, latN_q, latU_q, hB, and_self]
theorem spM_shaped_ok : SpecOk Tryz.prog 66 (spMth 2) := mth_ok lshaped_any
set_option maxRecDepth 100000 in
set_option maxHeartbeats 8000000 in
theorem lravel_any (ns : List ByteArray) (us : List Int) (A B : Option Addr) (c e : Nat) (ka ra a0 a1 d kb rb b0 b1 f : Int) (hL' : Lt us) (h0 : labB us.length a0 = true) (h1 : labB us.length a1 = true) (h2 : labB us.length d = true) (h3 : labB us.length b0 = true) (h4 : labB us.length b1 = true) (h5 : labB us.length f = true) (w : World) (hg : allRd w.heap.size w [(1001, .strs A c ns), (1002, .ints B e .u8 us)]) :
    Calls Tryz.prog 67 (dens [.agg [.g 1001 A ns.length c, .g 1002 B us.length e, .v (.int .i64 ka), .v (.int .i64 ra), .v (.int .i64 a0), .v (.int .i64 a1), .v (.int .i64 d), .v (.int .i64 kb), .v (.int .i64 rb), .v (.int .i64 b0), .v (.int .i64 b1), .v (.int .i64 f), .v (.int .i64 (botI us))]]).toArray w fun e' w' => e' = .returned (den (.agg (ruS 0 0 (mres 3 us ra rb a0 a1 d b0 b1 f (botI us)).x0 (mres 3 us ra rb a0 a1 d b0 b1 f (botI us)).x1 (mres 3 us ra rb a0 a1 d b0 b1 f (botI us)).dt (mres 3 us ra rb a0 a1 d b0 b1 f (botI us)).er (mres 3 us ra rb a0 a1 d b0 b1 f (botI us)).co))) ∧ Below w.heap.size w w' := by
  have hB := hL'.by8
  obtain ⟨v, hv'⟩ : ∃ v, v = mres 3 us ra rb a0 a1 d b0 b1 f (botI us) := ⟨_, rfl⟩
  rw [← hv']
  refine calls_go (args := [.agg [.g 1001 A ns.length c, .g 1002 B us.length e, .v (.int .i64 ka), .v (.int .i64 ra), .v (.int .i64 a0), .v (.int .i64 a1), .v (.int .i64 d), .v (.int .i64 kb), .v (.int .i64 rb), .v (.int .i64 b0), .v (.int .i64 b1), .v (.int .i64 f), .v (.int .i64 (botI us))]]) (hp := [(1001, .strs A c ns), (1002, .ints B e .u8 us)]) (nx := 2000) (n := 900) (U := [(1000000, 60)]) (V := []) (tl := tlRu) (gl := glMe) (post := fun s' ys => ys = [.agg (ruS 0 0 v.x0 v.x1 v.dt v.er v.co)])
    followP tlRu_ok glMe_ok Tryz.func67 rfl (by kernel_rfl) (Nat.le_of_ble_eq_true (by kernel_rfl)) (by kernel_rfl) (by kernel_rfl) (hh_list hg) (free_list (by simp [allLt])) ?_ ?_
  · rintro s ys w' rfl H
    exact ⟨rfl, H.below⟩
  intro L F T G nd va hE
  obtain ⟨hL, hF, hs, hv, hT, hG, hR, hI, hJ, hW⟩ := hE
  rw [Tryz.results67] at hF
  simp (maxSteps := 1000000) only [En.nN, En.E, En.evsC, List.map_cons, List.map_nil, ne_eq, En.bitN, Nat.testBit, seval] at hv
  simp only [En.at_nil, En.at_cons, En.ag_nil, En.ag_cons, and_true, tlRu, glMe, tyInt, tyU8, tyBool, tyErr, tyStrs, tyBytes, tyInts, tyLat, tyI2, tyTy, tyTys, tyRule, tyTwo, tyLook, tyTab, tyRFn] at hT hG
  have j0 := labB_jI hL' h0 h1
  have j1 := labB_jI hL' h3 h4
  have j2 := labB_jI hL' j0 j1
  have j2 : labB us.length (axX us a0 a1 b0 b1) = true := j2
  simp only [mres] at hv'
  subst hv'
  simp (maxSteps := 10000000) only [En.E, En.evsC, List.map_cons, List.map_nil, ne_eq, En.bitN, Nat.testBit, seval, En.vV, hs, hv, hT, hG, hF, spRul_q, spDat_q, spAxs_q, spBth_q, spLJ_q, spShp_q, getN_gp, getN_nil, showC, intsOf, if_true, Option.bind_some, Option.map_some, List.length_cons, List.length_nil, ljR_q, ruS, j0, j1, j2, hL', h0, h1, h2, h3, h4, h5, lkR, latR_q, latN_q, latU_q, hB, and_self]
theorem spM_ravel_ok : SpecOk Tryz.prog 67 (spMth 3) := mth_ok lravel_any
set_option maxRecDepth 100000 in
set_option maxHeartbeats 8000000 in
theorem lflip_any (ns : List ByteArray) (us : List Int) (A B : Option Addr) (c e : Nat) (ka ra a0 a1 d kb rb b0 b1 f : Int) (hL' : Lt us) (h0 : labB us.length a0 = true) (h1 : labB us.length a1 = true) (h2 : labB us.length d = true) (h3 : labB us.length b0 = true) (h4 : labB us.length b1 = true) (h5 : labB us.length f = true) (w : World) (hg : allRd w.heap.size w [(1001, .strs A c ns), (1002, .ints B e .u8 us)]) :
    Calls Tryz.prog 68 (dens [.agg [.g 1001 A ns.length c, .g 1002 B us.length e, .v (.int .i64 ka), .v (.int .i64 ra), .v (.int .i64 a0), .v (.int .i64 a1), .v (.int .i64 d), .v (.int .i64 kb), .v (.int .i64 rb), .v (.int .i64 b0), .v (.int .i64 b1), .v (.int .i64 f), .v (.int .i64 (botI us))]]).toArray w fun e' w' => e' = .returned (den (.agg (ruS 0 0 (mres 4 us ra rb a0 a1 d b0 b1 f (botI us)).x0 (mres 4 us ra rb a0 a1 d b0 b1 f (botI us)).x1 (mres 4 us ra rb a0 a1 d b0 b1 f (botI us)).dt (mres 4 us ra rb a0 a1 d b0 b1 f (botI us)).er (mres 4 us ra rb a0 a1 d b0 b1 f (botI us)).co))) ∧ Below w.heap.size w w' := by
  have hB := hL'.by8
  obtain ⟨v, hv'⟩ : ∃ v, v = mres 4 us ra rb a0 a1 d b0 b1 f (botI us) := ⟨_, rfl⟩
  rw [← hv']
  refine calls_go (args := [.agg [.g 1001 A ns.length c, .g 1002 B us.length e, .v (.int .i64 ka), .v (.int .i64 ra), .v (.int .i64 a0), .v (.int .i64 a1), .v (.int .i64 d), .v (.int .i64 kb), .v (.int .i64 rb), .v (.int .i64 b0), .v (.int .i64 b1), .v (.int .i64 f), .v (.int .i64 (botI us))]]) (hp := [(1001, .strs A c ns), (1002, .ints B e .u8 us)]) (nx := 2000) (n := 900) (U := [(1000000, 60)]) (V := []) (tl := tlRu) (gl := glMe) (post := fun s' ys => ys = [.agg (ruS 0 0 v.x0 v.x1 v.dt v.er v.co)])
    followP tlRu_ok glMe_ok Tryz.func68 rfl (by kernel_rfl) (Nat.le_of_ble_eq_true (by kernel_rfl)) (by kernel_rfl) (by kernel_rfl) (hh_list hg) (free_list (by simp [allLt])) ?_ ?_
  · rintro s ys w' rfl H
    exact ⟨rfl, H.below⟩
  intro L F T G nd va hE
  obtain ⟨hL, hF, hs, hv, hT, hG, hR, hI, hJ, hW⟩ := hE
  rw [Tryz.results68] at hF
  simp (maxSteps := 1000000) only [En.nN, En.E, En.evsC, List.map_cons, List.map_nil, ne_eq, En.bitN, Nat.testBit, seval] at hv
  simp only [En.at_nil, En.at_cons, En.ag_nil, En.ag_cons, and_true, tlRu, glMe, tyInt, tyU8, tyBool, tyErr, tyStrs, tyBytes, tyInts, tyLat, tyI2, tyTy, tyTys, tyRule, tyTwo, tyLook, tyTab, tyRFn] at hT hG
  have j0 := labB_jI hL' h0 h1
  have j1 := labB_jI hL' h3 h4
  have j2 := labB_jI hL' j0 j1
  have j2 : labB us.length (axX us a0 a1 b0 b1) = true := j2
  simp only [mres] at hv'
  subst hv'
  simp (maxSteps := 10000000) only [En.E, En.evsC, List.map_cons, List.map_nil, ne_eq, En.bitN, Nat.testBit, seval, En.vV, hs, hv, hT, hG, hF, spRul_q, spDat_q, spAxs_q, spBth_q, spLJ_q, spShp_q, getN_gp, getN_nil, showC, intsOf, if_true, Option.bind_some, Option.map_some, List.length_cons, List.length_nil, ljR_q, ruS, j0, j1, j2, hL', h0, h1, h2, h3, h4, h5, lkR, latR_q, latN_q, latU_q, hB, and_self]
theorem spM_flip_ok : SpecOk Tryz.prog 68 (spMth 4) := mth_ok lflip_any
set_option maxRecDepth 100000 in
set_option maxHeartbeats 8000000 in
theorem lmade_any (ns : List ByteArray) (us : List Int) (A B : Option Addr) (c e : Nat) (ka ra a0 a1 d kb rb b0 b1 f : Int) (hL' : Lt us) (h0 : labB us.length a0 = true) (h1 : labB us.length a1 = true) (h2 : labB us.length d = true) (h3 : labB us.length b0 = true) (h4 : labB us.length b1 = true) (h5 : labB us.length f = true) (w : World) (hg : allRd w.heap.size w [(1001, .strs A c ns), (1002, .ints B e .u8 us)]) :
    Calls Tryz.prog 69 (dens [.agg [.g 1001 A ns.length c, .g 1002 B us.length e, .v (.int .i64 ka), .v (.int .i64 ra), .v (.int .i64 a0), .v (.int .i64 a1), .v (.int .i64 d), .v (.int .i64 kb), .v (.int .i64 rb), .v (.int .i64 b0), .v (.int .i64 b1), .v (.int .i64 f), .v (.int .i64 (botI us))]]).toArray w fun e' w' => e' = .returned (den (.agg (ruS 0 0 (mres 5 us ra rb a0 a1 d b0 b1 f (botI us)).x0 (mres 5 us ra rb a0 a1 d b0 b1 f (botI us)).x1 (mres 5 us ra rb a0 a1 d b0 b1 f (botI us)).dt (mres 5 us ra rb a0 a1 d b0 b1 f (botI us)).er (mres 5 us ra rb a0 a1 d b0 b1 f (botI us)).co))) ∧ Below w.heap.size w w' := by
  have hB := hL'.by8
  obtain ⟨v, hv'⟩ : ∃ v, v = mres 5 us ra rb a0 a1 d b0 b1 f (botI us) := ⟨_, rfl⟩
  rw [← hv']
  refine calls_go (args := [.agg [.g 1001 A ns.length c, .g 1002 B us.length e, .v (.int .i64 ka), .v (.int .i64 ra), .v (.int .i64 a0), .v (.int .i64 a1), .v (.int .i64 d), .v (.int .i64 kb), .v (.int .i64 rb), .v (.int .i64 b0), .v (.int .i64 b1), .v (.int .i64 f), .v (.int .i64 (botI us))]]) (hp := [(1001, .strs A c ns), (1002, .ints B e .u8 us)]) (nx := 2000) (n := 900) (U := [(1000000, 60)]) (V := []) (tl := tlRu) (gl := glMe) (post := fun s' ys => ys = [.agg (ruS 0 0 v.x0 v.x1 v.dt v.er v.co)])
    followP tlRu_ok glMe_ok Tryz.func69 rfl (by kernel_rfl) (Nat.le_of_ble_eq_true (by kernel_rfl)) (by kernel_rfl) (by kernel_rfl) (hh_list hg) (free_list (by simp [allLt])) ?_ ?_
  · rintro s ys w' rfl H
    exact ⟨rfl, H.below⟩
  intro L F T G nd va hE
  obtain ⟨hL, hF, hs, hv, hT, hG, hR, hI, hJ, hW⟩ := hE
  rw [Tryz.results69] at hF
  simp (maxSteps := 1000000) only [En.nN, En.E, En.evsC, List.map_cons, List.map_nil, ne_eq, En.bitN, Nat.testBit, seval] at hv
  simp only [En.at_nil, En.at_cons, En.ag_nil, En.ag_cons, and_true, tlRu, glMe, tyInt, tyU8, tyBool, tyErr, tyStrs, tyBytes, tyInts, tyLat, tyI2, tyTy, tyTys, tyRule, tyTwo, tyLook, tyTab, tyRFn] at hT hG
  have j0 := labB_jI hL' h0 h1
  have j1 := labB_jI hL' h3 h4
  have j2 := labB_jI hL' j0 j1
  have j2 : labB us.length (axX us a0 a1 b0 b1) = true := j2
  simp only [mres] at hv'
  subst hv'
  simp (maxSteps := 10000000) only [En.E, En.evsC, List.map_cons, List.map_nil, ne_eq, En.bitN, Nat.testBit, seval, En.vV, hs, hv, hT, hG, hF, spRul_q, spDat_q, spAxs_q, spBth_q, spLJ_q, spShp_q, getN_gp, getN_nil, showC, intsOf, if_true, Option.bind_some, Option.map_some, List.length_cons, List.length_nil, ljR_q, ruS, j0, j1, j2, hL', h0, h1, h2, h3, h4, h5, lkR, latR_q, latN_q, latU_q, hB, and_self]
theorem spM_made_ok : SpecOk Tryz.prog 69 (spMth 5) := mth_ok lmade_any
set_option maxRecDepth 100000 in
set_option maxHeartbeats 8000000 in
theorem lends_any (ns : List ByteArray) (us : List Int) (A B : Option Addr) (c e : Nat) (ka ra a0 a1 d kb rb b0 b1 f : Int) (hL' : Lt us) (h0 : labB us.length a0 = true) (h1 : labB us.length a1 = true) (h2 : labB us.length d = true) (h3 : labB us.length b0 = true) (h4 : labB us.length b1 = true) (h5 : labB us.length f = true) (w : World) (hg : allRd w.heap.size w [(1001, .strs A c ns), (1002, .ints B e .u8 us)]) :
    Calls Tryz.prog 70 (dens [.agg [.g 1001 A ns.length c, .g 1002 B us.length e, .v (.int .i64 ka), .v (.int .i64 ra), .v (.int .i64 a0), .v (.int .i64 a1), .v (.int .i64 d), .v (.int .i64 kb), .v (.int .i64 rb), .v (.int .i64 b0), .v (.int .i64 b1), .v (.int .i64 f), .v (.int .i64 (botI us))]]).toArray w fun e' w' => e' = .returned (den (.agg (ruS 0 0 (mres 6 us ra rb a0 a1 d b0 b1 f (botI us)).x0 (mres 6 us ra rb a0 a1 d b0 b1 f (botI us)).x1 (mres 6 us ra rb a0 a1 d b0 b1 f (botI us)).dt (mres 6 us ra rb a0 a1 d b0 b1 f (botI us)).er (mres 6 us ra rb a0 a1 d b0 b1 f (botI us)).co))) ∧ Below w.heap.size w w' := by
  have hB := hL'.by8
  obtain ⟨v, hv'⟩ : ∃ v, v = mres 6 us ra rb a0 a1 d b0 b1 f (botI us) := ⟨_, rfl⟩
  rw [← hv']
  refine calls_go (args := [.agg [.g 1001 A ns.length c, .g 1002 B us.length e, .v (.int .i64 ka), .v (.int .i64 ra), .v (.int .i64 a0), .v (.int .i64 a1), .v (.int .i64 d), .v (.int .i64 kb), .v (.int .i64 rb), .v (.int .i64 b0), .v (.int .i64 b1), .v (.int .i64 f), .v (.int .i64 (botI us))]]) (hp := [(1001, .strs A c ns), (1002, .ints B e .u8 us)]) (nx := 2000) (n := 900) (U := [(1000000, 60)]) (V := []) (tl := tlRu) (gl := glMe) (post := fun s' ys => ys = [.agg (ruS 0 0 v.x0 v.x1 v.dt v.er v.co)])
    followP tlRu_ok glMe_ok Tryz.func70 rfl (by kernel_rfl) (Nat.le_of_ble_eq_true (by kernel_rfl)) (by kernel_rfl) (by kernel_rfl) (hh_list hg) (free_list (by simp [allLt])) ?_ ?_
  · rintro s ys w' rfl H
    exact ⟨rfl, H.below⟩
  intro L F T G nd va hE
  obtain ⟨hL, hF, hs, hv, hT, hG, hR, hI, hJ, hW⟩ := hE
  rw [Tryz.results70] at hF
  simp (maxSteps := 1000000) only [En.nN, En.E, En.evsC, List.map_cons, List.map_nil, ne_eq, En.bitN, Nat.testBit, seval] at hv
  simp only [En.at_nil, En.at_cons, En.ag_nil, En.ag_cons, and_true, tlRu, glMe, tyInt, tyU8, tyBool, tyErr, tyStrs, tyBytes, tyInts, tyLat, tyI2, tyTy, tyTys, tyRule, tyTwo, tyLook, tyTab, tyRFn] at hT hG
  have j0 := labB_jI hL' h0 h1
  have j1 := labB_jI hL' h3 h4
  have j2 := labB_jI hL' j0 j1
  have j2 : labB us.length (axX us a0 a1 b0 b1) = true := j2
  simp only [mres] at hv'
  subst hv'
  simp (maxSteps := 10000000) only [En.E, En.evsC, List.map_cons, List.map_nil, ne_eq, En.bitN, Nat.testBit, seval, En.vV, hs, hv, hT, hG, hF, spRul_q, spDat_q, spAxs_q, spBth_q, spLJ_q, spShp_q, getN_gp, getN_nil, showC, intsOf, if_true, Option.bind_some, Option.map_some, List.length_cons, List.length_nil, ljR_q, ruS, j0, j1, j2, hL', h0, h1, h2, h3, h4, h5, lkR, latR_q, latN_q, latU_q, hB, and_self]
theorem spM_ends_ok : SpecOk Tryz.prog 70 (spMth 6) := mth_ok lends_any
set_option maxRecDepth 100000 in
set_option maxHeartbeats 8000000 in
theorem lcount_any (ns : List ByteArray) (us : List Int) (A B : Option Addr) (c e : Nat) (ka ra a0 a1 d kb rb b0 b1 f : Int) (hL' : Lt us) (h0 : labB us.length a0 = true) (h1 : labB us.length a1 = true) (h2 : labB us.length d = true) (h3 : labB us.length b0 = true) (h4 : labB us.length b1 = true) (h5 : labB us.length f = true) (w : World) (hg : allRd w.heap.size w [(1001, .strs A c ns), (1002, .ints B e .u8 us)]) :
    Calls Tryz.prog 71 (dens [.agg [.g 1001 A ns.length c, .g 1002 B us.length e, .v (.int .i64 ka), .v (.int .i64 ra), .v (.int .i64 a0), .v (.int .i64 a1), .v (.int .i64 d), .v (.int .i64 kb), .v (.int .i64 rb), .v (.int .i64 b0), .v (.int .i64 b1), .v (.int .i64 f), .v (.int .i64 (botI us))]]).toArray w fun e' w' => e' = .returned (den (.agg (ruS 0 0 (mres 7 us ra rb a0 a1 d b0 b1 f (botI us)).x0 (mres 7 us ra rb a0 a1 d b0 b1 f (botI us)).x1 (mres 7 us ra rb a0 a1 d b0 b1 f (botI us)).dt (mres 7 us ra rb a0 a1 d b0 b1 f (botI us)).er (mres 7 us ra rb a0 a1 d b0 b1 f (botI us)).co))) ∧ Below w.heap.size w w' := by
  have hB := hL'.by8
  obtain ⟨v, hv'⟩ : ∃ v, v = mres 7 us ra rb a0 a1 d b0 b1 f (botI us) := ⟨_, rfl⟩
  rw [← hv']
  refine calls_go (args := [.agg [.g 1001 A ns.length c, .g 1002 B us.length e, .v (.int .i64 ka), .v (.int .i64 ra), .v (.int .i64 a0), .v (.int .i64 a1), .v (.int .i64 d), .v (.int .i64 kb), .v (.int .i64 rb), .v (.int .i64 b0), .v (.int .i64 b1), .v (.int .i64 f), .v (.int .i64 (botI us))]]) (hp := [(1001, .strs A c ns), (1002, .ints B e .u8 us)]) (nx := 2000) (n := 900) (U := [(1000000, 60)]) (V := []) (tl := tlRu) (gl := glMe) (post := fun s' ys => ys = [.agg (ruS 0 0 v.x0 v.x1 v.dt v.er v.co)])
    followP tlRu_ok glMe_ok Tryz.func71 rfl (by kernel_rfl) (Nat.le_of_ble_eq_true (by kernel_rfl)) (by kernel_rfl) (by kernel_rfl) (hh_list hg) (free_list (by simp [allLt])) ?_ ?_
  · rintro s ys w' rfl H
    exact ⟨rfl, H.below⟩
  intro L F T G nd va hE
  obtain ⟨hL, hF, hs, hv, hT, hG, hR, hI, hJ, hW⟩ := hE
  rw [Tryz.results71] at hF
  simp (maxSteps := 1000000) only [En.nN, En.E, En.evsC, List.map_cons, List.map_nil, ne_eq, En.bitN, Nat.testBit, seval] at hv
  simp only [En.at_nil, En.at_cons, En.ag_nil, En.ag_cons, and_true, tlRu, glMe, tyInt, tyU8, tyBool, tyErr, tyStrs, tyBytes, tyInts, tyLat, tyI2, tyTy, tyTys, tyRule, tyTwo, tyLook, tyTab, tyRFn] at hT hG
  have j0 := labB_jI hL' h0 h1
  have j1 := labB_jI hL' h3 h4
  have j2 := labB_jI hL' j0 j1
  have j2 : labB us.length (axX us a0 a1 b0 b1) = true := j2
  simp only [mres] at hv'
  subst hv'
  simp (maxSteps := 10000000) only [En.E, En.evsC, List.map_cons, List.map_nil, ne_eq, En.bitN, Nat.testBit, seval, En.vV, hs, hv, hT, hG, hF, spRul_q, spDat_q, spAxs_q, spBth_q, spLJ_q, spShp_q, getN_gp, getN_nil, showC, intsOf, if_true, Option.bind_some, Option.map_some, List.length_cons, List.length_nil, ljR_q, ruS, j0, j1, j2, hL', h0, h1, h2, h3, h4, h5, lkR, latR_q, latN_q, latU_q, hB, and_self]
theorem spM_count_ok : SpecOk Tryz.prog 71 (spMth 7) := mth_ok lcount_any
set_option maxRecDepth 100000 in
set_option maxHeartbeats 8000000 in
theorem lcut_any (ns : List ByteArray) (us : List Int) (A B : Option Addr) (c e : Nat) (ka ra a0 a1 d kb rb b0 b1 f : Int) (hL' : Lt us) (h0 : labB us.length a0 = true) (h1 : labB us.length a1 = true) (h2 : labB us.length d = true) (h3 : labB us.length b0 = true) (h4 : labB us.length b1 = true) (h5 : labB us.length f = true) (w : World) (hg : allRd w.heap.size w [(1001, .strs A c ns), (1002, .ints B e .u8 us)]) :
    Calls Tryz.prog 72 (dens [.agg [.g 1001 A ns.length c, .g 1002 B us.length e, .v (.int .i64 ka), .v (.int .i64 ra), .v (.int .i64 a0), .v (.int .i64 a1), .v (.int .i64 d), .v (.int .i64 kb), .v (.int .i64 rb), .v (.int .i64 b0), .v (.int .i64 b1), .v (.int .i64 f), .v (.int .i64 (botI us))]]).toArray w fun e' w' => e' = .returned (den (.agg (ruS 0 0 (mres 8 us ra rb a0 a1 d b0 b1 f (botI us)).x0 (mres 8 us ra rb a0 a1 d b0 b1 f (botI us)).x1 (mres 8 us ra rb a0 a1 d b0 b1 f (botI us)).dt (mres 8 us ra rb a0 a1 d b0 b1 f (botI us)).er (mres 8 us ra rb a0 a1 d b0 b1 f (botI us)).co))) ∧ Below w.heap.size w w' := by
  have hB := hL'.by8
  obtain ⟨v, hv'⟩ : ∃ v, v = mres 8 us ra rb a0 a1 d b0 b1 f (botI us) := ⟨_, rfl⟩
  rw [← hv']
  refine calls_go (args := [.agg [.g 1001 A ns.length c, .g 1002 B us.length e, .v (.int .i64 ka), .v (.int .i64 ra), .v (.int .i64 a0), .v (.int .i64 a1), .v (.int .i64 d), .v (.int .i64 kb), .v (.int .i64 rb), .v (.int .i64 b0), .v (.int .i64 b1), .v (.int .i64 f), .v (.int .i64 (botI us))]]) (hp := [(1001, .strs A c ns), (1002, .ints B e .u8 us)]) (nx := 2000) (n := 900) (U := [(1000000, 60)]) (V := []) (tl := tlRu) (gl := glMe) (post := fun s' ys => ys = [.agg (ruS 0 0 v.x0 v.x1 v.dt v.er v.co)])
    followP tlRu_ok glMe_ok Tryz.func72 rfl (by kernel_rfl) (Nat.le_of_ble_eq_true (by kernel_rfl)) (by kernel_rfl) (by kernel_rfl) (hh_list hg) (free_list (by simp [allLt])) ?_ ?_
  · rintro s ys w' rfl H
    exact ⟨rfl, H.below⟩
  intro L F T G nd va hE
  obtain ⟨hL, hF, hs, hv, hT, hG, hR, hI, hJ, hW⟩ := hE
  rw [Tryz.results72] at hF
  simp (maxSteps := 1000000) only [En.nN, En.E, En.evsC, List.map_cons, List.map_nil, ne_eq, En.bitN, Nat.testBit, seval] at hv
  simp only [En.at_nil, En.at_cons, En.ag_nil, En.ag_cons, and_true, tlRu, glMe, tyInt, tyU8, tyBool, tyErr, tyStrs, tyBytes, tyInts, tyLat, tyI2, tyTy, tyTys, tyRule, tyTwo, tyLook, tyTab, tyRFn] at hT hG
  have j0 := labB_jI hL' h0 h1
  have j1 := labB_jI hL' h3 h4
  have j2 := labB_jI hL' j0 j1
  have j2 : labB us.length (axX us a0 a1 b0 b1) = true := j2
  simp only [mres] at hv'
  subst hv'
  simp (maxSteps := 10000000) only [En.E, En.evsC, List.map_cons, List.map_nil, ne_eq, En.bitN, Nat.testBit, seval, En.vV, hs, hv, hT, hG, hF, spRul_q, spDat_q, spAxs_q, spBth_q, spLJ_q, spShp_q, getN_gp, getN_nil, showC, intsOf, if_true, Option.bind_some, Option.map_some, List.length_cons, List.length_nil, ljR_q, ruS, j0, j1, j2, hL', h0, h1, h2, h3, h4, h5, lkR, latR_q, latN_q, latU_q, hB, and_self]
theorem spM_cut_ok : SpecOk Tryz.prog 72 (spMth 8) := mth_ok lcut_any
def glGr : List (FuncId × Spc) := (69, spMth 5) :: glMe
theorem glGr_ok : GOk Tryz.prog (lookG glGr) := lG_cons (by kernel_rfl) spM_made_ok glMe_ok
set_option maxRecDepth 100000 in
set_option maxHeartbeats 8000000 in
theorem lgrid_any (ns : List ByteArray) (us : List Int) (A B : Option Addr) (c e : Nat) (ka ra a0 a1 d kb rb b0 b1 f : Int) (hL' : Lt us) (h0 : labB us.length a0 = true) (h1 : labB us.length a1 = true) (h2 : labB us.length d = true) (h3 : labB us.length b0 = true) (h4 : labB us.length b1 = true) (h5 : labB us.length f = true) (w : World) (hg : allRd w.heap.size w [(1001, .strs A c ns), (1002, .ints B e .u8 us)]) :
    Calls Tryz.prog 73 (dens [.agg [.g 1001 A ns.length c, .g 1002 B us.length e, .v (.int .i64 ka), .v (.int .i64 ra), .v (.int .i64 a0), .v (.int .i64 a1), .v (.int .i64 d), .v (.int .i64 kb), .v (.int .i64 rb), .v (.int .i64 b0), .v (.int .i64 b1), .v (.int .i64 f), .v (.int .i64 (botI us))]]).toArray w fun e' w' => e' = .returned (den (.agg (ruS 0 0 (mres 9 us ra rb a0 a1 d b0 b1 f (botI us)).x0 (mres 9 us ra rb a0 a1 d b0 b1 f (botI us)).x1 (mres 9 us ra rb a0 a1 d b0 b1 f (botI us)).dt (mres 9 us ra rb a0 a1 d b0 b1 f (botI us)).er (mres 9 us ra rb a0 a1 d b0 b1 f (botI us)).co))) ∧ Below w.heap.size w w' := by
  have hB := hL'.by8
  obtain ⟨v, hv'⟩ : ∃ v, v = mres 9 us ra rb a0 a1 d b0 b1 f (botI us) := ⟨_, rfl⟩
  rw [← hv']
  refine calls_go (args := [.agg [.g 1001 A ns.length c, .g 1002 B us.length e, .v (.int .i64 ka), .v (.int .i64 ra), .v (.int .i64 a0), .v (.int .i64 a1), .v (.int .i64 d), .v (.int .i64 kb), .v (.int .i64 rb), .v (.int .i64 b0), .v (.int .i64 b1), .v (.int .i64 f), .v (.int .i64 (botI us))]]) (hp := [(1001, .strs A c ns), (1002, .ints B e .u8 us)]) (nx := 2000) (n := 900) (U := [(1000000, 60)]) (V := []) (tl := tlRu) (gl := glGr) (post := fun s' ys => ys = [.agg (ruS 0 0 v.x0 v.x1 v.dt v.er v.co)])
    followP tlRu_ok glGr_ok Tryz.func73 rfl (by kernel_rfl) (Nat.le_of_ble_eq_true (by kernel_rfl)) (by kernel_rfl) (by kernel_rfl) (hh_list hg) (free_list (by simp [allLt])) ?_ ?_
  · rintro s ys w' rfl H
    exact ⟨rfl, H.below⟩
  intro L F T G nd va hE
  obtain ⟨hL, hF, hs, hv, hT, hG, hR, hI, hJ, hW⟩ := hE
  rw [Tryz.results73] at hF
  simp (maxSteps := 1000000) only [En.nN, En.E, En.evsC, List.map_cons, List.map_nil, ne_eq, En.bitN, Nat.testBit, seval] at hv
  simp only [En.at_nil, En.at_cons, En.ag_nil, En.ag_cons, and_true, tlRu, glGr, glMe, tyInt, tyU8, tyBool, tyErr, tyStrs, tyBytes, tyInts, tyLat, tyI2, tyTy, tyTys, tyRule, tyTwo, tyLook, tyTab, tyRFn] at hT hG
  have j0 := labB_jI hL' h0 h1
  have j1 := labB_jI hL' h3 h4
  have j2 := labB_jI hL' j0 j1
  have j2 : labB us.length (axX us a0 a1 b0 b1) = true := j2
  simp only [mres] at hv'
  subst hv'
  simp (maxSteps := 10000000) only [En.E, En.evsC, List.map_cons, List.map_nil, ne_eq, En.bitN, Nat.testBit, seval, En.vV, hs, hv, hT, hG, hF, spRul_q, spDat_q, spAxs_q, spBth_q, spLJ_q, spShp_q, getN_gp, getN_nil, showC, intsOf, if_true, Option.bind_some, Option.map_some, List.length_cons, List.length_nil, ljR_q, spMth_q, mres, ruS, j0, j1, j2, hL', h0, h1, h2, h3, h4, h5, lkR, latR_q, latN_q, latU_q, hB, and_self]
theorem spM_grid_ok : SpecOk Tryz.prog 73 (spMth 9) := mth_ok lgrid_any
set_option maxRecDepth 100000 in
set_option maxHeartbeats 8000000 in
theorem lcat_any (ns : List ByteArray) (us : List Int) (A B : Option Addr) (c e : Nat) (ka ra a0 a1 d kb rb b0 b1 f : Int) (hL' : Lt us) (h0 : labB us.length a0 = true) (h1 : labB us.length a1 = true) (h2 : labB us.length d = true) (h3 : labB us.length b0 = true) (h4 : labB us.length b1 = true) (h5 : labB us.length f = true) (w : World) (hg : allRd w.heap.size w [(1001, .strs A c ns), (1002, .ints B e .u8 us)]) :
    Calls Tryz.prog 74 (dens [.agg [.g 1001 A ns.length c, .g 1002 B us.length e, .v (.int .i64 ka), .v (.int .i64 ra), .v (.int .i64 a0), .v (.int .i64 a1), .v (.int .i64 d), .v (.int .i64 kb), .v (.int .i64 rb), .v (.int .i64 b0), .v (.int .i64 b1), .v (.int .i64 f), .v (.int .i64 (botI us))]]).toArray w fun e' w' => e' = .returned (den (.agg (ruS 0 0 (mres 10 us ra rb a0 a1 d b0 b1 f (botI us)).x0 (mres 10 us ra rb a0 a1 d b0 b1 f (botI us)).x1 (mres 10 us ra rb a0 a1 d b0 b1 f (botI us)).dt (mres 10 us ra rb a0 a1 d b0 b1 f (botI us)).er (mres 10 us ra rb a0 a1 d b0 b1 f (botI us)).co))) ∧ Below w.heap.size w w' := by
  have hB := hL'.by8
  obtain ⟨v, hv'⟩ : ∃ v, v = mres 10 us ra rb a0 a1 d b0 b1 f (botI us) := ⟨_, rfl⟩
  rw [← hv']
  refine calls_go (args := [.agg [.g 1001 A ns.length c, .g 1002 B us.length e, .v (.int .i64 ka), .v (.int .i64 ra), .v (.int .i64 a0), .v (.int .i64 a1), .v (.int .i64 d), .v (.int .i64 kb), .v (.int .i64 rb), .v (.int .i64 b0), .v (.int .i64 b1), .v (.int .i64 f), .v (.int .i64 (botI us))]]) (hp := [(1001, .strs A c ns), (1002, .ints B e .u8 us)]) (nx := 2000) (n := 900) (U := [(1000000, 60)]) (V := []) (tl := tlRu) (gl := glMe) (post := fun s' ys => ys = [.agg (ruS 0 0 v.x0 v.x1 v.dt v.er v.co)])
    followP tlRu_ok glMe_ok Tryz.func74 rfl (by kernel_rfl) (Nat.le_of_ble_eq_true (by kernel_rfl)) (by kernel_rfl) (by kernel_rfl) (hh_list hg) (free_list (by simp [allLt])) ?_ ?_
  · rintro s ys w' rfl H
    exact ⟨rfl, H.below⟩
  intro L F T G nd va hE
  obtain ⟨hL, hF, hs, hv, hT, hG, hR, hI, hJ, hW⟩ := hE
  rw [Tryz.results74] at hF
  simp (maxSteps := 1000000) only [En.nN, En.E, En.evsC, List.map_cons, List.map_nil, ne_eq, En.bitN, Nat.testBit, seval] at hv
  simp only [En.at_nil, En.at_cons, En.ag_nil, En.ag_cons, and_true, tlRu, glMe, tyInt, tyU8, tyBool, tyErr, tyStrs, tyBytes, tyInts, tyLat, tyI2, tyTy, tyTys, tyRule, tyTwo, tyLook, tyTab, tyRFn] at hT hG
  have j0 := labB_jI hL' h0 h1
  have j1 := labB_jI hL' h3 h4
  have j2 := labB_jI hL' j0 j1
  have j2 : labB us.length (axX us a0 a1 b0 b1) = true := j2
  simp only [mres] at hv'
  subst hv'
  simp (maxSteps := 10000000) only [En.E, En.evsC, List.map_cons, List.map_nil, ne_eq, En.bitN, Nat.testBit, seval, En.vV, hs, hv, hT, hG, hF, spRul_q, spDat_q, spAxs_q, spBth_q, spLJ_q, spShp_q, getN_gp, getN_nil, showC, intsOf, if_true, Option.bind_some, Option.map_some, List.length_cons, List.length_nil, ljR_q, ruS, j0, j1, j2, hL', h0, h1, h2, h3, h4, h5, lkR, latR_q, latN_q, latU_q, hB, and_self]
theorem spM_cat_ok : SpecOk Tryz.prog 74 (spMth 10) := mth_ok lcat_any
set_option maxRecDepth 100000 in
set_option maxHeartbeats 8000000 in
theorem lat_any (ns : List ByteArray) (us : List Int) (A B : Option Addr) (c e : Nat) (ka ra a0 a1 d kb rb b0 b1 f : Int) (hL' : Lt us) (h0 : labB us.length a0 = true) (h1 : labB us.length a1 = true) (h2 : labB us.length d = true) (h3 : labB us.length b0 = true) (h4 : labB us.length b1 = true) (h5 : labB us.length f = true) (w : World) (hg : allRd w.heap.size w [(1001, .strs A c ns), (1002, .ints B e .u8 us)]) :
    Calls Tryz.prog 75 (dens [.agg [.g 1001 A ns.length c, .g 1002 B us.length e, .v (.int .i64 ka), .v (.int .i64 ra), .v (.int .i64 a0), .v (.int .i64 a1), .v (.int .i64 d), .v (.int .i64 kb), .v (.int .i64 rb), .v (.int .i64 b0), .v (.int .i64 b1), .v (.int .i64 f), .v (.int .i64 (botI us))]]).toArray w fun e' w' => e' = .returned (den (.agg (ruS 0 0 (mres 11 us ra rb a0 a1 d b0 b1 f (botI us)).x0 (mres 11 us ra rb a0 a1 d b0 b1 f (botI us)).x1 (mres 11 us ra rb a0 a1 d b0 b1 f (botI us)).dt (mres 11 us ra rb a0 a1 d b0 b1 f (botI us)).er (mres 11 us ra rb a0 a1 d b0 b1 f (botI us)).co))) ∧ Below w.heap.size w w' := by
  have hB := hL'.by8
  obtain ⟨v, hv'⟩ : ∃ v, v = mres 11 us ra rb a0 a1 d b0 b1 f (botI us) := ⟨_, rfl⟩
  rw [← hv']
  refine calls_go (args := [.agg [.g 1001 A ns.length c, .g 1002 B us.length e, .v (.int .i64 ka), .v (.int .i64 ra), .v (.int .i64 a0), .v (.int .i64 a1), .v (.int .i64 d), .v (.int .i64 kb), .v (.int .i64 rb), .v (.int .i64 b0), .v (.int .i64 b1), .v (.int .i64 f), .v (.int .i64 (botI us))]]) (hp := [(1001, .strs A c ns), (1002, .ints B e .u8 us)]) (nx := 2000) (n := 900) (U := [(1000000, 60)]) (V := []) (tl := tlRu) (gl := glMe) (post := fun s' ys => ys = [.agg (ruS 0 0 v.x0 v.x1 v.dt v.er v.co)])
    followP tlRu_ok glMe_ok Tryz.func75 rfl (by kernel_rfl) (Nat.le_of_ble_eq_true (by kernel_rfl)) (by kernel_rfl) (by kernel_rfl) (hh_list hg) (free_list (by simp [allLt])) ?_ ?_
  · rintro s ys w' rfl H
    exact ⟨rfl, H.below⟩
  intro L F T G nd va hE
  obtain ⟨hL, hF, hs, hv, hT, hG, hR, hI, hJ, hW⟩ := hE
  rw [Tryz.results75] at hF
  simp (maxSteps := 1000000) only [En.nN, En.E, En.evsC, List.map_cons, List.map_nil, ne_eq, En.bitN, Nat.testBit, seval] at hv
  simp only [En.at_nil, En.at_cons, En.ag_nil, En.ag_cons, and_true, tlRu, glMe, tyInt, tyU8, tyBool, tyErr, tyStrs, tyBytes, tyInts, tyLat, tyI2, tyTy, tyTys, tyRule, tyTwo, tyLook, tyTab, tyRFn] at hT hG
  have j0 := labB_jI hL' h0 h1
  have j1 := labB_jI hL' h3 h4
  have j2 := labB_jI hL' j0 j1
  have j2 : labB us.length (axX us a0 a1 b0 b1) = true := j2
  simp only [mres] at hv'
  subst hv'
  simp (maxSteps := 10000000) only [En.E, En.evsC, List.map_cons, List.map_nil, ne_eq, En.bitN, Nat.testBit, seval, En.vV, hs, hv, hT, hG, hF, spRul_q, spDat_q, spAxs_q, spBth_q, spLJ_q, spShp_q, getN_gp, getN_nil, showC, intsOf, if_true, Option.bind_some, Option.map_some, List.length_cons, List.length_nil, ljR_q, ruS, j0, j1, j2, hL', h0, h1, h2, h3, h4, h5, lkR, latR_q, latN_q, latU_q, hB, and_self]
theorem spM_at_ok : SpecOk Tryz.prog 75 (spMth 11) := mth_ok lat_any
set_option maxRecDepth 100000 in
set_option maxHeartbeats 8000000 in
theorem lpick_any (ns : List ByteArray) (us : List Int) (A B : Option Addr) (c e : Nat) (ka ra a0 a1 d kb rb b0 b1 f : Int) (hL' : Lt us) (h0 : labB us.length a0 = true) (h1 : labB us.length a1 = true) (h2 : labB us.length d = true) (h3 : labB us.length b0 = true) (h4 : labB us.length b1 = true) (h5 : labB us.length f = true) (w : World) (hg : allRd w.heap.size w [(1001, .strs A c ns), (1002, .ints B e .u8 us)]) :
    Calls Tryz.prog 76 (dens [.agg [.g 1001 A ns.length c, .g 1002 B us.length e, .v (.int .i64 ka), .v (.int .i64 ra), .v (.int .i64 a0), .v (.int .i64 a1), .v (.int .i64 d), .v (.int .i64 kb), .v (.int .i64 rb), .v (.int .i64 b0), .v (.int .i64 b1), .v (.int .i64 f), .v (.int .i64 (botI us))]]).toArray w fun e' w' => e' = .returned (den (.agg (ruS 0 0 (mres 12 us ra rb a0 a1 d b0 b1 f (botI us)).x0 (mres 12 us ra rb a0 a1 d b0 b1 f (botI us)).x1 (mres 12 us ra rb a0 a1 d b0 b1 f (botI us)).dt (mres 12 us ra rb a0 a1 d b0 b1 f (botI us)).er (mres 12 us ra rb a0 a1 d b0 b1 f (botI us)).co))) ∧ Below w.heap.size w w' := by
  have hB := hL'.by8
  obtain ⟨v, hv'⟩ : ∃ v, v = mres 12 us ra rb a0 a1 d b0 b1 f (botI us) := ⟨_, rfl⟩
  rw [← hv']
  refine calls_go (args := [.agg [.g 1001 A ns.length c, .g 1002 B us.length e, .v (.int .i64 ka), .v (.int .i64 ra), .v (.int .i64 a0), .v (.int .i64 a1), .v (.int .i64 d), .v (.int .i64 kb), .v (.int .i64 rb), .v (.int .i64 b0), .v (.int .i64 b1), .v (.int .i64 f), .v (.int .i64 (botI us))]]) (hp := [(1001, .strs A c ns), (1002, .ints B e .u8 us)]) (nx := 2000) (n := 900) (U := [(1000000, 60)]) (V := []) (tl := tlRu) (gl := glMe) (post := fun s' ys => ys = [.agg (ruS 0 0 v.x0 v.x1 v.dt v.er v.co)])
    followP tlRu_ok glMe_ok Tryz.func76 rfl (by kernel_rfl) (Nat.le_of_ble_eq_true (by kernel_rfl)) (by kernel_rfl) (by kernel_rfl) (hh_list hg) (free_list (by simp [allLt])) ?_ ?_
  · rintro s ys w' rfl H
    exact ⟨rfl, H.below⟩
  intro L F T G nd va hE
  obtain ⟨hL, hF, hs, hv, hT, hG, hR, hI, hJ, hW⟩ := hE
  rw [Tryz.results76] at hF
  simp (maxSteps := 1000000) only [En.nN, En.E, En.evsC, List.map_cons, List.map_nil, ne_eq, En.bitN, Nat.testBit, seval] at hv
  simp only [En.at_nil, En.at_cons, En.ag_nil, En.ag_cons, and_true, tlRu, glMe, tyInt, tyU8, tyBool, tyErr, tyStrs, tyBytes, tyInts, tyLat, tyI2, tyTy, tyTys, tyRule, tyTwo, tyLook, tyTab, tyRFn] at hT hG
  have j0 := labB_jI hL' h0 h1
  have j1 := labB_jI hL' h3 h4
  have j2 := labB_jI hL' j0 j1
  have j2 : labB us.length (axX us a0 a1 b0 b1) = true := j2
  simp only [mres] at hv'
  subst hv'
  simp (maxSteps := 10000000) only [En.E, En.evsC, List.map_cons, List.map_nil, ne_eq, En.bitN, Nat.testBit, seval, En.vV, hs, hv, hT, hG, hF, spRul_q, spDat_q, spAxs_q, spBth_q, spLJ_q, spShp_q, getN_gp, getN_nil, showC, intsOf, if_true, Option.bind_some, Option.map_some, List.length_cons, List.length_nil, ljR_q, ruS, j0, j1, j2, hL', h0, h1, h2, h3, h4, h5, lkR, latR_q, latN_q, latU_q, hB, and_self]
theorem spM_pick_ok : SpecOk Tryz.prog 76 (spMth 12) := mth_ok lpick_any
set_option maxRecDepth 100000 in
set_option maxHeartbeats 8000000 in
theorem lextended_any (ns : List ByteArray) (us : List Int) (A B : Option Addr) (c e : Nat) (ka ra a0 a1 d kb rb b0 b1 f : Int) (hL' : Lt us) (h0 : labB us.length a0 = true) (h1 : labB us.length a1 = true) (h2 : labB us.length d = true) (h3 : labB us.length b0 = true) (h4 : labB us.length b1 = true) (h5 : labB us.length f = true) (w : World) (hg : allRd w.heap.size w [(1001, .strs A c ns), (1002, .ints B e .u8 us)]) :
    Calls Tryz.prog 77 (dens [.agg [.g 1001 A ns.length c, .g 1002 B us.length e, .v (.int .i64 ka), .v (.int .i64 ra), .v (.int .i64 a0), .v (.int .i64 a1), .v (.int .i64 d), .v (.int .i64 kb), .v (.int .i64 rb), .v (.int .i64 b0), .v (.int .i64 b1), .v (.int .i64 f), .v (.int .i64 (botI us))]]).toArray w fun e' w' => e' = .returned (den (.agg (ruS 0 0 (mres 13 us ra rb a0 a1 d b0 b1 f (botI us)).x0 (mres 13 us ra rb a0 a1 d b0 b1 f (botI us)).x1 (mres 13 us ra rb a0 a1 d b0 b1 f (botI us)).dt (mres 13 us ra rb a0 a1 d b0 b1 f (botI us)).er (mres 13 us ra rb a0 a1 d b0 b1 f (botI us)).co))) ∧ Below w.heap.size w w' := by
  have hB := hL'.by8
  obtain ⟨v, hv'⟩ : ∃ v, v = mres 13 us ra rb a0 a1 d b0 b1 f (botI us) := ⟨_, rfl⟩
  rw [← hv']
  refine calls_go (args := [.agg [.g 1001 A ns.length c, .g 1002 B us.length e, .v (.int .i64 ka), .v (.int .i64 ra), .v (.int .i64 a0), .v (.int .i64 a1), .v (.int .i64 d), .v (.int .i64 kb), .v (.int .i64 rb), .v (.int .i64 b0), .v (.int .i64 b1), .v (.int .i64 f), .v (.int .i64 (botI us))]]) (hp := [(1001, .strs A c ns), (1002, .ints B e .u8 us)]) (nx := 2000) (n := 900) (U := [(1000000, 60)]) (V := []) (tl := tlRu) (gl := glMe) (post := fun s' ys => ys = [.agg (ruS 0 0 v.x0 v.x1 v.dt v.er v.co)])
    followP tlRu_ok glMe_ok Tryz.func77 rfl (by kernel_rfl) (Nat.le_of_ble_eq_true (by kernel_rfl)) (by kernel_rfl) (by kernel_rfl) (hh_list hg) (free_list (by simp [allLt])) ?_ ?_
  · rintro s ys w' rfl H
    exact ⟨rfl, H.below⟩
  intro L F T G nd va hE
  obtain ⟨hL, hF, hs, hv, hT, hG, hR, hI, hJ, hW⟩ := hE
  rw [Tryz.results77] at hF
  simp (maxSteps := 1000000) only [En.nN, En.E, En.evsC, List.map_cons, List.map_nil, ne_eq, En.bitN, Nat.testBit, seval] at hv
  simp only [En.at_nil, En.at_cons, En.ag_nil, En.ag_cons, and_true, tlRu, glMe, tyInt, tyU8, tyBool, tyErr, tyStrs, tyBytes, tyInts, tyLat, tyI2, tyTy, tyTys, tyRule, tyTwo, tyLook, tyTab, tyRFn] at hT hG
  have j0 := labB_jI hL' h0 h1
  have j1 := labB_jI hL' h3 h4
  have j2 := labB_jI hL' j0 j1
  have j2 : labB us.length (axX us a0 a1 b0 b1) = true := j2
  simp only [mres] at hv'
  cases c1 : decide (rb < ra) <;> rw [c1] at hv'
  · cases c2 : decide (ra < rb) <;> rw [c2] at hv'
    · cases c3 : decide (0 < ra) <;> (try rw [c3] at hv')
      · subst hv'
        simp (maxSteps := 10000000) only [En.E, En.evsC, List.map_cons, List.map_nil, ne_eq, En.bitN, Nat.testBit, seval, En.vV, hs, hv, hT, hG, hF, spRul_q, spDat_q, spAxs_q, spBth_q, spLJ_q, spShp_q, getN_gp, getN_nil, showC, intsOf, if_true, Option.bind_some, Option.map_some, List.length_cons, List.length_nil, ljR_q, ruS, c1, c2, c3, j0, j1, j2, hL', h0, h1, h2, h3, h4, h5, lkR, latR_q, latN_q, latU_q, hB, and_self]
      · subst hv'
        simp (maxSteps := 10000000) only [En.E, En.evsC, List.map_cons, List.map_nil, ne_eq, En.bitN, Nat.testBit, seval, En.vV, hs, hv, hT, hG, hF, spRul_q, spDat_q, spAxs_q, spBth_q, spLJ_q, spShp_q, getN_gp, getN_nil, showC, intsOf, if_true, Option.bind_some, Option.map_some, List.length_cons, List.length_nil, ljR_q, ruS, c1, c2, c3, j0, j1, j2, hL', h0, h1, h2, h3, h4, h5, lkR, latR_q, latN_q, latU_q, hB, and_self]
    · subst hv'
      simp (maxSteps := 10000000) only [En.E, En.evsC, List.map_cons, List.map_nil, ne_eq, En.bitN, Nat.testBit, seval, En.vV, hs, hv, hT, hG, hF, spRul_q, spDat_q, spAxs_q, spBth_q, spLJ_q, spShp_q, getN_gp, getN_nil, showC, intsOf, if_true, Option.bind_some, Option.map_some, List.length_cons, List.length_nil, ljR_q, ruS, c1, c2, j0, j1, j2, hL', h0, h1, h2, h3, h4, h5, lkR, latR_q, latN_q, latU_q, hB, and_self]
  · subst hv'
    simp (maxSteps := 10000000) only [En.E, En.evsC, List.map_cons, List.map_nil, ne_eq, En.bitN, Nat.testBit, seval, En.vV, hs, hv, hT, hG, hF, spRul_q, spDat_q, spAxs_q, spBth_q, spLJ_q, spShp_q, getN_gp, getN_nil, showC, intsOf, if_true, Option.bind_some, Option.map_some, List.length_cons, List.length_nil, ljR_q, ruS, c1, j0, j1, j2, hL', h0, h1, h2, h3, h4, h5, lkR, latR_q, latN_q, latU_q, hB, and_self]
theorem spM_extended_ok : SpecOk Tryz.prog 77 (spMth 13) := mth_ok lextended_any
def glEx : List (FuncId × Spc) := (77, spMth 13) :: glMe
theorem glEx_ok : GOk Tryz.prog (lookG glEx) := lG_cons (by kernel_rfl) spM_extended_ok glMe_ok
set_option maxRecDepth 100000 in
set_option maxHeartbeats 8000000 in
theorem lexact_any (ns : List ByteArray) (us : List Int) (A B : Option Addr) (c e : Nat) (ka ra a0 a1 d kb rb b0 b1 f : Int) (hL' : Lt us) (h0 : labB us.length a0 = true) (h1 : labB us.length a1 = true) (h2 : labB us.length d = true) (h3 : labB us.length b0 = true) (h4 : labB us.length b1 = true) (h5 : labB us.length f = true) (w : World) (hg : allRd w.heap.size w [(1001, .strs A c ns), (1002, .ints B e .u8 us)]) :
    Calls Tryz.prog 78 (dens [.agg [.g 1001 A ns.length c, .g 1002 B us.length e, .v (.int .i64 ka), .v (.int .i64 ra), .v (.int .i64 a0), .v (.int .i64 a1), .v (.int .i64 d), .v (.int .i64 kb), .v (.int .i64 rb), .v (.int .i64 b0), .v (.int .i64 b1), .v (.int .i64 f), .v (.int .i64 (botI us))]]).toArray w fun e' w' => e' = .returned (den (.agg (ruS 0 0 (mres 14 us ra rb a0 a1 d b0 b1 f (botI us)).x0 (mres 14 us ra rb a0 a1 d b0 b1 f (botI us)).x1 (mres 14 us ra rb a0 a1 d b0 b1 f (botI us)).dt (mres 14 us ra rb a0 a1 d b0 b1 f (botI us)).er (mres 14 us ra rb a0 a1 d b0 b1 f (botI us)).co))) ∧ Below w.heap.size w w' := by
  have hB := hL'.by8
  obtain ⟨v, hv'⟩ : ∃ v, v = mres 14 us ra rb a0 a1 d b0 b1 f (botI us) := ⟨_, rfl⟩
  rw [← hv']
  refine calls_go (args := [.agg [.g 1001 A ns.length c, .g 1002 B us.length e, .v (.int .i64 ka), .v (.int .i64 ra), .v (.int .i64 a0), .v (.int .i64 a1), .v (.int .i64 d), .v (.int .i64 kb), .v (.int .i64 rb), .v (.int .i64 b0), .v (.int .i64 b1), .v (.int .i64 f), .v (.int .i64 (botI us))]]) (hp := [(1001, .strs A c ns), (1002, .ints B e .u8 us)]) (nx := 2000) (n := 900) (U := [(1000000, 60)]) (V := []) (tl := tlRu) (gl := glEx) (post := fun s' ys => ys = [.agg (ruS 0 0 v.x0 v.x1 v.dt v.er v.co)])
    followP tlRu_ok glEx_ok Tryz.func78 rfl (by kernel_rfl) (Nat.le_of_ble_eq_true (by kernel_rfl)) (by kernel_rfl) (by kernel_rfl) (hh_list hg) (free_list (by simp [allLt])) ?_ ?_
  · rintro s ys w' rfl H
    exact ⟨rfl, H.below⟩
  intro L F T G nd va hE
  obtain ⟨hL, hF, hs, hv, hT, hG, hR, hI, hJ, hW⟩ := hE
  rw [Tryz.results78] at hF
  simp (maxSteps := 1000000) only [En.nN, En.E, En.evsC, List.map_cons, List.map_nil, ne_eq, En.bitN, Nat.testBit, seval] at hv
  simp only [En.at_nil, En.at_cons, En.ag_nil, En.ag_cons, and_true, tlRu, glEx, glMe, tyInt, tyU8, tyBool, tyErr, tyStrs, tyBytes, tyInts, tyLat, tyI2, tyTy, tyTys, tyRule, tyTwo, tyLook, tyTab, tyRFn] at hT hG
  have j0 := labB_jI hL' h0 h1
  have j1 := labB_jI hL' h3 h4
  have j2 := labB_jI hL' j0 j1
  have j2 : labB us.length (axX us a0 a1 b0 b1) = true := j2
  simp only [mres] at hv'
  subst hv'
  simp (maxSteps := 10000000) only [En.E, En.evsC, List.map_cons, List.map_nil, ne_eq, En.bitN, Nat.testBit, seval, En.vV, hs, hv, hT, hG, hF, spRul_q, spDat_q, spAxs_q, spBth_q, spLJ_q, spShp_q, getN_gp, getN_nil, showC, intsOf, if_true, Option.bind_some, Option.map_some, List.length_cons, List.length_nil, ljR_q, spMth_q, mres, ruS, j0, j1, j2, hL', h0, h1, h2, h3, h4, h5, lkR, latR_q, latN_q, latU_q, hB, and_self]
theorem spM_exact_ok : SpecOk Tryz.prog 78 (spMth 14) := mth_ok lexact_any
end Pr
end Go.Proofs.YtnpkmimbnjnicaaGreatDoor
