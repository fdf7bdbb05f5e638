/-
Lattices of types: of, label, leq, join (chapter 20).
-/
import Derived.Test.YtnpkmimbnjnicaaGreatDoorLt3
set_option linter.unusedSimpArgs false
set_option linter.unusedVariables false
namespace Go.Proofs.YtnpkmimbnjnicaaGreatDoor
namespace Pr
open Go Go.RowKit En
open Lt
theorem ixL_no {x : Int} {l : List Int} : ∀ {i : Int}, (∀ j, j < l.length → l.getD j 0 ≠ x) → ixL x l i = -1 := by
  induction l with
  | nil => intro i _; rfl
  | cons y l ih =>
    intro i h
    have h0 := h 0 (by simp)
    have : (y == x) = false := by simpa using h0
    simp only [ixL, this, cond_false]
    exact ih fun j hj => by simpa using h (j + 1) (by simpa using hj)
def iuI (A : Option Addr) (c : Nat) (us : List Int) (x : Int) (i : Nat) : SS :=
  ⟨[(0, .g 1000 A us.length c), (1, .v (.int .u8 x)), (7, .v (.int .i64 us.length)), (8, .v (.int .i64 i))], [(1000, .ints A c .u8 us)], 8000⟩
set_option maxHeartbeats 4000000 in
theorem ixU_any (us : List Int) (hn : us.length ≤ 100000) (x : Int) (A : Option Addr) (c : Nat) (w : World) (h : Hold w.heap.size w (.ints A c .u8 us)) :
    Calls Tryz.prog 30 (dens [.g 1000 A us.length c, .v (.int .u8 x)]).toArray w fun e w' => e = .returned (.int .i64 (ixL x us 0)) ∧ Below w.heap.size w w' := by
  obtain ⟨q, hq⟩ : ∃ q, q = ixL x us 0 := ⟨_, rfl⟩
  rw [← hq]
  refine calls_go (args := [.g 1000 A us.length c, .v (.int .u8 x)]) (hp := [(1000, .ints A c .u8 us)]) (nx := 1001) (n := 400) (U := [(1000000, 9)]) (V := []) (tl := tlLt) (gl := gl0) (post := fun s ys => ys = [.v (.int .i64 q)])
    followP tlLt_ok gl0_ok Tryz.func30 rfl (by kernel_rfl) (Nat.le_of_ble_eq_true (by kernel_rfl)) (by kernel_rfl) (by kernel_rfl) (hh_list ⟨⟨h, rfl⟩, trivial⟩) (free_list (by simp [allLt])) ?_ ?_
  · rintro s ys w' rfl H
    exact ⟨rfl, H.below⟩
  intro L F T G nd va hE
  obtain ⟨hL, hF, hs, hv, hT, hG, hR, hI, hJ, hW⟩ := hE
  rw [Tryz.results30] at hF
  simp (maxSteps := 1000000) only [En.nN, En.E, En.evsC, List.map_cons, List.map_nil, ne_eq, En.bitN, Nat.testBit, seval] at hv
  simp only [En.at_nil, En.at_cons, En.ag_nil, En.ag_cons, and_true, tlLt, gl0, tyInt, tyU8, tyBool, tyStr, tyErr, tyStrs, tyBytes, tyInts, tyLat, tyA8, tyUps, tyDns, tyOrd, tyUint] at hT hG
  simp (maxSteps := 10000000) only [En.E, En.evsC, List.map_cons, List.map_nil, ne_eq, En.bitN, Nat.testBit, seval, En.vV, hs, hv, hT, hG, hF, ]
  refine hI {i : Nat // i ≤ us.length ∧ ∀ j, j < i → us.getD j 0 ≠ x} (fun y => iuI A c us x y.1) (fun x => us.length - x.1) _ _ _ ⟨0, Nat.zero_le _, fun j hj => absurd hj (Nat.not_lt_zero j)⟩ (sle_all [1000] (by decide) (by simp only [En.E, En.evsC, List.map_cons, List.map_nil, ne_eq, En.bitN, Nat.testBit, seval, En.slLe, En.hpLe, En.chE, En.allLt, iuI, Int.cast_ofNat_Int])) ?_
  rintro ⟨i, hi, hp⟩
  refine hR 400 _ _ ?_
  by_cases hlt : i < us.length
  · have d0 : decide ((i : Int) < (us.length : Int)) = true := decide_eq_true (by omega)
    have i1 : inr .i64 ((i : Int) + 1) := by simp only [En.inr, En.lo, En.hi]; omega
    cases d1 : (x == us.getD i 0) with
    | true =>
      have hq' : q = i := by rw [hq, ixL_at hlt (eq_of_beq d1).symm hp]; omega
      simp (maxSteps := 10000000) only [En.E, En.evsC, List.map_cons, List.map_nil, ne_eq, En.bitN, Nat.testBit, seval, En.vV, hs, hv, hT, hG, hF, iuI, d0, Int.toNat_natCast, d1, hq']
      omega
    | false =>
      simp (maxSteps := 10000000) only [En.E, En.evsC, List.map_cons, List.map_nil, ne_eq, En.bitN, Nat.testBit, seval, En.vV, hs, hv, hT, hG, hF, iuI, d0, Int.toNat_natCast, d1, i1]
      refine ⟨by omega, by omega, ⟨i + 1, by omega, fun j hj => ?_⟩, (sle_all [1000] (by decide) (by simp only [En.E, En.evsC, List.map_cons, List.map_nil, ne_eq, En.bitN, Nat.testBit, seval, En.slLe, En.hpLe, En.chE, En.allLt, iuI, Int.natCast_add, Int.cast_ofNat_Int])), by simp only; omega⟩
      by_cases e : j = i
      · rw [e]; intro h; rw [h] at d1; simp at d1
      · exact hp j (by omega)
  · have d0 : decide ((i : Int) < (us.length : Int)) = false := decide_eq_false (by omega)
    have hq' : q = -1 := by rw [hq, ixL_no fun j hj => hp j (by omega)]
    simp (maxSteps := 10000000) only [En.E, En.evsC, List.map_cons, List.map_nil, ne_eq, En.bitN, Nat.testBit, seval, En.vV, hs, hv, hT, hG, hF, iuI, d0, hq']
def spIxU : Spc
  | [.g k A n c, .v (.int .u8 x)], H, _ => .is (byR A n c (H k) ∧ n ≤ 100000) (.v (.int .i64 (ixL x (latU (H k)) 0)))
  | _, _, _ => .bad
theorem spIxU_q {k n c : Nat} {A : Option Addr} {x : Int} {H : Nat → Ch} {nx : Nat} : spIxU [.g k A n c, .v (.int .u8 x)] H nx = .is (byR A n c (H k) ∧ n ≤ 100000) (.v (.int .i64 (ixL x (latU (H k)) 0))) := (rfl)
theorem spIxU_ok : SpecOk Tryz.prog 30 spIxU := by
  intro args hp nx w0 O w H hv
  unfold spIxU at hv ⊢
  split at hv
  · next k A n c x =>
    obtain ⟨h, h8⟩ := hv
    obtain ⟨e1, e2, e3⟩ := byR_of h
    have hk := H.hold k
    rw [e1] at hk
    have := ixU_any (latU (lookH hp k)) (by omega) x A c w hk
    rw [← e2] at this
    refine this.mono ?_
    rintro e w' ⟨rfl, hb⟩
    exact ⟨⟨0, none, 0, none, 0, mz⟩, rfl, .still hb⟩
  · exact hv.elim
def ordZ : SV := .agg [.v (.slice none 0 0), .v (.slice none 0 0), .v (.int .i64 0)]
def ofTV (x y : SV) (ns : List ByteArray) (us : List Int) : SV := .tup [bif (chkV nmV ns us).2 != 0 then ordZ else .agg [x, y, .v (.int .i64 (botI us))], .v (.int .i64 (chkV nmV ns us).2)]
def tlTp : List (TypeId × TI) := [tyInt, tyU8, tyBool, tyStr, tyErr, tyStrs, tyBytes, tyInts, tyLat, tyI2, tyTy, tyTOrd, tyWith]
theorem tlTp_ok : TyAll Tryz.prog (lookT tlTp) := tyAll_p tyInt_ok <| tyAll_p tyU8_ok <| tyAll_p tyBool_ok <| tyAll_p tyStr_ok <| tyAll_p tyErr_ok <| tyAll_p tyStrs_ok <| tyAll_p tyBytes_ok <| tyAll_p tyInts_ok <| tyAll_p tyLat_ok <| tyAll_p tyI2_ok <| tyAll_p tyTy_ok <| tyAll_p tyTOrd_ok <| tyAll_p tyWith_ok tyAll_nil
def glTo : List (FuncId × Spc) := [(34, spChk3), (35, spBot)]
theorem glTo_ok : GOk Tryz.prog (lookG glTo) := lG_cons (by kernel_rfl) spChk3_ok <| lG_cons (by kernel_rfl) spBot_ok lG_nil
set_option maxRecDepth 100000 in
set_option maxHeartbeats 4000000 in
theorem tof_any (ns : List ByteArray) (us : List Int) (A B : Option Addr) (c d : Nat) (hB : Bytes us) (w : World) (hg : allRd w.heap.size w [(1001, .strs A c ns), (1002, .ints B d .u8 us)]) :
    Calls Tryz.prog 43 (dens [.agg [.g 1001 A ns.length c, .g 1002 B us.length d]]).toArray w fun e w' => e = .returned (den (ofTV (.g 1001 A ns.length c) (.g 1002 B us.length d) ns us)) ∧ Below w.heap.size w w' := by
  refine calls_go (args := [.agg [.g 1001 A ns.length c, .g 1002 B us.length d]]) (hp := [(1001, .strs A c ns), (1002, .ints B d .u8 us)]) (nx := 2000) (n := 600) (U := [(1000000, 8)]) (V := []) (tl := tlTp) (gl := glTo) (post := fun s' ys => den (.tup ys) = den (ofTV (.g 1001 A ns.length c) (.g 1002 B us.length d) ns us) ∧ ∃ x y, ys = [x, y])
    followP tlTp_ok glTo_ok Tryz.func43 rfl (by kernel_rfl) (Nat.le_of_ble_eq_true (by kernel_rfl)) (by kernel_rfl) (by kernel_rfl) (hh_list hg) (free_list (by simp [allLt])) ?_ ?_
  · rintro s ys w' ⟨h, x, y, rfl⟩ H
    exact ⟨by rw [← h]; rfl, H.below⟩
  intro L F T G nd va hE
  obtain ⟨hL, hF, hs, hv, hT, hG, hR, hI, hJ, hW⟩ := hE
  rw [Tryz.results43] at hF
  simp (maxSteps := 1000000) only [En.nN, En.E, En.evsC, List.map_cons, List.map_nil, ne_eq, En.bitN, Nat.testBit, seval] at hv
  simp only [En.at_nil, En.at_cons, En.ag_nil, En.ag_cons, and_true, tlTp, glTo, tyInt, tyU8, tyBool, tyStr, tyErr, tyStrs, tyBytes, tyInts, tyLat, tyI2, tyTy, tyTOrd, tyWith] at hT hG
  cases h1 : ((chkV nmV ns us).2 != 0)
  · have h0 : (chkV nmV ns us).2 = 0 := by simpa using h1
    have hb : botV ns us = botI us := by unfold botV; rw [h1]; rfl
    simp (maxSteps := 10000000) only [En.E, En.evsC, List.map_cons, List.map_nil, ne_eq, En.bitN, Nat.testBit, seval, En.vV, hs, hv, hT, hG, hF, spChk3_q, spBot_q, latR_q, latN_q, latU_q, hB, h0, hb]
    exact ⟨by unfold ofTV; rw [h1, h0]; rfl, _, _, rfl⟩
  · simp (maxSteps := 10000000) only [En.E, En.evsC, List.map_cons, List.map_nil, ne_eq, En.bitN, Nat.testBit, seval, En.vV, hs, hv, hT, hG, hF, spChk3_q, spBot_q, latR_q, latN_q, latU_q, hB, h1]
    exact ⟨by unfold ofTV; rw [h1]; rfl, _, _, rfl⟩
theorem ofTV_den {k j k' j' n c m d : Nat} {A B : Option Addr} {ns : List ByteArray} {us : List Int} : den (ofTV (.g k A n c) (.g j B m d) ns us) = den (ofTV (.g k' A n c) (.g j' B m d) ns us) := by
  unfold ofTV
  cases ((chkV nmV ns us).2 != 0) <;> rfl
def spTof : Spc
  | [.agg [.g k A n c, .g j B m d]], H, _ => .is (latR A n c B m d (H k) (H j)) (ofTV (.g k A n c) (.g j B m d) (latN (H k)) (latU (H j)))
  | _, _, _ => .bad
theorem spTof_q {k n c j m d : Nat} {A B : Option Addr} {H : Nat → Ch} {nx : Nat} : spTof [.agg [.g k A n c, .g j B m d]] H nx = .is (latR A n c B m d (H k) (H j)) (ofTV (.g k A n c) (.g j B m d) (latN (H k)) (latU (H j))) := (rfl)
theorem spTof_ok : SpecOk Tryz.prog 43 spTof := by
  intro args hp nx w0 O w H hv
  unfold spTof at hv ⊢
  split at hv
  · next k A n c j B m d =>
    obtain ⟨x1, x2, x3, x4, x5⟩ := latR_of hv
    have h1 := H.hold k
    have h2 := H.hold j
    rw [x1] at h1
    rw [x2] at h2
    have := tof_any (latN (lookH hp k)) (latU (lookH hp j)) A B c d x5 w ⟨⟨h1, rfl⟩, ⟨h2, rfl⟩, trivial⟩
    rw [← x3, ← x4] at this
    refine this.mono ?_
    rintro e w' ⟨rfl, hb⟩
    exact ⟨⟨0, none, 0, none, 0, mz⟩, congrArg Ending.returned ofTV_den, .still hb⟩
  · exact hv.elim
theorem ofTV_yes {x y : SV} {ns : List ByteArray} {us : List Int} (h : (chkV nmV ns us).2 = 0) : ofTV x y ns us = .tup [.agg [x, y, .v (.int .i64 (botI us))], .v (.int .i64 0)] := by
  unfold ofTV; rw [h]; rfl
theorem ofTV_no {x y : SV} {ns : List ByteArray} {us : List Int} (h : ((chkV nmV ns us).2 != 0) = true) : ofTV x y ns us = .tup [ordZ, .v (.int .i64 (chkV nmV ns us).2)] := by
  unfold ofTV; rw [h]; rfl
def labB (n : Nat) (a : Int) : Bool := bif decide (0 ≤ a) then decide (a < n) else false
theorem labB_iff {us : List Int} {a : Int} : labB us.length a = true ↔ lab us a := by
  unfold labB lab
  by_cases h : 0 ≤ a
  · rw [decide_eq_true h]; simp [h]
  · rw [decide_eq_false h]; simp [h]
theorem label_any (x y z : SV) (n c k : Nat) (A : Option Addr) (a : Int) (hx : x = .g k A n c) (hy : oneC y = true) (hz : oneC z = true) (w : World) : Calls Tryz.prog 45 (dens [.agg [x, y, z], .v (.int .i64 a)]).toArray w fun e w' => e = .returned (.bool (labB n a)) ∧ Below w.heap.size w w' := by
  subst hx
  obtain ⟨q, hq⟩ : ∃ q, q = labB n a := ⟨_, rfl⟩
  rw [← hq]
  refine calls_go (args := [.agg [.g k A n c, y, z], .v (.int .i64 a)]) (hp := []) (nx := 1000) (n := 400) (U := [(1000000, 15)]) (V := []) (tl := tlTp) (gl := gl0) (post := fun s ys => ys = [.v (.bool q)])
    followP tlTp_ok gl0_ok Tryz.func45 rfl (by kernel_rfl) (Nat.le_of_ble_eq_true (by kernel_rfl)) (by kernel_rfl) (by kernel_rfl) (hh_list trivial) (fun _ _ => rfl) ?_ ?_
  · rintro s ys w' rfl H
    exact ⟨rfl, H.below⟩
  intro L F T G nd va hE
  obtain ⟨hL, hF, hs, hv, hT, hG, hR, hI, hJ, hW⟩ := hE
  rw [Tryz.results45] at hF
  simp (maxSteps := 1000000) only [En.nN, En.E, En.evsC, List.map_cons, List.map_nil, ne_eq, En.bitN, Nat.testBit, seval] at hv
  simp only [En.at_nil, En.at_cons, En.ag_nil, En.ag_cons, and_true, tlTp, gl0, tyInt, tyU8, tyBool, tyStr, tyErr, tyStrs, tyBytes, tyInts, tyLat, tyI2, tyTy, tyTOrd, tyWith] at hT hG
  unfold labB at hq
  cases h1 : decide (0 ≤ a) <;> rw [h1] at hq
  · simp (maxSteps := 10000000) only [En.E, En.evsC, List.map_cons, List.map_nil, ne_eq, En.bitN, Nat.testBit, seval, En.vV, hs, hv, hT, hG, hF, h1, hq]
  · cases h2 : decide (a < n) <;> rw [h2] at hq
    · simp (maxSteps := 10000000) only [En.E, En.evsC, List.map_cons, List.map_nil, ne_eq, En.bitN, Nat.testBit, seval, En.vV, hs, hv, hT, hG, hF, h1, h2, hq]
    · simp (maxSteps := 10000000) only [En.E, En.evsC, List.map_cons, List.map_nil, ne_eq, En.bitN, Nat.testBit, seval, En.vV, hs, hv, hT, hG, hF, h1, h2, hq]
def spLab : Spc
  | [.agg [.g k A n c, .g j B m d, .v (.int .i64 b)], .v (.int .i64 a)], _, _ => .is True (.v (.bool (labB n a)))
  | _, _, _ => .bad
theorem spLab_q {k n c j m d : Nat} {A B : Option Addr} {a b : Int} {H : Nat → Ch} {nx : Nat} : spLab [.agg [.g k A n c, .g j B m d, .v (.int .i64 b)], .v (.int .i64 a)] H nx = .is True (.v (.bool (labB n a))) := (rfl)
theorem spLab_ok : SpecOk Tryz.prog 45 spLab := specOk_is fun args H nx => by
  unfold spLab; split
  · next k A n c j B m d b a => exact fun _ w => label_any _ _ _ n c k A a rfl rfl rfl w
  · trivial
set_option maxRecDepth 100000 in
set_option maxHeartbeats 4000000 in
theorem tleq_any (ns : List ByteArray) (us : List Int) (A B : Option Addr) (c d : Nat) (z a b : Int) (hB : Bytes us) (h8 : us.length ≤ 8) (ha : lab us a) (hb : lab us b) (w : World) (hg : allRd w.heap.size w [(1001, .strs A c ns), (1002, .ints B d .u8 us)]) :
    Calls Tryz.prog 92 (dens [.agg [.g 1001 A ns.length c, .g 1002 B us.length d, .v (.int .i64 z)], .v (.int .i64 a), .v (.int .i64 b)]).toArray w fun e w' => e = .returned (.bool (leI us a b)) ∧ Below w.heap.size w w' := by
  obtain ⟨q, hq⟩ : ∃ q, q = leI us a b := ⟨_, rfl⟩
  rw [← hq]
  refine calls_go (args := [.agg [.g 1001 A ns.length c, .g 1002 B us.length d, .v (.int .i64 z)], .v (.int .i64 a), .v (.int .i64 b)]) (hp := [(1001, .strs A c ns), (1002, .ints B d .u8 us)]) (nx := 2000) (n := 600) (U := [(1000000, 17)]) (V := []) (tl := tlTp) (gl := gl0) (post := fun s' ys => ys = [.v (.bool q)])
    followP tlTp_ok gl0_ok Tryz.func92 rfl (by kernel_rfl) (Nat.le_of_ble_eq_true (by kernel_rfl)) (by kernel_rfl) (by kernel_rfl) (hh_list hg) (free_list (by simp [allLt])) ?_ ?_
  · rintro s ys w' rfl H
    exact ⟨rfl, H.below⟩
  intro L F T G nd va hE
  obtain ⟨hL, hF, hs, hv, hT, hG, hR, hI, hJ, hW⟩ := hE
  rw [Tryz.results92] at hF
  simp (maxSteps := 1000000) only [En.nN, En.E, En.evsC, List.map_cons, List.map_nil, ne_eq, En.bitN, Nat.testBit, seval] at hv
  simp only [En.at_nil, En.at_cons, En.ag_nil, En.ag_cons, and_true, tlTp, gl0, tyInt, tyU8, tyBool, tyStr, tyErr, tyStrs, tyBytes, tyInts, tyLat, tyI2, tyTy, tyTOrd, tyWith] at hT hG
  have e1 := bit_lab hB h8 ha hb
  have a0 := ha.1; have a1 := ha.2; have b0 := hb.1
  simp (maxSteps := 10000000) only [En.E, En.evsC, List.map_cons, List.map_nil, ne_eq, En.bitN, Nat.testBit, seval, En.vV, hs, hv, hT, hG, hF, e1, hq]
  exact ⟨⟨a0, a1⟩, ⟨a0, by omega⟩, b0⟩
theorem lab_of {us : List Int} {n : Nat} {a : Int} (hn : n = us.length) (h : labB n a = true) : lab us a := by subst hn; exact labB_iff.1 h
def spTleq : Spc
  | [.agg [.g k A n c, .g j B m d, .v (.int .i64 z)], .v (.int .i64 a), .v (.int .i64 b)], H, _ => .is (latR A n c B m d (H k) (H j) ∧ m ≤ 8 ∧ labB m a = true ∧ labB m b = true) (.v (.bool (leI (latU (H j)) a b)))
  | _, _, _ => .bad
theorem spTleq_q {k n c j m d : Nat} {A B : Option Addr} {a b z : Int} {H : Nat → Ch} {nx : Nat} : spTleq [.agg [.g k A n c, .g j B m d, .v (.int .i64 z)], .v (.int .i64 a), .v (.int .i64 b)] H nx = .is (latR A n c B m d (H k) (H j) ∧ m ≤ 8 ∧ labB m a = true ∧ labB m b = true) (.v (.bool (leI (latU (H j)) a b))) := (rfl)
theorem spTleq_ok : SpecOk Tryz.prog 92 spTleq := by
  intro args hp nx w0 O w H hv
  unfold spTleq at hv ⊢
  split at hv
  · next k A n c j B m d z a b =>
    obtain ⟨hl, h8, ha, hb⟩ := hv
    obtain ⟨x1, x2, x3, x4, x5⟩ := latR_of hl
    have h1 := H.hold k
    have h2 := H.hold j
    rw [x1] at h1
    rw [x2] at h2
    have := tleq_any (latN (lookH hp k)) (latU (lookH hp j)) A B c d z a b x5 (by omega) (lab_of x4 ha) (lab_of x4 hb) w ⟨⟨h1, rfl⟩, ⟨h2, rfl⟩, trivial⟩
    rw [← x3, ← x4] at this
    refine this.mono ?_
    rintro e w' ⟨rfl, hb⟩
    exact ⟨⟨0, none, 0, none, 0, mz⟩, rfl, .still hb⟩
  · exact hv.elim
def glTj : List (FuncId × Spc) := [(30, spIxU)]
theorem glTj_ok : GOk Tryz.prog (lookG glTj) := lG_cons (by kernel_rfl) spIxU_ok lG_nil
set_option maxRecDepth 100000 in
set_option maxHeartbeats 4000000 in
theorem tjoin_any (ns : List ByteArray) (us : List Int) (A B : Option Addr) (c d : Nat) (z a b : Int) (hB : Bytes us) (h8 : us.length ≤ 8) (ha : lab us a) (hb : lab us b) (w : World) (hg : allRd w.heap.size w [(1001, .strs A c ns), (1002, .ints B d .u8 us)]) :
    Calls Tryz.prog 93 (dens [.agg [.g 1001 A ns.length c, .g 1002 B us.length d, .v (.int .i64 z)], .v (.int .i64 a), .v (.int .i64 b)]).toArray w fun e w' => e = .returned (.int .i64 (jI us a b)) ∧ Below w.heap.size w w' := by
  refine calls_go (args := [.agg [.g 1001 A ns.length c, .g 1002 B us.length d, .v (.int .i64 z)], .v (.int .i64 a), .v (.int .i64 b)]) (hp := [(1001, .strs A c ns), (1002, .ints B d .u8 us)]) (nx := 2000) (n := 600) (U := [(1000000, 17)]) (V := []) (tl := tlTp) (gl := glTj) (post := fun s' ys => ys = [.v (.int .i64 (ixL (bits .and .u8 (us.getD a.toNat 0) (us.getD b.toNat 0)) us 0))])
    followP tlTp_ok glTj_ok Tryz.func93 rfl (by kernel_rfl) (Nat.le_of_ble_eq_true (by kernel_rfl)) (by kernel_rfl) (by kernel_rfl) (hh_list hg) (free_list (by simp [allLt])) ?_ ?_
  · rintro s ys w' rfl H
    exact ⟨rfl, H.below⟩
  intro L F T G nd va hE
  obtain ⟨hL, hF, hs, hv, hT, hG, hR, hI, hJ, hW⟩ := hE
  rw [Tryz.results93] at hF
  simp (maxSteps := 1000000) only [En.nN, En.E, En.evsC, List.map_cons, List.map_nil, ne_eq, En.bitN, Nat.testBit, seval] at hv
  simp only [En.at_nil, En.at_cons, En.ag_nil, En.ag_cons, and_true, tlTp, glTj, tyInt, tyU8, tyBool, tyStr, tyErr, tyStrs, tyBytes, tyInts, tyLat, tyI2, tyTy, tyTOrd, tyWith] at hT hG
  have a0 := ha.1; have a1 := ha.2; have b0 := hb.1; have b1 := hb.2
  have h9 : us.length ≤ 100000 := by omega
  simp (maxSteps := 10000000) only [En.E, En.evsC, List.map_cons, List.map_nil, ne_eq, En.bitN, Nat.testBit, seval, En.vV, hs, hv, hT, hG, hF, spIxU_q, byR_q, latU_q, hB, h9]
  exact ⟨⟨a0, a1⟩, ⟨a0, by omega⟩, ⟨b0, b1⟩, b0, by omega⟩
def spTjn : Spc
  | [.agg [.g k A n c, .g j B m d, .v (.int .i64 z)], .v (.int .i64 a), .v (.int .i64 b)], H, _ => .is (latR A n c B m d (H k) (H j) ∧ m ≤ 8 ∧ labB m a = true ∧ labB m b = true) (.v (.int .i64 (jI (latU (H j)) a b)))
  | _, _, _ => .bad
theorem spTjn_q {k n c j m d : Nat} {A B : Option Addr} {a b z : Int} {H : Nat → Ch} {nx : Nat} : spTjn [.agg [.g k A n c, .g j B m d, .v (.int .i64 z)], .v (.int .i64 a), .v (.int .i64 b)] H nx = .is (latR A n c B m d (H k) (H j) ∧ m ≤ 8 ∧ labB m a = true ∧ labB m b = true) (.v (.int .i64 (jI (latU (H j)) a b))) := (rfl)
theorem spTjn_ok : SpecOk Tryz.prog 93 spTjn := by
  intro args hp nx w0 O w H hv
  unfold spTjn at hv ⊢
  split at hv
  · next k A n c j B m d z a b =>
    obtain ⟨hl, h8, ha, hb⟩ := hv
    obtain ⟨x1, x2, x3, x4, x5⟩ := latR_of hl
    have h1 := H.hold k
    have h2 := H.hold j
    rw [x1] at h1
    rw [x2] at h2
    have := tjoin_any (latN (lookH hp k)) (latU (lookH hp j)) A B c d z a b x5 (by omega) (lab_of x4 ha) (lab_of x4 hb) w ⟨⟨h1, rfl⟩, ⟨h2, rfl⟩, trivial⟩
    rw [← x3, ← x4] at this
    refine this.mono ?_
    rintro e w' ⟨rfl, hb⟩
    exact ⟨⟨0, none, 0, none, 0, mz⟩, rfl, .still hb⟩
  · exact hv.elim
def glUp : List (FuncId × Spc) := [(93, spTjn)]
theorem glUp_ok : GOk Tryz.prog (lookG glUp) := lG_cons (by kernel_rfl) spTjn_ok lG_nil
set_option maxRecDepth 100000 in
set_option maxHeartbeats 4000000 in
theorem up_any (ns : List ByteArray) (us : List Int) (A B : Option Addr) (c d : Nat) (z l a : Int) (hB : Bytes us) (h8 : us.length ≤ 8) (hl : lab us l) (ha : lab us a) (w : World) (hg : allRd w.heap.size w [(1001, .strs A c ns), (1002, .ints B d .u8 us)]) :
    Calls Tryz.prog 47 (dens [.agg [.g 1001 A ns.length c, .g 1002 B us.length d, .v (.int .i64 z), .v (.int .i64 l)], .v (.int .i64 a)]).toArray w fun e w' => e = .returned (.int .i64 (jI us a l)) ∧ Below w.heap.size w w' := by
  refine calls_go (args := [.agg [.g 1001 A ns.length c, .g 1002 B us.length d, .v (.int .i64 z), .v (.int .i64 l)], .v (.int .i64 a)]) (hp := [(1001, .strs A c ns), (1002, .ints B d .u8 us)]) (nx := 2000) (n := 600) (U := [(1000000, 17)]) (V := []) (tl := tlTp) (gl := glUp) (post := fun s' ys => ys = [.v (.int .i64 (jI us a l))])
    followP tlTp_ok glUp_ok Tryz.func47 rfl (by kernel_rfl) (Nat.le_of_ble_eq_true (by kernel_rfl)) (by kernel_rfl) (by kernel_rfl) (hh_list hg) (free_list (by simp [allLt])) ?_ ?_
  · rintro s ys w' rfl H
    exact ⟨rfl, H.below⟩
  intro L F T G nd va hE
  obtain ⟨hL, hF, hs, hv, hT, hG, hR, hI, hJ, hW⟩ := hE
  rw [Tryz.results47] at hF
  simp (maxSteps := 1000000) only [En.nN, En.E, En.evsC, List.map_cons, List.map_nil, ne_eq, En.bitN, Nat.testBit, seval] at hv
  simp only [En.at_nil, En.at_cons, En.ag_nil, En.ag_cons, and_true, tlTp, glUp, tyInt, tyU8, tyBool, tyStr, tyErr, tyStrs, tyBytes, tyInts, tyLat, tyI2, tyTy, tyTOrd, tyWith] at hT hG
  have e1 := labB_iff.2 hl
  have e2 := labB_iff.2 ha
  simp (maxSteps := 10000000) only [En.E, En.evsC, List.map_cons, List.map_nil, ne_eq, En.bitN, Nat.testBit, seval, En.vV, hs, hv, hT, hG, hF, spTjn_q, latR_q, latU_q, hB, h8, e1, e2]
def spUp : Spc
  | [.agg [.g k A n c, .g j B m d, .v (.int .i64 z), .v (.int .i64 l)], .v (.int .i64 a)], H, _ => .is (latR A n c B m d (H k) (H j) ∧ m ≤ 8 ∧ labB m l = true ∧ labB m a = true) (.v (.int .i64 (jI (latU (H j)) a l)))
  | _, _, _ => .bad
theorem spUp_q {k n c j m d : Nat} {A B : Option Addr} {a l z : Int} {H : Nat → Ch} {nx : Nat} : spUp [.agg [.g k A n c, .g j B m d, .v (.int .i64 z), .v (.int .i64 l)], .v (.int .i64 a)] H nx = .is (latR A n c B m d (H k) (H j) ∧ m ≤ 8 ∧ labB m l = true ∧ labB m a = true) (.v (.int .i64 (jI (latU (H j)) a l))) := (rfl)
theorem spUp_ok : SpecOk Tryz.prog 47 spUp := by
  intro args hp nx w0 O w H hv
  unfold spUp at hv ⊢
  split at hv
  · next k A n c j B m d z l a =>
    obtain ⟨hl, h8, ha, hb⟩ := hv
    obtain ⟨x1, x2, x3, x4, x5⟩ := latR_of hl
    have h1 := H.hold k
    have h2 := H.hold j
    rw [x1] at h1
    rw [x2] at h2
    have := up_any (latN (lookH hp k)) (latU (lookH hp j)) A B c d z l a x5 (by omega) (lab_of x4 ha) (lab_of x4 hb) w ⟨⟨h1, rfl⟩, ⟨h2, rfl⟩, trivial⟩
    rw [← x3, ← x4] at this
    refine this.mono ?_
    rintro e w' ⟨rfl, hb⟩
    exact ⟨⟨0, none, 0, none, 0, mz⟩, rfl, .still hb⟩
  · exact hv.elim
def tyS (k r a0 a1 d : Int) : List SV := [.v (.int .i64 k), .v (.int .i64 r), .v (.int .i64 a0), .v (.int .i64 a1), .v (.int .i64 d)]
def rz0 (us : List Int) (r a0 l : Int) : Int := bif decide (0 < r) then jI us a0 l else a0
def rz1 (us : List Int) (r a1 l : Int) : Int := bif decide (1 < r) then jI us a1 l else a1
def glEa : List (FuncId × Spc) := [(47, spUp)]
theorem glEa_ok : GOk Tryz.prog (lookG glEa) := lG_cons (by kernel_rfl) spUp_ok lG_nil
set_option maxRecDepth 100000 in
set_option maxHeartbeats 4000000 in
theorem each_any (ns : List ByteArray) (us : List Int) (A B : Option Addr) (c e : Nat) (z l k r a0 a1 d : Int) (hB : Bytes us) (h8 : us.length ≤ 8) (hl : lab us l) (h0 : lab us a0) (h1 : lab us a1) (hd : lab us d) (hr : r = 0 ∨ r = 1 ∨ r = 2) (w : World) (hg : allRd w.heap.size w [(1001, .strs A c ns), (1002, .ints B e .u8 us)]) :
    Calls Tryz.prog 46 (dens [.agg (tyS k r a0 a1 d), .fn (.func 47) [.agg [.g 1001 A ns.length c, .g 1002 B us.length e, .v (.int .i64 z), .v (.int .i64 l)]] []]).toArray w fun e w' => e = .returned (den (.agg (tyS k r (rz0 us r a0 l) (rz1 us r a1 l) (jI us d l)))) ∧ Below w.heap.size w w' := by
  obtain ⟨q0, hq0⟩ : ∃ q, q = rz0 us r a0 l := ⟨_, rfl⟩
  obtain ⟨q1, hq1⟩ : ∃ q, q = rz1 us r a1 l := ⟨_, rfl⟩
  rw [← hq0, ← hq1]
  refine calls_go (args := [.agg (tyS k r a0 a1 d), .fn (.func 47) [.agg [.g 1001 A ns.length c, .g 1002 B us.length e, .v (.int .i64 z), .v (.int .i64 l)]] []]) (hp := [(1001, .strs A c ns), (1002, .ints B e .u8 us)]) (nx := 2000) (n := 600) (U := [(2, 3), (1000000, 22)]) (V := []) (tl := tlTp) (gl := glEa) (post := fun s' ys => ys = [.agg (tyS k r q0 q1 (jI us d l))])
    followP tlTp_ok glEa_ok Tryz.func46 rfl (by kernel_rfl) (Nat.le_of_ble_eq_true (by kernel_rfl)) (by kernel_rfl) (by kernel_rfl) (hh_list hg) (free_list (by simp [allLt])) ?_ ?_
  · rintro s ys w' rfl H
    exact ⟨rfl, H.below⟩
  intro L F T G nd va hE
  obtain ⟨hL, hF, hs, hv, hT, hG, hR, hI, hJ, hW⟩ := hE
  rw [Tryz.results46] at hF
  simp (maxSteps := 1000000) only [En.nN, En.E, En.evsC, List.map_cons, List.map_nil, ne_eq, En.bitN, Nat.testBit, seval] at hv
  simp only [En.at_nil, En.at_cons, En.ag_nil, En.ag_cons, and_true, tlTp, glEa, tyInt, tyU8, tyBool, tyStr, tyErr, tyStrs, tyBytes, tyInts, tyLat, tyI2, tyTy, tyTOrd, tyWith] at hT hG
  have e1 := labB_iff.2 hl
  have e2 := labB_iff.2 h0
  have e3 := labB_iff.2 h1
  have e4 := labB_iff.2 hd
  have i1 : inr .i64 1 := by simp only [En.inr, En.lo, En.hi]; omega
  have i2 : inr .i64 2 := by simp only [En.inr, En.lo, En.hi]; omega
  rcases hr with rfl | rfl | rfl
  · have hq0 : q0 = a0 := hq0
    have hq1 : q1 = a1 := hq1
    simp (maxSteps := 10000000) only [En.E, En.evsC, List.map_cons, List.map_nil, ne_eq, En.bitN, Nat.testBit, seval, En.vV, hs, hv, hT, hG, hF, tyS, spUp_q, latR_q, latU_q, hB, h8, e1, e2, e3, e4, hq0, hq1, i1, i2]
  · have hq0 : q0 = jI us a0 l := hq0
    have hq1 : q1 = a1 := hq1
    simp (maxSteps := 10000000) only [En.E, En.evsC, List.map_cons, List.map_nil, ne_eq, En.bitN, Nat.testBit, seval, En.vV, hs, hv, hT, hG, hF, tyS, spUp_q, latR_q, latU_q, hB, h8, e1, e2, e3, e4, hq0, hq1, i1, i2]
  · have hq0 : q0 = jI us a0 l := hq0
    have hq1 : q1 = jI us a1 l := hq1
    simp (maxSteps := 10000000) only [En.E, En.evsC, List.map_cons, List.map_nil, ne_eq, En.bitN, Nat.testBit, seval, En.vV, hs, hv, hT, hG, hF, tyS, spUp_q, latR_q, latU_q, hB, h8, e1, e2, e3, e4, hq0, hq1, i1, i2]
end Pr
end Go.Proofs.YtnpkmimbnjnicaaGreatDoor
/-
types: check of a type (chapter 20).
-/
set_option linter.unusedSimpArgs false
set_option linter.unusedVariables false
namespace Go.Proofs.YtnpkmimbnjnicaaGreatDoor
namespace Pr
open Go Go.RowKit En
open Lt
def spEach : Spc
  | [.agg [.v (.int .i64 k), .v (.int .i64 r), .v (.int .i64 a0), .v (.int .i64 a1), .v (.int .i64 d)], .fn (.func f) [.agg [.g i A n c, .g j B m e, .v (.int .i64 z), .v (.int .i64 l)]] []], H, _ =>
    .is (f = 47 ∧ latR A n c B m e (H i) (H j) ∧ m ≤ 8 ∧ labB m l = true ∧ labB m a0 = true ∧ labB m a1 = true ∧ labB m d = true ∧ (r = 0 ∨ r = 1 ∨ r = 2)) (.agg (tyS k r (rz0 (latU (H j)) r a0 l) (rz1 (latU (H j)) r a1 l) (jI (latU (H j)) d l)))
  | _, _, _ => .bad
theorem spEach_q {k r a0 a1 d z l : Int} {f : FuncId} {i n c j m e : Nat} {A B : Option Addr} {H : Nat → Ch} {nx : Nat} : spEach [.agg [.v (.int .i64 k), .v (.int .i64 r), .v (.int .i64 a0), .v (.int .i64 a1), .v (.int .i64 d)], .fn (.func f) [.agg [.g i A n c, .g j B m e, .v (.int .i64 z), .v (.int .i64 l)]] []] H nx =
    .is (f = 47 ∧ latR A n c B m e (H i) (H j) ∧ m ≤ 8 ∧ labB m l = true ∧ labB m a0 = true ∧ labB m a1 = true ∧ labB m d = true ∧ (r = 0 ∨ r = 1 ∨ r = 2)) (.agg (tyS k r (rz0 (latU (H j)) r a0 l) (rz1 (latU (H j)) r a1 l) (jI (latU (H j)) d l))) := (rfl)
theorem spEach_ok : SpecOk Tryz.prog 46 spEach := by
  intro args hp nx w0 O w H hv
  unfold spEach at hv ⊢
  split at hv
  · next k r a0 a1 d f i A n c j B m e z l =>
    obtain ⟨rfl, hl, h8, b1, b2, b3, b4, hr⟩ := hv
    obtain ⟨x1, x2, x3, x4, x5⟩ := latR_of hl
    have h1 := H.hold i
    have h2 := H.hold j
    rw [x1] at h1
    rw [x2] at h2
    have := each_any (latN (lookH hp i)) (latU (lookH hp j)) A B c e z l k r a0 a1 d x5 (by omega) (lab_of x4 b1) (lab_of x4 b2) (lab_of x4 b3) (lab_of x4 b4) hr w ⟨⟨h1, rfl⟩, ⟨h2, rfl⟩, trivial⟩
    rw [← x3, ← x4] at this
    refine this.mono ?_
    rintro e w' ⟨rfl, hb⟩
    exact ⟨⟨0, none, 0, none, 0, mz⟩, rfl, .still hb⟩
  · exact hv.elim
def memC (b : Nat) : Ch → Option (List SV)
  | .blk b' cs _ => if b = b' then some cs else none
  | .cst b' 0 cs => if b = b' then some cs else none
  | _ => none
theorem memC_b {b b' : Nat} {cs : List SV} {t : TypeId} : memC b (.blk b' cs t) = if b = b' then some cs else none := (rfl)
theorem memC_c {b b' : Nat} {cs : List SV} : memC b (.cst b' 0 cs) = if b = b' then some cs else none := (rfl)
theorem memC_at {B : Nat} {w : World} {b : Nat} {c : Ch} {cs : List SV} (h : Hold B w c) (hm : memC b c = some cs) : Hold B w (.cst b 0 cs) := by
  unfold memC at hm
  split at hm
  · split at hm
    · next e => cases hm; subst e; exact blk_cells h
    · cases hm
  · split at hm
    · next e => cases hm; subst e; exact h
    · cases hm
  · cases hm
def ordTy (H : Nat → Ch) : Option (List SV) → Option (List SV) → Option (Prop × List Int × Int × Int × Int × Nat)
  | some [.g i A n c, .g j B m e, .v (.int .i64 _)], some [.v (.int .i64 _), .v (.int .i64 _), .v (.int .i64 a0), .v (.int .i64 a1), .v (.int .i64 d)] => some ((latR A n c B m e (H i) (H j) ∧ m ≤ 8), latU (H j), a0, a1, d, m)
  | _, _ => none
def ckA (a : Int) : Option (Prop × List Int × Int × Int × Int × Nat) → Res
  | some (p, us, _, _, d, m) => .is (p ∧ labB m a = true ∧ labB m d = true) (.v (.bool (!leI us a d)))
  | none => .bad
def spCkA : Spc
  | [.v (.int .i64 a), .p k1 b1 0, .p k2 b2 0], H, _ => ckA a (ordTy H (memC b1 (H k1)) (memC b2 (H k2)))
  | _, _, _ => .bad
theorem spCkA_q {a : Int} {k1 b1 k2 b2 : Nat} {H : Nat → Ch} {nx : Nat} : spCkA [.v (.int .i64 a), .p k1 b1 0, .p k2 b2 0] H nx = ckA a (ordTy H (memC b1 (H k1)) (memC b2 (H k2))) := (rfl)
theorem ckA_q {a a0 a1 d : Int} {p : Prop} {us : List Int} {m : Nat} : ckA a (some (p, us, a0, a1, d, m)) = .is (p ∧ labB m a = true ∧ labB m d = true) (.v (.bool (!leI us a d))) := (rfl)
theorem ordTy_q {i n c j m e : Nat} {A B : Option Addr} {z k r a0 a1 d : Int} {H : Nat → Ch} : ordTy H (some [.g i A n c, .g j B m e, .v (.int .i64 z)]) (some [.v (.int .i64 k), .v (.int .i64 r), .v (.int .i64 a0), .v (.int .i64 a1), .v (.int .i64 d)]) = some ((latR A n c B m e (H i) (H j) ∧ m ≤ 8), latU (H j), a0, a1, d, m) := (rfl)
def cxHp (b1 b2 : Nat) (A B : Option Addr) (c e : Nat) (ns : List ByteArray) (us : List Int) (z k r a0 a1 d : Int) : Hp := [(1000, .cst b1 0 [.g 1001 A ns.length c, .g 1002 B us.length e, .v (.int .i64 z)]), (1003, .cst b2 0 (tyS k r a0 a1 d)), (1001, .strs A c ns), (1002, .ints B e .u8 us)]
def glCx : List (FuncId × Spc) := [(92, spTleq)]
theorem glCx_ok : GOk Tryz.prog (lookG glCx) := lG_cons (by kernel_rfl) spTleq_ok lG_nil
set_option maxRecDepth 100000 in
set_option maxHeartbeats 4000000 in
theorem ckA_any (a : Int) (b1 b2 : Nat) (A B : Option Addr) (c e : Nat) (ns : List ByteArray) (us : List Int) (z k r a0 a1 d : Int) (hB : Bytes us) (h8 : us.length ≤ 8) (ha : labB us.length a = true) (hd : labB us.length d = true) (w : World) (hg : allRd w.heap.size w (cxHp b1 b2 A B c e ns us z k r a0 a1 d)) :
    Calls Tryz.prog 91 (dens [.v (.int .i64 a), .p 1000 b1 0, .p 1003 b2 0]).toArray w fun e w' => e = .returned (.bool (!leI us a d)) ∧ Below w.heap.size w w' := by
  refine calls_go (args := [.v (.int .i64 a), .p 1000 b1 0, .p 1003 b2 0]) (hp := cxHp b1 b2 A B c e ns us z k r a0 a1 d) (nx := 2000) (n := 600) (U := [(1000000, 12)]) (V := []) (tl := tlTp) (gl := glCx) (post := fun s' ys => ys = [.v (.bool (!leI us a d))])
    followP tlTp_ok glCx_ok Tryz.func91 rfl (by kernel_rfl) (Nat.le_of_ble_eq_true (by kernel_rfl)) (by kernel_rfl) (by kernel_rfl) (hh_list hg) (free_list (by simp [allLt, cxHp])) ?_ ?_
  · rintro s ys w' rfl H
    exact ⟨rfl, H.below⟩
  intro L F T G nd va hE
  obtain ⟨hL, hF, hs, hv, hT, hG, hR, hI, hJ, hW⟩ := hE
  rw [Tryz.results91] at hF
  simp (maxSteps := 1000000) only [En.nN, En.E, En.evsC, List.map_cons, List.map_nil, ne_eq, En.bitN, Nat.testBit, seval] at hv
  simp only [En.at_nil, En.at_cons, En.ag_nil, En.ag_cons, and_true, tlTp, glCx, tyInt, tyU8, tyBool, tyStr, tyErr, tyStrs, tyBytes, tyInts, tyLat, tyI2, tyTy, tyTOrd, tyWith] at hT hG
  simp (maxSteps := 10000000) only [En.E, En.evsC, List.map_cons, List.map_nil, ne_eq, En.bitN, Nat.testBit, seval, En.vV, hs, hv, hT, hG, hF, cxHp, tyS, spTleq_q, latR_q, latU_q, hB, h8, ha, hd]
theorem ordTy_of {H : Nat → Ch} {x y : Option (List SV)} {p : Prop} {us : List Int} {a0 a1 d : Int} {m : Nat} (h : ordTy H x y = some (p, us, a0, a1, d, m)) : ∃ i A n c j B e z k r, x = some [.g i A n c, .g j B m e, .v (.int .i64 z)] ∧ y = some (tyS k r a0 a1 d) ∧ p = (latR A n c B m e (H i) (H j) ∧ m ≤ 8) ∧ us = latU (H j) := by
  unfold ordTy at h
  split at h
  · simp only [Option.some.injEq, Prod.mk.injEq] at h
    obtain ⟨rfl, rfl, rfl, rfl, rfl, rfl⟩ := h
    exact ⟨_, _, _, _, _, _, _, _, _, _, rfl, rfl, rfl, rfl⟩
  · cases h
theorem cx_rd {O : Nat → Prop} {w0 w : World} {hp : Hp} {k1 b1 k2 b2 : Nat} {p : Prop} {us : List Int} {a0 a1 d : Int} {m : Nat} (H : HH w0 O hp w) (h : ordTy (lookH hp) (memC b1 (lookH hp k1)) (memC b2 (lookH hp k2)) = some (p, us, a0, a1, d, m)) (hp' : p) :
    ∃ A B c e ns z k r, Bytes us ∧ m = us.length ∧ us.length ≤ 8 ∧ allRd w.heap.size w (cxHp b1 b2 A B c e ns us z k r a0 a1 d) := by
  obtain ⟨i, A, n, c, j, B, e, z, k, r, e1, e2, rfl, rfl⟩ := ordTy_of h
  obtain ⟨hl, h8⟩ := hp'
  obtain ⟨x1, x2, x3, x4, x5⟩ := latR_of hl
  have h1 := H.hold i
  have h2 := H.hold j
  rw [x1] at h1
  rw [x2] at h2
  have m1 := memC_at (H.hold k1) e1
  have m2 := memC_at (H.hold k2) e2
  subst x3; subst x4
  exact ⟨A, B, c, e, _, z, k, r, x5, rfl, h8, ⟨m1, rfl⟩, ⟨m2, rfl⟩, ⟨h1, rfl⟩, ⟨h2, rfl⟩, trivial⟩
theorem spCkA_ok : SpecOk Tryz.prog 91 spCkA := by
  intro args hp nx w0 O w H hv
  unfold spCkA at hv ⊢
  split at hv
  · next a k1 b1 k2 b2 =>
    cases ho : ordTy (lookH hp) (memC b1 (lookH hp k1)) (memC b2 (lookH hp k2)) with
    | none => rw [ho] at hv; exact hv.elim
    | some x =>
      obtain ⟨p, us, a0, a1, d, m⟩ := x
      rw [ho] at hv
      obtain ⟨hp', ha, hd⟩ := hv
      obtain ⟨A, B, c, e, ns, z, k, r, hB, rfl, h8, hr⟩ := cx_rd H ho hp'
      refine (ckA_any a b1 b2 A B c e ns us z k r a0 a1 d hB h8 ha hd w hr).mono ?_
      rintro e w' ⟨rfl, hb⟩
      exact ⟨⟨0, none, 0, none, 0, mz⟩, rfl, .still hb⟩
  · exact hv.elim
def axL (n : Nat) (a0 a1 : Int) : List Int := (match n with | 0 => [] | 1 => [a0] | _ => [a0, a1])
def ixA (us : List Int) (d : Int) : Int → List Int → Int
  | _, [] => -1
  | i, a :: l => bif !leI us a d then i else ixA us d (i + 1) l
def ixAR (n : Nat) : Option (Prop × List Int × Int × Int × Int × Nat) → Res
  | some (p, us, a0, a1, d, m) => .is (p ∧ n ≤ 2 ∧ labB m a0 = true ∧ labB m a1 = true ∧ labB m d = true) (.v (.int .i64 (ixA us d 0 (axL n a0 a1))))
  | none => .bad
def spIxA : Spc
  | [.gp k b 2 n c, .fn (.func f) [] [.p k1 b1 0, .p k2 b2 0]], H, _ => bif f == 91 && k == k2 && b == b2 && decide (n ≤ c) then ixAR n (ordTy H (memC b1 (H k1)) (memC b2 (H k2))) else .bad
  | _, _, _ => .bad
theorem spIxA_q {f : FuncId} {k b n c k1 b1 k2 b2 : Nat} {H : Nat → Ch} {nx : Nat} : spIxA [.gp k b 2 n c, .fn (.func f) [] [.p k1 b1 0, .p k2 b2 0]] H nx = bif f == 91 && k == k2 && b == b2 && decide (n ≤ c) then ixAR n (ordTy H (memC b1 (H k1)) (memC b2 (H k2))) else .bad := (rfl)
theorem ixAR_q {n : Nat} {a0 a1 d : Int} {p : Prop} {us : List Int} {m : Nat} : ixAR n (some (p, us, a0, a1, d, m)) = .is (p ∧ n ≤ 2 ∧ labB m a0 = true ∧ labB m a1 = true ∧ labB m d = true) (.v (.int .i64 (ixA us d 0 (axL n a0 a1)))) := (rfl)
def glIa : List (FuncId × Spc) := [(91, spCkA)]
theorem glIa_ok : GOk Tryz.prog (lookG glIa) := lG_cons (by kernel_rfl) spCkA_ok lG_nil
set_option maxRecDepth 100000 in
set_option maxHeartbeats 4000000 in
theorem ixA_any (n cc : Nat) (hn : n ≤ 2) (b1 b2 : Nat) (A B : Option Addr) (c e : Nat) (ns : List ByteArray) (us : List Int) (z k r a0 a1 d : Int) (hB : Bytes us) (h8 : us.length ≤ 8) (h0 : labB us.length a0 = true) (h1 : labB us.length a1 = true) (hd : labB us.length d = true) (w : World) (hg : allRd w.heap.size w (cxHp b1 b2 A B c e ns us z k r a0 a1 d)) :
    Calls Tryz.prog 120 (dens [.gp 1003 b2 2 n cc, .fn (.func 91) [] [.p 1000 b1 0, .p 1003 b2 0]]).toArray w fun e w' => e = .returned (.int .i64 (ixA us d 0 (axL n a0 a1))) ∧ Below w.heap.size w w' := by
  obtain ⟨q, hq⟩ : ∃ q, q = ixA us d 0 (axL n a0 a1) := ⟨_, rfl⟩
  rw [← hq]
  refine calls_go (args := [.gp 1003 b2 2 n cc, .fn (.func 91) [] [.p 1000 b1 0, .p 1003 b2 0]]) (hp := cxHp b1 b2 A B c e ns us z k r a0 a1 d) (nx := 2000) (n := 600) (U := [(2, 3), (1000000, 9)]) (V := []) (tl := tlTp) (gl := glIa) (post := fun s' ys => ys = [.v (.int .i64 q)])
    followP tlTp_ok glIa_ok Tryz.func120 rfl (by kernel_rfl) (Nat.le_of_ble_eq_true (by kernel_rfl)) (by kernel_rfl) (by kernel_rfl) (hh_list hg) (free_list (by simp [allLt, cxHp])) ?_ ?_
  · rintro s ys w' rfl H
    exact ⟨rfl, H.below⟩
  intro L F T G nd va hE
  obtain ⟨hL, hF, hs, hv, hT, hG, hR, hI, hJ, hW⟩ := hE
  rw [Tryz.results120] at hF
  simp (maxSteps := 1000000) only [En.nN, En.E, En.evsC, List.map_cons, List.map_nil, ne_eq, En.bitN, Nat.testBit, seval] at hv
  simp only [En.at_nil, En.at_cons, En.ag_nil, En.ag_cons, and_true, tlTp, glIa, tyInt, tyU8, tyBool, tyStr, tyErr, tyStrs, tyBytes, tyInts, tyLat, tyI2, tyTy, tyTOrd, tyWith] at hT hG
  have i1 : inr .i64 1 := by simp only [En.inr, En.lo, En.hi]; omega
  have i2 : inr .i64 2 := by simp only [En.inr, En.lo, En.hi]; omega
  match n, hn with
  | 0, _ =>
    have hq : q = -1 := hq
    simp (maxSteps := 10000000) only [En.E, En.evsC, List.map_cons, List.map_nil, ne_eq, En.bitN, Nat.testBit, seval, En.vV, hs, hv, hT, hG, hF, cxHp, tyS, spCkA_q, memC_c, if_true, ordTy_q, ckA_q, latR_q, latU_q, hB, h8, h0, h1, hd, hq, i1, i2, Int.cast_ofNat_Int]
  | 1, _ =>
    have hq : q = bif !leI us a0 d then 0 else -1 := hq
    cases e1 : leI us a0 d <;> rw [e1] at hq
    · simp (maxSteps := 10000000) only [En.E, En.evsC, List.map_cons, List.map_nil, ne_eq, En.bitN, Nat.testBit, seval, En.vV, hs, hv, hT, hG, hF, cxHp, tyS, spCkA_q, memC_c, if_true, ordTy_q, ckA_q, latR_q, latU_q, hB, h8, h0, h1, hd, hq, e1, i1, i2, Int.cast_ofNat_Int]
    · simp (maxSteps := 10000000) only [En.E, En.evsC, List.map_cons, List.map_nil, ne_eq, En.bitN, Nat.testBit, seval, En.vV, hs, hv, hT, hG, hF, cxHp, tyS, spCkA_q, memC_c, if_true, ordTy_q, ckA_q, latR_q, latU_q, hB, h8, h0, h1, hd, hq, e1, i1, i2, Int.cast_ofNat_Int]
  | 2, _ =>
    have hq : q = bif !leI us a0 d then 0 else bif !leI us a1 d then 1 else -1 := hq
    cases e1 : leI us a0 d <;> rw [e1] at hq
    · simp (maxSteps := 10000000) only [En.E, En.evsC, List.map_cons, List.map_nil, ne_eq, En.bitN, Nat.testBit, seval, En.vV, hs, hv, hT, hG, hF, cxHp, tyS, spCkA_q, memC_c, if_true, ordTy_q, ckA_q, latR_q, latU_q, hB, h8, h0, h1, hd, hq, e1, i1, i2, Int.cast_ofNat_Int]
    · cases e2 : leI us a1 d <;> rw [e2] at hq
      · simp (maxSteps := 10000000) only [En.E, En.evsC, List.map_cons, List.map_nil, ne_eq, En.bitN, Nat.testBit, seval, En.vV, hs, hv, hT, hG, hF, cxHp, tyS, spCkA_q, memC_c, if_true, ordTy_q, ckA_q, latR_q, latU_q, hB, h8, h0, h1, hd, hq, e1, e2, i1, i2, Int.cast_ofNat_Int]
      · simp (maxSteps := 10000000) only [En.E, En.evsC, List.map_cons, List.map_nil, ne_eq, En.bitN, Nat.testBit, seval, En.vV, hs, hv, hT, hG, hF, cxHp, tyS, spCkA_q, memC_c, if_true, ordTy_q, ckA_q, latR_q, latU_q, hB, h8, h0, h1, hd, hq, e1, e2, i1, i2, Int.cast_ofNat_Int]
theorem spIxA_ok : SpecOk Tryz.prog 120 spIxA := by
  intro args hp nx w0 O w H hv
  unfold spIxA at hv ⊢
  split at hv
  · next k b n c f k1 b1 k2 b2 =>
    cases hc : (f == 91 && k == k2 && b == b2 && decide (n ≤ c)) with
    | false => rw [hc] at hv; exact hv.elim
    | true =>
      rw [hc] at hv
      simp only [cond_true] at hv ⊢
      simp only [Bool.and_eq_true, beq_iff_eq, decide_eq_true_eq] at hc
      obtain ⟨⟨⟨rfl, rfl⟩, rfl⟩, hnc⟩ := hc
      cases ho : ordTy (lookH hp) (memC b1 (lookH hp k1)) (memC b (lookH hp k)) with
      | none => rw [ho] at hv; exact hv.elim
      | some x =>
        obtain ⟨p, us, a0, a1, d, m⟩ := x
        rw [ho] at hv
        obtain ⟨hp', hn, h0, h1, hd⟩ := hv
        obtain ⟨A, B, cc, e, ns, z, kk, r, hB, rfl, h8, hr⟩ := cx_rd H ho hp'
        refine (ixA_any n c hn b1 b A B cc e ns us z kk r a0 a1 d hB h8 h0 h1 hd w hr).mono ?_
        rintro e w' ⟨rfl, hb⟩
        exact ⟨⟨0, none, 0, none, 0, mz⟩, rfl, .still hb⟩
  · exact hv.elim
def coA (us : List Int) (n : Nat) (a0 a1 d : Int) : Bool := decide (0 ≤ ixA us d 0 (axL n a0 a1))
def coAR (n : Nat) : Option (Prop × List Int × Int × Int × Int × Nat) → Res
  | some (p, us, a0, a1, d, m) => .is (p ∧ n ≤ 2 ∧ labB m a0 = true ∧ labB m a1 = true ∧ labB m d = true) (.v (.bool (coA us n a0 a1 d)))
  | none => .bad
def spCoA : Spc
  | [.gp k b 2 n c, .fn (.func f) [] [.p k1 b1 0, .p k2 b2 0]], H, _ => bif f == 91 && k == k2 && b == b2 && decide (n ≤ c) then coAR n (ordTy H (memC b1 (H k1)) (memC b2 (H k2))) else .bad
  | _, _, _ => .bad
theorem spCoA_q {f : FuncId} {k b n c k1 b1 k2 b2 : Nat} {H : Nat → Ch} {nx : Nat} : spCoA [.gp k b 2 n c, .fn (.func f) [] [.p k1 b1 0, .p k2 b2 0]] H nx = bif f == 91 && k == k2 && b == b2 && decide (n ≤ c) then coAR n (ordTy H (memC b1 (H k1)) (memC b2 (H k2))) else .bad := (rfl)
theorem coAR_q {n : Nat} {a0 a1 d : Int} {p : Prop} {us : List Int} {m : Nat} : coAR n (some (p, us, a0, a1, d, m)) = .is (p ∧ n ≤ 2 ∧ labB m a0 = true ∧ labB m a1 = true ∧ labB m d = true) (.v (.bool (coA us n a0 a1 d))) := (rfl)
def glCa : List (FuncId × Spc) := [(120, spIxA)]
theorem glCa_ok : GOk Tryz.prog (lookG glCa) := lG_cons (by kernel_rfl) spIxA_ok lG_nil
set_option maxRecDepth 100000 in
set_option maxHeartbeats 4000000 in
theorem coA_any (n cc : Nat) (hn : n ≤ 2) (hc : n ≤ cc) (b1 b2 : Nat) (A B : Option Addr) (c e : Nat) (ns : List ByteArray) (us : List Int) (z k r a0 a1 d : Int) (hB : Bytes us) (h8 : us.length ≤ 8) (h0 : labB us.length a0 = true) (h1 : labB us.length a1 = true) (hd : labB us.length d = true) (w : World) (hg : allRd w.heap.size w (cxHp b1 b2 A B c e ns us z k r a0 a1 d)) :
    Calls Tryz.prog 90 (dens [.gp 1003 b2 2 n cc, .fn (.func 91) [] [.p 1000 b1 0, .p 1003 b2 0]]).toArray w fun e w' => e = .returned (.bool (coA us n a0 a1 d)) ∧ Below w.heap.size w w' := by
  refine calls_go (args := [.gp 1003 b2 2 n cc, .fn (.func 91) [] [.p 1000 b1 0, .p 1003 b2 0]]) (hp := cxHp b1 b2 A B c e ns us z k r a0 a1 d) (nx := 2000) (n := 600) (U := [(1000000, 9)]) (V := []) (tl := tlTp) (gl := glCa) (post := fun s' ys => ys = [.v (.bool (decide (0 ≤ ixA us d 0 (axL n a0 a1))))])
    followP tlTp_ok glCa_ok Tryz.func90 rfl (by kernel_rfl) (Nat.le_of_ble_eq_true (by kernel_rfl)) (by kernel_rfl) (by kernel_rfl) (hh_list hg) (free_list (by simp [allLt, cxHp])) ?_ ?_
  · rintro s ys w' rfl H
    exact ⟨rfl, H.below⟩
  intro L F T G nd va hE
  obtain ⟨hL, hF, hs, hv, hT, hG, hR, hI, hJ, hW⟩ := hE
  rw [Tryz.results90] at hF
  simp (maxSteps := 1000000) only [En.nN, En.E, En.evsC, List.map_cons, List.map_nil, ne_eq, En.bitN, Nat.testBit, seval] at hv
  simp only [En.at_nil, En.at_cons, En.ag_nil, En.ag_cons, and_true, tlTp, glCa, tyInt, tyU8, tyBool, tyStr, tyErr, tyStrs, tyBytes, tyInts, tyLat, tyI2, tyTy, tyTOrd, tyWith] at hT hG
  have hc' := decide_eq_true hc
  simp (maxSteps := 10000000) only [En.E, En.evsC, List.map_cons, List.map_nil, ne_eq, En.bitN, Nat.testBit, seval, En.vV, hs, hv, hT, hG, hF, cxHp, tyS, spIxA_q, memC_c, if_true, ordTy_q, ixAR_q, latR_q, latU_q, hB, h8, h0, h1, hd, hn, hc', beq_self_eq_true, Bool.and_self]
theorem spCoA_ok : SpecOk Tryz.prog 90 spCoA := by
  intro args hp nx w0 O w H hv
  unfold spCoA at hv ⊢
  split at hv
  · next k b n c f k1 b1 k2 b2 =>
    cases hc : (f == 91 && k == k2 && b == b2 && decide (n ≤ c)) with
    | false => rw [hc] at hv; exact hv.elim
    | true =>
      rw [hc] at hv
      simp only [cond_true] at hv ⊢
      simp only [Bool.and_eq_true, beq_iff_eq, decide_eq_true_eq] at hc
      obtain ⟨⟨⟨rfl, rfl⟩, rfl⟩, hnc⟩ := hc
      cases ho : ordTy (lookH hp) (memC b1 (lookH hp k1)) (memC b (lookH hp k)) with
      | none => rw [ho] at hv; exact hv.elim
      | some x =>
        obtain ⟨p, us, a0, a1, d, m⟩ := x
        rw [ho] at hv
        obtain ⟨hp', hn, h0, h1, hd⟩ := hv
        obtain ⟨A, B, cc, e, ns, z, kk, r, hB, rfl, h8, hr⟩ := cx_rd H ho hp'
        refine (coA_any n c hn hnc b1 b A B cc e ns us z kk r a0 a1 d hB h8 h0 h1 hd w hr).mono ?_
        rintro e w' ⟨rfl, hb⟩
        exact ⟨⟨0, none, 0, none, 0, mz⟩, rfl, .still hb⟩
  · exact hv.elim
end Pr
end Go.Proofs.YtnpkmimbnjnicaaGreatDoor
/-
types: check of a type; Check (chapter 20).
-/
set_option linter.unusedSimpArgs false
set_option linter.unusedVariables false
namespace Go.Proofs.YtnpkmimbnjnicaaGreatDoor
namespace Pr
open Go Go.RowKit En
open Lt
def goodR (us : List Int) (r a0 a1 d : Int) : Int := bif r == 0 then (bif (bif botI us == a0 then botI us == a1 else false) then 0 else 6) else bif r == 1 then (bif botI us == a1 then (bif leI us a0 d then 0 else 25) else 6) else (bif leI us a0 d then (bif leI us a1 d then 0 else 25) else 25)
def goodV (us : List Int) (k r a0 a1 d : Int) : Int :=
  bif (bif k != 1 then k != 2 else false) then 7 else bif decide (r < 0) then 7 else bif decide (2 < r) then 7 else
  bif labB us.length a0 then (bif labB us.length a1 then (bif labB us.length d then goodR us r a0 a1 d else 7) else 7) else 7
def glCt : List (FuncId × Spc) := [(45, spLab), (90, spCoA)]
theorem glCt_ok : GOk Tryz.prog (lookG glCt) := lG_cons (by kernel_rfl) spLab_ok <| lG_cons (by kernel_rfl) spCoA_ok lG_nil
theorem coA0 {us : List Int} {a0 a1 d : Int} : coA us 0 a0 a1 d = false := (rfl)
theorem coA1 {us : List Int} {a0 a1 d : Int} : coA us 1 a0 a1 d = !leI us a0 d := by
  show decide (0 ≤ (bif !leI us a0 d then (0 : Int) else -1)) = _
  cases leI us a0 d <;> rfl
theorem coA2 {us : List Int} {a0 a1 d : Int} : coA us 2 a0 a1 d = bif leI us a0 d then !leI us a1 d else true := by
  show decide (0 ≤ (bif !leI us a0 d then (0 : Int) else bif !leI us a1 d then 0 + 1 else -1)) = _
  cases leI us a0 d <;> cases leI us a1 d <;> rfl
set_option maxRecDepth 100000 in
set_option maxHeartbeats 8000000 in
theorem tcheck_any (ns : List ByteArray) (us : List Int) (A B : Option Addr) (c e : Nat) (k r a0 a1 d : Int) (hB : Bytes us) (hl : us.length = ns.length) (h8 : us.length ≤ 8) (w : World) (hg : allRd w.heap.size w [(1001, .strs A c ns), (1002, .ints B e .u8 us)]) :
    Calls Tryz.prog 44 (dens [.agg [.g 1001 A ns.length c, .g 1002 B us.length e, .v (.int .i64 (botI us))], .agg (tyS k r a0 a1 d)]).toArray w fun e w' => e = .returned (.int .i64 (goodV us k r a0 a1 d)) ∧ Below w.heap.size w w' := by
  obtain ⟨q, hq⟩ : ∃ q, q = goodV us k r a0 a1 d := ⟨_, rfl⟩
  rw [← hq]
  refine calls_go (args := [.agg [.g 1001 A ns.length c, .g 1002 B us.length e, .v (.int .i64 (botI us))], .agg (tyS k r a0 a1 d)]) (hp := [(1001, .strs A c ns), (1002, .ints B e .u8 us)]) (nx := 2000) (n := 600) (U := [(1000000, 7)]) (V := []) (tl := tlTp) (gl := glCt) (post := fun s' ys => ys = [.v (.int .i64 q)])
    followP tlTp_ok glCt_ok Tryz.func44 rfl (by kernel_rfl) (Nat.le_of_ble_eq_true (by kernel_rfl)) (by kernel_rfl) (by kernel_rfl) (hh_list hg) (free_list (by simp [allLt])) ?_ ?_
  · rintro s ys w' rfl H
    exact ⟨rfl, H.below⟩
  intro L F T G nd va hE
  obtain ⟨hL, hF, hs, hv, hT, hG, hR, hI, hJ, hW⟩ := hE
  rw [Tryz.results44] at hF
  simp (maxSteps := 1000000) only [En.nN, En.E, En.evsC, List.map_cons, List.map_nil, ne_eq, En.bitN, Nat.testBit, seval] at hv
  simp only [En.at_nil, En.at_cons, En.ag_nil, En.ag_cons, and_true, tlTp, glCt, tyInt, tyU8, tyBool, tyStr, tyErr, tyStrs, tyBytes, tyInts, tyLat, tyI2, tyTy, tyTOrd, tyWith] at hT hG
  unfold goodV at hq
  cases h1 : (bif k != 1 then k != 2 else false) <;> rw [h1] at hq
  · cases h2 : decide (r < 0) <;> rw [h2] at hq
    · cases h3 : decide (2 < r) <;> rw [h3] at hq
      · have hr : r = 0 ∨ r = 1 ∨ r = 2 := by
          have := of_decide_eq_false h2
          have := of_decide_eq_false h3
          omega
        cases h4 : labB us.length a0 <;> rw [h4] at hq
        · simp (maxSteps := 10000000) only [En.E, En.evsC, List.map_cons, List.map_nil, ne_eq, En.bitN, Nat.testBit, seval, En.vV, hs, hv, hT, hG, hF, tyS, h1, h2, h3, spLab_q, ← hl, h4, hq]
        · cases h5 : labB us.length a1 <;> rw [h5] at hq
          · simp (maxSteps := 10000000) only [En.E, En.evsC, List.map_cons, List.map_nil, ne_eq, En.bitN, Nat.testBit, seval, En.vV, hs, hv, hT, hG, hF, tyS, h1, h2, h3, spLab_q, ← hl, h4, h5, hq]
          · cases h6 : labB us.length d <;> rw [h6] at hq
            · simp (maxSteps := 10000000) only [En.E, En.evsC, List.map_cons, List.map_nil, ne_eq, En.bitN, Nat.testBit, seval, En.vV, hs, hv, hT, hG, hF, tyS, h1, h2, h3, spLab_q, ← hl, h4, h5, h6, hq]
            · have hq : q = goodR us r a0 a1 d := hq
              rcases hr with rfl | rfl | rfl
              · cases e0 : (botI us == a0)
                · have hq : q = 6 := by rw [hq]; unfold goodR; rw [e0]; rfl
                  simp (maxSteps := 10000000) only [En.E, En.evsC, List.map_cons, List.map_nil, ne_eq, En.bitN, Nat.testBit, seval, En.vV, hs, hv, hT, hG, hF, tyS, h1, spLab_q, ← hl, h4, h5, h6, spCoA_q, memC_b, if_true, ordTy_q, coAR_q, coA0, coA1, coA2, latR_q, latU_q, hB, eq_true hl, h8, beq_self_eq_true, Bool.and_self, decide_true, Nat.zero_le, e0, hq]
                · cases e1 : (botI us == a1)
                  · have hq : q = 6 := by rw [hq]; unfold goodR; rw [e0, e1]; rfl
                    simp (maxSteps := 10000000) only [En.E, En.evsC, List.map_cons, List.map_nil, ne_eq, En.bitN, Nat.testBit, seval, En.vV, hs, hv, hT, hG, hF, tyS, h1, spLab_q, ← hl, h4, h5, h6, spCoA_q, memC_b, if_true, ordTy_q, coAR_q, coA0, coA1, coA2, latR_q, latU_q, hB, eq_true hl, h8, beq_self_eq_true, Bool.and_self, decide_true, Nat.zero_le, e0, e1, hq]
                  · have hq : q = 0 := by rw [hq]; unfold goodR; rw [e0, e1]; rfl
                    simp (maxSteps := 10000000) only [En.E, En.evsC, List.map_cons, List.map_nil, ne_eq, En.bitN, Nat.testBit, seval, En.vV, hs, hv, hT, hG, hF, tyS, h1, spLab_q, ← hl, h4, h5, h6, spCoA_q, memC_b, if_true, ordTy_q, coAR_q, coA0, coA1, coA2, latR_q, latU_q, hB, eq_true hl, h8, beq_self_eq_true, Bool.and_self, decide_true, Nat.zero_le, e0, e1, hq]
              · cases e1 : (botI us == a1)
                · have hq : q = 6 := by rw [hq]; unfold goodR; rw [e1]; rfl
                  simp (maxSteps := 10000000) only [En.E, En.evsC, List.map_cons, List.map_nil, ne_eq, En.bitN, Nat.testBit, seval, En.vV, hs, hv, hT, hG, hF, tyS, h1, spLab_q, ← hl, h4, h5, h6, spCoA_q, memC_b, if_true, ordTy_q, coAR_q, coA0, coA1, coA2, latR_q, latU_q, hB, eq_true hl, h8, beq_self_eq_true, Bool.and_self, decide_true, Nat.zero_le, e1, hq]
                · cases e2 : leI us a0 d
                  · have hq : q = 25 := by rw [hq]; unfold goodR; rw [e1, e2]; rfl
                    simp (maxSteps := 10000000) only [En.E, En.evsC, List.map_cons, List.map_nil, ne_eq, En.bitN, Nat.testBit, seval, En.vV, hs, hv, hT, hG, hF, tyS, h1, spLab_q, ← hl, h4, h5, h6, spCoA_q, memC_b, if_true, ordTy_q, coAR_q, coA0, coA1, coA2, latR_q, latU_q, hB, eq_true hl, h8, beq_self_eq_true, Bool.and_self, decide_true, Nat.zero_le, e1, e2, hq]
                  · have hq : q = 0 := by rw [hq]; unfold goodR; rw [e1, e2]; rfl
                    simp (maxSteps := 10000000) only [En.E, En.evsC, List.map_cons, List.map_nil, ne_eq, En.bitN, Nat.testBit, seval, En.vV, hs, hv, hT, hG, hF, tyS, h1, spLab_q, ← hl, h4, h5, h6, spCoA_q, memC_b, if_true, ordTy_q, coAR_q, coA0, coA1, coA2, latR_q, latU_q, hB, eq_true hl, h8, beq_self_eq_true, Bool.and_self, decide_true, Nat.zero_le, e1, e2, hq]
              · cases e2 : leI us a0 d
                · have hq : q = 25 := by rw [hq]; unfold goodR; rw [e2]; rfl
                  simp (maxSteps := 10000000) only [En.E, En.evsC, List.map_cons, List.map_nil, ne_eq, En.bitN, Nat.testBit, seval, En.vV, hs, hv, hT, hG, hF, tyS, h1, spLab_q, ← hl, h4, h5, h6, spCoA_q, memC_b, if_true, ordTy_q, coAR_q, coA0, coA1, coA2, latR_q, latU_q, hB, eq_true hl, h8, beq_self_eq_true, Bool.and_self, decide_true, Nat.zero_le, e2, hq]
                · cases e3 : leI us a1 d
                  · have hq : q = 25 := by rw [hq]; unfold goodR; rw [e2, e3]; rfl
                    simp (maxSteps := 10000000) only [En.E, En.evsC, List.map_cons, List.map_nil, ne_eq, En.bitN, Nat.testBit, seval, En.vV, hs, hv, hT, hG, hF, tyS, h1, spLab_q, ← hl, h4, h5, h6, spCoA_q, memC_b, if_true, ordTy_q, coAR_q, coA0, coA1, coA2, latR_q, latU_q, hB, eq_true hl, h8, beq_self_eq_true, Bool.and_self, decide_true, Nat.zero_le, e2, e3, hq]
                  · have hq : q = 0 := by rw [hq]; unfold goodR; rw [e2, e3]; rfl
                    simp (maxSteps := 10000000) only [En.E, En.evsC, List.map_cons, List.map_nil, ne_eq, En.bitN, Nat.testBit, seval, En.vV, hs, hv, hT, hG, hF, tyS, h1, spLab_q, ← hl, h4, h5, h6, spCoA_q, memC_b, if_true, ordTy_q, coAR_q, coA0, coA1, coA2, latR_q, latU_q, hB, eq_true hl, h8, beq_self_eq_true, Bool.and_self, decide_true, Nat.zero_le, e2, e3, hq]
      · simp (maxSteps := 10000000) only [En.E, En.evsC, List.map_cons, List.map_nil, ne_eq, En.bitN, Nat.testBit, seval, En.vV, hs, hv, hT, hG, hF, tyS, h1, h2, h3, hq]
    · simp (maxSteps := 10000000) only [En.E, En.evsC, List.map_cons, List.map_nil, ne_eq, En.bitN, Nat.testBit, seval, En.vV, hs, hv, hT, hG, hF, tyS, h1, h2, hq]
  · simp (maxSteps := 10000000) only [En.E, En.evsC, List.map_cons, List.map_nil, ne_eq, En.bitN, Nat.testBit, seval, En.vV, hs, hv, hT, hG, hF, tyS, h1, hq]
def spTck : Spc
  | [.agg [.g i A n c, .g j B m e, .v (.int .i64 z)], .agg [.v (.int .i64 k), .v (.int .i64 r), .v (.int .i64 a0), .v (.int .i64 a1), .v (.int .i64 d)]], H, _ => .is (latR A n c B m e (H i) (H j) ∧ m = n ∧ m ≤ 8 ∧ z = botI (latU (H j))) (.v (.int .i64 (goodV (latU (H j)) k r a0 a1 d)))
  | _, _, _ => .bad
theorem spTck_q {i n c j m e : Nat} {A B : Option Addr} {z k r a0 a1 d : Int} {H : Nat → Ch} {nx : Nat} : spTck [.agg [.g i A n c, .g j B m e, .v (.int .i64 z)], .agg [.v (.int .i64 k), .v (.int .i64 r), .v (.int .i64 a0), .v (.int .i64 a1), .v (.int .i64 d)]] H nx = .is (latR A n c B m e (H i) (H j) ∧ m = n ∧ m ≤ 8 ∧ z = botI (latU (H j))) (.v (.int .i64 (goodV (latU (H j)) k r a0 a1 d))) := (rfl)
theorem spTck_ok : SpecOk Tryz.prog 44 spTck := by
  intro args hp nx w0 O w H hv
  unfold spTck at hv ⊢
  split at hv
  · next i A n c j B m e z k r a0 a1 d =>
    obtain ⟨hl, hmn, h8, rfl⟩ := hv
    obtain ⟨x1, x2, x3, x4, x5⟩ := latR_of hl
    have h1 := H.hold i
    have h2 := H.hold j
    rw [x1] at h1
    rw [x2] at h2
    have := tcheck_any (latN (lookH hp i)) (latU (lookH hp j)) A B c e k r a0 a1 d x5 (by omega) (by omega) w ⟨⟨h1, rfl⟩, ⟨h2, rfl⟩, trivial⟩
    rw [← x3, ← x4] at this
    refine this.mono ?_
    rintro e w' ⟨rfl, hb⟩
    exact ⟨⟨0, none, 0, none, 0, mz⟩, rfl, .still hb⟩
  · exact hv.elim
def tckV (ns : List ByteArray) (us : List Int) (k r a0 a1 d : Int) : Int := bif (chkV nmV ns us).2 != 0 then (chkV nmV ns us).2 else goodV us k r a0 a1 d
theorem tckV_no {ns : List ByteArray} {us : List Int} {k r a0 a1 d : Int} (h : ((chkV nmV ns us).2 != 0) = true) : tckV ns us k r a0 a1 d = (chkV nmV ns us).2 := by unfold tckV; rw [h]; rfl
theorem tckV_yes {ns : List ByteArray} {us : List Int} {k r a0 a1 d : Int} (h : (chkV nmV ns us).2 = 0) : tckV ns us k r a0 a1 d = goodV us k r a0 a1 d := by unfold tckV; rw [h]; rfl
def glTc : List (FuncId × Spc) := [(43, spTof), (44, spTck)]
theorem glTc_ok : GOk Tryz.prog (lookG glTc) := lG_cons (by kernel_rfl) spTof_ok <| lG_cons (by kernel_rfl) spTck_ok lG_nil
set_option maxRecDepth 100000 in
set_option maxHeartbeats 8000000 in
theorem tyCheck_any (ns : List ByteArray) (us : List Int) (A B : Option Addr) (c e : Nat) (k r a0 a1 d : Int) (hB : Bytes us) (w : World) (hg : allRd w.heap.size w [(1001, .strs A c ns), (1002, .ints B e .u8 us)]) :
    Calls Tryz.prog 23 (dens [.agg [.g 1001 A ns.length c, .g 1002 B us.length e], .agg (tyS k r a0 a1 d)]).toArray w fun e w' => e = .returned (.int .i64 (tckV ns us k r a0 a1 d)) ∧ Below w.heap.size w w' := by
  obtain ⟨q, hq⟩ : ∃ q, q = tckV ns us k r a0 a1 d := ⟨_, rfl⟩
  rw [← hq]
  refine calls_go (args := [.agg [.g 1001 A ns.length c, .g 1002 B us.length e], .agg (tyS k r a0 a1 d)]) (hp := [(1001, .strs A c ns), (1002, .ints B e .u8 us)]) (nx := 2000) (n := 600) (U := [(1000000, 8)]) (V := []) (tl := tlTp) (gl := glTc) (post := fun s' ys => ys = [.v (.int .i64 q)])
    followP tlTp_ok glTc_ok Tryz.func23 rfl (by kernel_rfl) (Nat.le_of_ble_eq_true (by kernel_rfl)) (by kernel_rfl) (by kernel_rfl) (hh_list hg) (free_list (by simp [allLt])) ?_ ?_
  · rintro s ys w' rfl H
    exact ⟨rfl, H.below⟩
  intro L F T G nd va hE
  obtain ⟨hL, hF, hs, hv, hT, hG, hR, hI, hJ, hW⟩ := hE
  rw [Tryz.results23] at hF
  simp (maxSteps := 1000000) only [En.nN, En.E, En.evsC, List.map_cons, List.map_nil, ne_eq, En.bitN, Nat.testBit, seval] at hv
  simp only [En.at_nil, En.at_cons, En.ag_nil, En.ag_cons, and_true, tlTp, glTc, tyInt, tyU8, tyBool, tyStr, tyErr, tyStrs, tyBytes, tyInts, tyLat, tyI2, tyTy, tyTOrd, tyWith] at hT hG
  cases h1 : ((chkV nmV ns us).2 != 0)
  · have h0 : (chkV nmV ns us).2 = 0 := by simpa using h1
    obtain ⟨l1, l2, l3, l4⟩ := lt_of_chk hB h0
    rw [tckV_yes h0] at hq
    have ho : ∀ x y, ofTV x y ns us = _ := fun x y => ofTV_yes h0
    simp (maxSteps := 10000000) only [En.E, En.evsC, List.map_cons, List.map_nil, ne_eq, En.bitN, Nat.testBit, seval, En.vV, hs, hv, hT, hG, hF, tyS, spTof_q, ho, ordZ, spTck_q, latR_q, latN_q, latU_q, hB, eq_true l2, l4, hq]
  · rw [tckV_no h1] at hq
    have ho : ∀ x y, ofTV x y ns us = _ := fun x y => ofTV_no h1
    simp (maxSteps := 10000000) only [En.E, En.evsC, List.map_cons, List.map_nil, ne_eq, En.bitN, Nat.testBit, seval, En.vV, hs, hv, hT, hG, hF, tyS, spTof_q, ho, ordZ, latR_q, latN_q, latU_q, hB, h1, hq]
def spTyC : Spc
  | [.agg [.g i A n c, .g j B m e], .agg [.v (.int .i64 k), .v (.int .i64 r), .v (.int .i64 a0), .v (.int .i64 a1), .v (.int .i64 d)]], H, _ => .is (latR A n c B m e (H i) (H j)) (.v (.int .i64 (tckV (latN (H i)) (latU (H j)) k r a0 a1 d)))
  | _, _, _ => .bad
theorem spTyC_q {i n c j m e : Nat} {A B : Option Addr} {k r a0 a1 d : Int} {H : Nat → Ch} {nx : Nat} : spTyC [.agg [.g i A n c, .g j B m e], .agg [.v (.int .i64 k), .v (.int .i64 r), .v (.int .i64 a0), .v (.int .i64 a1), .v (.int .i64 d)]] H nx = .is (latR A n c B m e (H i) (H j)) (.v (.int .i64 (tckV (latN (H i)) (latU (H j)) k r a0 a1 d))) := (rfl)
theorem spTyC_ok : SpecOk Tryz.prog 23 spTyC := by
  intro args hp nx w0 O w H hv
  unfold spTyC at hv ⊢
  split at hv
  · next i A n c j B m e k r a0 a1 d =>
    obtain ⟨x1, x2, x3, x4, x5⟩ := latR_of hv
    have h1 := H.hold i
    have h2 := H.hold j
    rw [x1] at h1
    rw [x2] at h2
    have := tyCheck_any (latN (lookH hp i)) (latU (lookH hp j)) A B c e k r a0 a1 d x5 w ⟨⟨h1, rfl⟩, ⟨h2, rfl⟩, trivial⟩
    rw [← x3, ← x4] at this
    refine this.mono ?_
    rintro e w' ⟨rfl, hb⟩
    exact ⟨⟨0, none, 0, none, 0, mz⟩, rfl, .still hb⟩
  · exact hv.elim
end Pr
end Go.Proofs.YtnpkmimbnjnicaaGreatDoor
/-
types: Raise, Within, of good types (chapter 20).
-/
set_option linter.unusedSimpArgs false
set_option linter.unusedVariables false
namespace Go.Proofs.YtnpkmimbnjnicaaGreatDoor
namespace Pr
open Go Go.RowKit En
open Lt
theorem good_of {us : List Int} {k r a0 a1 d : Int} (h : goodV us k r a0 a1 d = 0) : (k = 1 ∨ k = 2) ∧ (r = 0 ∨ r = 1 ∨ r = 2) ∧ labB us.length a0 = true ∧ labB us.length a1 = true ∧ labB us.length d = true ∧ goodR us r a0 a1 d = 0 := by
  unfold goodV at h
  cases h1 : (bif k != 1 then k != 2 else false) <;> rw [h1] at h
  · cases h2 : decide (r < 0) <;> rw [h2] at h
    · cases h3 : decide (2 < r) <;> rw [h3] at h
      · cases h4 : labB us.length a0 <;> rw [h4] at h
        · simp at h
        · cases h5 : labB us.length a1 <;> rw [h5] at h
          · simp at h
          · cases h6 : labB us.length d <;> rw [h6] at h
            · simp at h
            · have := of_decide_eq_false h2
              have := of_decide_eq_false h3
              refine ⟨?_, by omega, rfl, rfl, rfl, h⟩
              cases hk : (k != 1)
              · exact .inl (by simpa using hk)
              · rw [hk] at h1; exact .inr (by simpa using h1)
      · simp at h
    · simp at h
  · simp at h
def glRs : List (FuncId × Spc) := [(43, spTof), (44, spTck), (45, spLab), (46, spEach)]
theorem glRs_ok : GOk Tryz.prog (lookG glRs) := lG_cons (by kernel_rfl) spTof_ok <| lG_cons (by kernel_rfl) spTck_ok <| lG_cons (by kernel_rfl) spLab_ok <| lG_cons (by kernel_rfl) spEach_ok lG_nil
set_option maxRecDepth 100000 in
set_option maxHeartbeats 8000000 in
theorem raise_any (ns : List ByteArray) (us : List Int) (A B : Option Addr) (c e : Nat) (k r a0 a1 d l : Int) (hB : Bytes us) (hc : (chkV nmV ns us).2 = 0) (hgd : goodV us k r a0 a1 d = 0) (hl : labB us.length l = true) (w : World) (hg : allRd w.heap.size w [(1001, .strs A c ns), (1002, .ints B e .u8 us)]) :
    Calls Tryz.prog 20 (dens [.agg [.g 1001 A ns.length c, .g 1002 B us.length e], .agg (tyS k r a0 a1 d), .v (.int .i64 l)]).toArray w fun e w' => e = .returned (den (.tup [.agg (tyS k r (rz0 us r a0 l) (rz1 us r a1 l) (jI us d l)), .v (.int .i64 0)])) ∧ Below w.heap.size w w' := by
  refine calls_go (args := [.agg [.g 1001 A ns.length c, .g 1002 B us.length e], .agg (tyS k r a0 a1 d), .v (.int .i64 l)]) (hp := [(1001, .strs A c ns), (1002, .ints B e .u8 us)]) (nx := 2000) (n := 600) (U := [(1000000, 11)]) (V := []) (tl := tlTp) (gl := glRs) (post := fun s' ys => ys = [.agg (tyS k r (rz0 us r a0 l) (rz1 us r a1 l) (jI us d l)), .v (.int .i64 0)])
    followP tlTp_ok glRs_ok Tryz.func20 rfl (by kernel_rfl) (Nat.le_of_ble_eq_true (by kernel_rfl)) (by kernel_rfl) (by kernel_rfl) (hh_list hg) (free_list (by simp [allLt])) ?_ ?_
  · rintro s ys w' rfl H
    exact ⟨rfl, H.below⟩
  intro L F T G nd va hE
  obtain ⟨hL, hF, hs, hv, hT, hG, hR, hI, hJ, hW⟩ := hE
  rw [Tryz.results20] at hF
  simp (maxSteps := 1000000) only [En.nN, En.E, En.evsC, List.map_cons, List.map_nil, ne_eq, En.bitN, Nat.testBit, seval] at hv
  simp only [En.at_nil, En.at_cons, En.ag_nil, En.ag_cons, and_true, tlTp, glRs, tyInt, tyU8, tyBool, tyStr, tyErr, tyStrs, tyBytes, tyInts, tyLat, tyI2, tyTy, tyTOrd, tyWith] at hT hG
  obtain ⟨l1, l2, l3, l4⟩ := lt_of_chk hB hc
  have ho : ∀ x y, ofTV x y ns us = _ := fun x y => ofTV_yes hc
  obtain ⟨_, g2, g3, g4, g5, _⟩ := good_of hgd
  simp (maxSteps := 10000000) only [En.E, En.evsC, List.map_cons, List.map_nil, ne_eq, En.bitN, Nat.testBit, seval, En.vV, hs, hv, hT, hG, hF, tyS, spTof_q, ho, ordZ, spTck_q, latR_q, latN_q, latU_q, hB, eq_true l2, l4, hgd, spLab_q, ← l2, hl, spEach_q, g3, g4, g5, eq_true g2]
def spRaise : Spc
  | [.agg [.g i A n c, .g j B m e], .agg [.v (.int .i64 k), .v (.int .i64 r), .v (.int .i64 a0), .v (.int .i64 a1), .v (.int .i64 d)], .v (.int .i64 l)], H, _ => .is (latR A n c B m e (H i) (H j) ∧ (chkV nmV (latN (H i)) (latU (H j))).2 = 0 ∧ goodV (latU (H j)) k r a0 a1 d = 0 ∧ labB (latU (H j)).length l = true) (.tup [.agg (tyS k r (rz0 (latU (H j)) r a0 l) (rz1 (latU (H j)) r a1 l) (jI (latU (H j)) d l)), .v (.int .i64 0)])
  | _, _, _ => .bad
theorem spRaise_q {i n c j m e : Nat} {A B : Option Addr} {k r a0 a1 d l : Int} {H : Nat → Ch} {nx : Nat} : spRaise [.agg [.g i A n c, .g j B m e], .agg [.v (.int .i64 k), .v (.int .i64 r), .v (.int .i64 a0), .v (.int .i64 a1), .v (.int .i64 d)], .v (.int .i64 l)] H nx = .is (latR A n c B m e (H i) (H j) ∧ (chkV nmV (latN (H i)) (latU (H j))).2 = 0 ∧ goodV (latU (H j)) k r a0 a1 d = 0 ∧ labB (latU (H j)).length l = true) (.tup [.agg (tyS k r (rz0 (latU (H j)) r a0 l) (rz1 (latU (H j)) r a1 l) (jI (latU (H j)) d l)), .v (.int .i64 0)]) := (rfl)
theorem spRaise_ok : SpecOk Tryz.prog 20 spRaise := by
  intro args hp nx w0 O w H hv
  unfold spRaise at hv ⊢
  split at hv
  · next i A n c j B m e k r a0 a1 d l =>
    obtain ⟨hl, hx⟩ := hv
    obtain ⟨x1, x2, x3, x4, x5⟩ := latR_of hl
    have h1 := H.hold i
    have h2 := H.hold j
    rw [x1] at h1
    rw [x2] at h2
    have := raise_any (latN (lookH hp i)) (latU (lookH hp j)) A B c e k r a0 a1 d l x5 hx.1 hx.2.1 hx.2.2 w ⟨⟨h1, rfl⟩, ⟨h2, rfl⟩, trivial⟩
    rw [← x3, ← x4] at this
    refine this.mono ?_
    rintro e w' ⟨rfl, hb⟩
    exact ⟨⟨0, none, 0, none, 0, mz⟩, rfl, .still hb⟩
  · exact hv.elim
def glBt : List (FuncId × Spc) := [(43, spTof), (44, spTck)]
theorem glBt_ok : GOk Tryz.prog (lookG glBt) := lG_cons (by kernel_rfl) spTof_ok <| lG_cons (by kernel_rfl) spTck_ok lG_nil
set_option maxRecDepth 100000 in
set_option maxHeartbeats 8000000 in
theorem both_any (ns : List ByteArray) (us : List Int) (A B : Option Addr) (c e : Nat) (k r a0 a1 d b0 b1 f : Int) (hB : Bytes us) (hc : (chkV nmV ns us).2 = 0) (hga : goodV us k r a0 a1 d = 0) (hgb : goodV us k r b0 b1 f = 0) (w : World) (hg : allRd w.heap.size w [(1001, .strs A c ns), (1002, .ints B e .u8 us)]) :
    Calls Tryz.prog 94 (dens [.agg [.g 1001 A ns.length c, .g 1002 B us.length e], .agg (tyS k r a0 a1 d), .agg (tyS k r b0 b1 f)]).toArray w fun e' w' => e' = .returned (den (.tup [.agg [.g 1001 A ns.length c, .g 1002 B us.length e, .v (.int .i64 (botI us))], .v (.int .i64 0)])) ∧ Below w.heap.size w w' := by
  refine calls_go (args := [.agg [.g 1001 A ns.length c, .g 1002 B us.length e], .agg (tyS k r a0 a1 d), .agg (tyS k r b0 b1 f)]) (hp := [(1001, .strs A c ns), (1002, .ints B e .u8 us)]) (nx := 2000) (n := 600) (U := [(1000000, 12)]) (V := []) (tl := tlTp) (gl := glBt) (post := fun s' ys => ys = [.agg [.g 1001 A ns.length c, .g 1002 B us.length e, .v (.int .i64 (botI us))], .v (.int .i64 0)])
    followP tlTp_ok glBt_ok Tryz.func94 rfl (by kernel_rfl) (Nat.le_of_ble_eq_true (by kernel_rfl)) (by kernel_rfl) (by kernel_rfl) (hh_list hg) (free_list (by simp [allLt])) ?_ ?_
  · rintro s ys w' rfl H
    exact ⟨rfl, H.below⟩
  intro L F T G nd va hE
  obtain ⟨hL, hF, hs, hv, hT, hG, hR, hI, hJ, hW⟩ := hE
  rw [Tryz.results94] at hF
  simp (maxSteps := 1000000) only [En.nN, En.E, En.evsC, List.map_cons, List.map_nil, ne_eq, En.bitN, Nat.testBit, seval] at hv
  simp only [En.at_nil, En.at_cons, En.ag_nil, En.ag_cons, and_true, tlTp, glBt, tyInt, tyU8, tyBool, tyStr, tyErr, tyStrs, tyBytes, tyInts, tyLat, tyI2, tyTy, tyTOrd, tyWith] at hT hG
  obtain ⟨l1, l2, l3, l4⟩ := lt_of_chk hB hc
  have ho : ∀ x y, ofTV x y ns us = _ := fun x y => ofTV_yes hc
  have bk : ∀ x : Int, (x != x) = false := fun x => by simp
  simp (maxSteps := 10000000) only [En.E, En.evsC, List.map_cons, List.map_nil, ne_eq, En.bitN, Nat.testBit, seval, En.vV, hs, hv, hT, hG, hF, tyS, spTof_q, ho, ordZ, spTck_q, latR_q, latN_q, latU_q, hB, eq_true l2, l4, hga, hgb, bk]
def spBoth : Spc
  | [.agg [.g i A n c, .g j B m e], .agg [.v (.int .i64 k), .v (.int .i64 r), .v (.int .i64 a0), .v (.int .i64 a1), .v (.int .i64 d)], .agg [.v (.int .i64 k2), .v (.int .i64 r2), .v (.int .i64 b0), .v (.int .i64 b1), .v (.int .i64 f)]], H, _ => .is (latR A n c B m e (H i) (H j) ∧ k2 = k ∧ r2 = r ∧ (chkV nmV (latN (H i)) (latU (H j))).2 = 0 ∧ goodV (latU (H j)) k r a0 a1 d = 0 ∧ goodV (latU (H j)) k r b0 b1 f = 0) (.tup [.agg [.g i A n c, .g j B m e, .v (.int .i64 (botI (latU (H j))))], .v (.int .i64 0)])
  | _, _, _ => .bad
theorem spBoth_q {i n c j m e : Nat} {A B : Option Addr} {k r a0 a1 d k2 r2 b0 b1 f : Int} {H : Nat → Ch} {nx : Nat} : spBoth [.agg [.g i A n c, .g j B m e], .agg [.v (.int .i64 k), .v (.int .i64 r), .v (.int .i64 a0), .v (.int .i64 a1), .v (.int .i64 d)], .agg [.v (.int .i64 k2), .v (.int .i64 r2), .v (.int .i64 b0), .v (.int .i64 b1), .v (.int .i64 f)]] H nx = .is (latR A n c B m e (H i) (H j) ∧ k2 = k ∧ r2 = r ∧ (chkV nmV (latN (H i)) (latU (H j))).2 = 0 ∧ goodV (latU (H j)) k r a0 a1 d = 0 ∧ goodV (latU (H j)) k r b0 b1 f = 0) (.tup [.agg [.g i A n c, .g j B m e, .v (.int .i64 (botI (latU (H j))))], .v (.int .i64 0)]) := (rfl)
theorem spBoth_ok : SpecOk Tryz.prog 94 spBoth := by
  intro args hp nx w0 O w H hv
  unfold spBoth at hv ⊢
  split at hv
  · next i A n c j B m e k r a0 a1 d k2 r2 b0 b1 f =>
    obtain ⟨hl, hx⟩ := hv
    obtain ⟨x1, x2, x3, x4, x5⟩ := latR_of hl
    have h1 := H.hold i
    have h2 := H.hold j
    rw [x1] at h1
    rw [x2] at h2
    obtain ⟨rfl, rfl, hx⟩ := hx
    have := both_any (latN (lookH hp i)) (latU (lookH hp j)) A B c e k2 r2 a0 a1 d b0 b1 f x5 hx.1 hx.2.1 hx.2.2 w ⟨⟨h1, rfl⟩, ⟨h2, rfl⟩, trivial⟩
    rw [← x3, ← x4] at this
    refine this.mono ?_
    rintro e w' ⟨rfl, hb⟩
    exact ⟨⟨0, none, 0, none, 0, mz⟩, rfl, .still hb⟩
  · exact hv.elim
def glJo : List (FuncId × Spc) := [(94, spBoth), (93, spTjn)]
theorem glJo_ok : GOk Tryz.prog (lookG glJo) := lG_cons (by kernel_rfl) spBoth_ok <| lG_cons (by kernel_rfl) spTjn_ok lG_nil
set_option maxRecDepth 100000 in
set_option maxHeartbeats 8000000 in
theorem join_any (ns : List ByteArray) (us : List Int) (A B : Option Addr) (c e : Nat) (k r a0 a1 d b0 b1 f : Int) (hB : Bytes us) (hc : (chkV nmV ns us).2 = 0) (hga : goodV us k r a0 a1 d = 0) (hgb : goodV us k r b0 b1 f = 0) (w : World) (hg : allRd w.heap.size w [(1001, .strs A c ns), (1002, .ints B e .u8 us)]) :
    Calls Tryz.prog 48 (dens [.agg [.g 1001 A ns.length c, .g 1002 B us.length e], .agg (tyS k r a0 a1 d), .agg (tyS k r b0 b1 f)]).toArray w fun e' w' => e' = .returned (den (.tup [.agg (tyS k r (jI us a0 b0) (jI us a1 b1) (jI us d f)), .v (.int .i64 0)])) ∧ Below w.heap.size w w' := by
  refine calls_go (args := [.agg [.g 1001 A ns.length c, .g 1002 B us.length e], .agg (tyS k r a0 a1 d), .agg (tyS k r b0 b1 f)]) (hp := [(1001, .strs A c ns), (1002, .ints B e .u8 us)]) (nx := 2000) (n := 600) (U := [(1000000, 10)]) (V := []) (tl := tlTp) (gl := glJo) (post := fun s' ys => ys = [.agg (tyS k r (jI us a0 b0) (jI us a1 b1) (jI us d f)), .v (.int .i64 0)])
    followP tlTp_ok glJo_ok Tryz.func48 rfl (by kernel_rfl) (Nat.le_of_ble_eq_true (by kernel_rfl)) (by kernel_rfl) (by kernel_rfl) (hh_list hg) (free_list (by simp [allLt])) ?_ ?_
  · rintro s ys w' rfl H
    exact ⟨rfl, H.below⟩
  intro L F T G nd va hE
  obtain ⟨hL, hF, hs, hv, hT, hG, hR, hI, hJ, hW⟩ := hE
  rw [Tryz.results48] at hF
  simp (maxSteps := 1000000) only [En.nN, En.E, En.evsC, List.map_cons, List.map_nil, ne_eq, En.bitN, Nat.testBit, seval] at hv
  simp only [En.at_nil, En.at_cons, En.ag_nil, En.ag_cons, and_true, tlTp, glJo, tyInt, tyU8, tyBool, tyStr, tyErr, tyStrs, tyBytes, tyInts, tyLat, tyI2, tyTy, tyTOrd, tyWith] at hT hG
  obtain ⟨l1, l2, l3, l4⟩ := lt_of_chk hB hc
  obtain ⟨_, _, g3, g4, g5, _⟩ := good_of hga
  obtain ⟨_, _, g6, g7, g8, _⟩ := good_of hgb
  simp (maxSteps := 10000000) only [En.E, En.evsC, List.map_cons, List.map_nil, ne_eq, En.bitN, Nat.testBit, seval, En.vV, hs, hv, hT, hG, hF, tyS, spBoth_q, spTjn_q, latR_q, latN_q, latU_q, hB, l4, hc, hga, hgb, g3, g4, g5, g6, g7, g8]
def spJoin : Spc
  | [.agg [.g i A n c, .g j B m e], .agg [.v (.int .i64 k), .v (.int .i64 r), .v (.int .i64 a0), .v (.int .i64 a1), .v (.int .i64 d)], .agg [.v (.int .i64 k2), .v (.int .i64 r2), .v (.int .i64 b0), .v (.int .i64 b1), .v (.int .i64 f)]], H, _ => .is (latR A n c B m e (H i) (H j) ∧ k2 = k ∧ r2 = r ∧ (chkV nmV (latN (H i)) (latU (H j))).2 = 0 ∧ goodV (latU (H j)) k r a0 a1 d = 0 ∧ goodV (latU (H j)) k r b0 b1 f = 0) (.tup [.agg (tyS k r (jI (latU (H j)) a0 b0) (jI (latU (H j)) a1 b1) (jI (latU (H j)) d f)), .v (.int .i64 0)])
  | _, _, _ => .bad
theorem spJoin_q {i n c j m e : Nat} {A B : Option Addr} {k r a0 a1 d k2 r2 b0 b1 f : Int} {H : Nat → Ch} {nx : Nat} : spJoin [.agg [.g i A n c, .g j B m e], .agg [.v (.int .i64 k), .v (.int .i64 r), .v (.int .i64 a0), .v (.int .i64 a1), .v (.int .i64 d)], .agg [.v (.int .i64 k2), .v (.int .i64 r2), .v (.int .i64 b0), .v (.int .i64 b1), .v (.int .i64 f)]] H nx = .is (latR A n c B m e (H i) (H j) ∧ k2 = k ∧ r2 = r ∧ (chkV nmV (latN (H i)) (latU (H j))).2 = 0 ∧ goodV (latU (H j)) k r a0 a1 d = 0 ∧ goodV (latU (H j)) k r b0 b1 f = 0) (.tup [.agg (tyS k r (jI (latU (H j)) a0 b0) (jI (latU (H j)) a1 b1) (jI (latU (H j)) d f)), .v (.int .i64 0)]) := (rfl)
theorem spJoin_ok : SpecOk Tryz.prog 48 spJoin := by
  intro args hp nx w0 O w H hv
  unfold spJoin at hv ⊢
  split at hv
  · next i A n c j B m e k r a0 a1 d k2 r2 b0 b1 f =>
    obtain ⟨hl, hx⟩ := hv
    obtain ⟨x1, x2, x3, x4, x5⟩ := latR_of hl
    have h1 := H.hold i
    have h2 := H.hold j
    rw [x1] at h1
    rw [x2] at h2
    obtain ⟨rfl, rfl, hx⟩ := hx
    have := join_any (latN (lookH hp i)) (latU (lookH hp j)) A B c e k2 r2 a0 a1 d b0 b1 f x5 hx.1 hx.2.1 hx.2.2 w ⟨⟨h1, rfl⟩, ⟨h2, rfl⟩, trivial⟩
    rw [← x3, ← x4] at this
    refine this.mono ?_
    rintro e w' ⟨rfl, hb⟩
    exact ⟨⟨0, none, 0, none, 0, mz⟩, rfl, .still hb⟩
  · exact hv.elim
def wthV (us : List Int) (a0 a1 d b0 b1 f : Int) : Bool := bif jI us a0 b0 == b0 then (bif jI us a1 b1 == b1 then jI us d f == f else false) else false
def glWi : List (FuncId × Spc) := [(48, spJoin)]
theorem glWi_ok : GOk Tryz.prog (lookG glWi) := lG_cons (by kernel_rfl) spJoin_ok lG_nil
set_option maxRecDepth 100000 in
set_option maxHeartbeats 8000000 in
theorem within_any (ns : List ByteArray) (us : List Int) (A B : Option Addr) (c e : Nat) (k r a0 a1 d b0 b1 f : Int) (hB : Bytes us) (hc : (chkV nmV ns us).2 = 0) (hga : goodV us k r a0 a1 d = 0) (hgb : goodV us k r b0 b1 f = 0) (w : World) (hg : allRd w.heap.size w [(1001, .strs A c ns), (1002, .ints B e .u8 us)]) :
    Calls Tryz.prog 21 (dens [.agg [.g 1001 A ns.length c, .g 1002 B us.length e], .agg (tyS k r a0 a1 d), .agg (tyS k r b0 b1 f)]).toArray w fun e' w' => e' = .returned (den (.tup [.v (.bool (wthV us a0 a1 d b0 b1 f)), .v (.int .i64 0)])) ∧ Below w.heap.size w w' := by
  obtain ⟨q, hq⟩ : ∃ q, q = wthV us a0 a1 d b0 b1 f := ⟨_, rfl⟩
  rw [← hq]
  refine calls_go (args := [.agg [.g 1001 A ns.length c, .g 1002 B us.length e], .agg (tyS k r a0 a1 d), .agg (tyS k r b0 b1 f)]) (hp := [(1001, .strs A c ns), (1002, .ints B e .u8 us)]) (nx := 2000) (n := 600) (U := [(1000000, 10)]) (V := []) (tl := tlTp) (gl := glWi) (post := fun s' ys => ys = [.v (.bool q), .v (.int .i64 0)])
    followP tlTp_ok glWi_ok Tryz.func21 rfl (by kernel_rfl) (Nat.le_of_ble_eq_true (by kernel_rfl)) (by kernel_rfl) (by kernel_rfl) (hh_list hg) (free_list (by simp [allLt])) ?_ ?_
  · rintro s ys w' rfl H
    exact ⟨rfl, H.below⟩
  intro L F T G nd va hE
  obtain ⟨hL, hF, hs, hv, hT, hG, hR, hI, hJ, hW⟩ := hE
  rw [Tryz.results21] at hF
  simp (maxSteps := 1000000) only [En.nN, En.E, En.evsC, List.map_cons, List.map_nil, ne_eq, En.bitN, Nat.testBit, seval] at hv
  simp only [En.at_nil, En.at_cons, En.ag_nil, En.ag_cons, and_true, tlTp, glWi, tyInt, tyU8, tyBool, tyStr, tyErr, tyStrs, tyBytes, tyInts, tyLat, tyI2, tyTy, tyTOrd, tyWith] at hT hG
  unfold wthV at hq
  simp (maxSteps := 10000000) only [En.E, En.evsC, List.map_cons, List.map_nil, ne_eq, En.bitN, Nat.testBit, seval, En.vV, hs, hv, hT, hG, hF, tyS, spJoin_q, latR_q, latN_q, latU_q, hB, hc, hga, hgb, beq_self_eq_true]
  rw [hq]
  cases (jI us a0 b0 == b0) <;> cases (jI us a1 b1 == b1) <;> cases (jI us d f == f) <;> rfl
def spWithin : Spc
  | [.agg [.g i A n c, .g j B m e], .agg [.v (.int .i64 k), .v (.int .i64 r), .v (.int .i64 a0), .v (.int .i64 a1), .v (.int .i64 d)], .agg [.v (.int .i64 k2), .v (.int .i64 r2), .v (.int .i64 b0), .v (.int .i64 b1), .v (.int .i64 f)]], H, _ => .is (latR A n c B m e (H i) (H j) ∧ k2 = k ∧ r2 = r ∧ (chkV nmV (latN (H i)) (latU (H j))).2 = 0 ∧ goodV (latU (H j)) k r a0 a1 d = 0 ∧ goodV (latU (H j)) k r b0 b1 f = 0) (.tup [.v (.bool (wthV (latU (H j)) a0 a1 d b0 b1 f)), .v (.int .i64 0)])
  | _, _, _ => .bad
theorem spWithin_q {i n c j m e : Nat} {A B : Option Addr} {k r a0 a1 d k2 r2 b0 b1 f : Int} {H : Nat → Ch} {nx : Nat} : spWithin [.agg [.g i A n c, .g j B m e], .agg [.v (.int .i64 k), .v (.int .i64 r), .v (.int .i64 a0), .v (.int .i64 a1), .v (.int .i64 d)], .agg [.v (.int .i64 k2), .v (.int .i64 r2), .v (.int .i64 b0), .v (.int .i64 b1), .v (.int .i64 f)]] H nx = .is (latR A n c B m e (H i) (H j) ∧ k2 = k ∧ r2 = r ∧ (chkV nmV (latN (H i)) (latU (H j))).2 = 0 ∧ goodV (latU (H j)) k r a0 a1 d = 0 ∧ goodV (latU (H j)) k r b0 b1 f = 0) (.tup [.v (.bool (wthV (latU (H j)) a0 a1 d b0 b1 f)), .v (.int .i64 0)]) := (rfl)
theorem spWithin_ok : SpecOk Tryz.prog 21 spWithin := by
  intro args hp nx w0 O w H hv
  unfold spWithin at hv ⊢
  split at hv
  · next i A n c j B m e k r a0 a1 d k2 r2 b0 b1 f =>
    obtain ⟨hl, hx⟩ := hv
    obtain ⟨x1, x2, x3, x4, x5⟩ := latR_of hl
    have h1 := H.hold i
    have h2 := H.hold j
    rw [x1] at h1
    rw [x2] at h2
    obtain ⟨rfl, rfl, hx⟩ := hx
    have := within_any (latN (lookH hp i)) (latU (lookH hp j)) A B c e k2 r2 a0 a1 d b0 b1 f x5 hx.1 hx.2.1 hx.2.2 w ⟨⟨h1, rfl⟩, ⟨h2, rfl⟩, trivial⟩
    rw [← x3, ← x4] at this
    refine this.mono ?_
    rintro e w' ⟨rfl, hb⟩
    exact ⟨⟨0, none, 0, none, 0, mz⟩, rfl, .still hb⟩
  · exact hv.elim
end Pr
end Go.Proofs.YtnpkmimbnjnicaaGreatDoor
