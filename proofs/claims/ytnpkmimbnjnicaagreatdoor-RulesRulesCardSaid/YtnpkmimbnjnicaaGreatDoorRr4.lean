/-
Public: the program's and the reference's; the walk of RulesRules (chapter 21).
-/
import Derived.Test.YtnpkmimbnjnicaaGreatDoorRr3
import Derived.Test.YtnpkmimbnjnicaaGreatDoorRl3
import Derived.Test.YtnpkmimbnjnicaaGreatDoorRl2
import Derived.Test.YtnpkmimbnjnicaaGreatDoorRo1
set_option linter.unusedSimpArgs false
set_option linter.unusedVariables false
namespace Go.Proofs.YtnpkmimbnjnicaaGreatDoor
namespace Pr
open Go Go.RowKit En
open Lt
def spRRule : Spc
  | [.agg [.g i A n c, .g j B m e], .v (.int .i64 p), L], H, _ => .is (latR A n c B m e (H i) (H j) ∧ tysP H L) (rvS (rulV (latN (H i)) (latU (H j)) p (tysQ L) (tysT H L)))
  | _, _, _ => .bad
theorem spRRule_q {i n c j m e : Nat} {A B : Option Addr} {p : Int} {L : SV} {H : Nat → Ch} {nx : Nat} : spRRule [.agg [.g i A n c, .g j B m e], .v (.int .i64 p), L] H nx = .is (latR A n c B m e (H i) (H j) ∧ tysP H L) (rvS (rulV (latN (H i)) (latU (H j)) p (tysQ L) (tysT H L))) := (rfl)
theorem spRRule_ok : SpecOk Tryz.prog 17 spRRule := by
  intro args hp nx w0 O w H hv
  unfold spRRule at hv ⊢
  split at hv
  · next i A n c j B m e p L =>
    obtain ⟨hl, hty⟩ := hv
    obtain ⟨D, g, e1, hh⟩ := tys_hold H hty
    obtain ⟨x1, x2, x3, x4, x5⟩ := latR_of hl
    have h1 := H.hold i
    have h2 := H.hold j
    rw [x1] at h1
    rw [x2] at h2
    have := rrule_any p (tysQ L) (tysT (lookH hp) L) A B D c e g (latN (lookH hp i)) (latU (lookH hp j)) x5 w ⟨⟨h1, rfl⟩, ⟨h2, rfl⟩, ⟨hh _, rfl⟩, trivial⟩
    rw [show dens [.agg [.g i A n c, .g j B m e], .v (.int .i64 p), L] = dens [.agg [.g 1001 A (latN (lookH hp i)).length c, .g 1002 B (latU (lookH hp j)).length e], .v (.int .i64 p), .g 1003 D (tysQ L) g] by rw [← x3, ← x4]; simp [dens, den, e1]]
    refine this.mono ?_
    rintro e w' ⟨rfl, hb⟩
    exact ⟨⟨0, none, 0, none, 0, mz⟩, rfl, .still hb⟩
  · exact hv.elim
def glPb : List (FuncId × Spc) := [(16, spRule), (14, spAft), (42, spLeq3)]
theorem glPb_ok : GOk Tryz.prog (lookG glPb) := lG_cons (by kernel_rfl) spRule_ok <| lG_cons (by kernel_rfl) spAft_ok <| lG_cons (by kernel_rfl) spLeq3_ok lG_nil
set_option maxRecDepth 100000 in
set_option maxHeartbeats 8000000 in
theorem public_any (p o : Int) (n : Nat) (t : Nat → Ty) (A B D : Option Addr) (c e g : Nat) (ns : List ByteArray) (us : List Int) (hB : Bytes us) (bn on cn ba oa ca : Nat) (h4 : 4 ≤ cn) (h3 : 3 ≤ ca) (w : World) (hg : allRd w.heap.size w (ruHp bn on cn ba oa ca A B D c e g ns us n t)) :
    Calls Tryz.prog 18 (dens [.agg [.g 1001 A ns.length c, .g 1002 B us.length e], .v (.int .i64 p), .g 1003 D n g, .v (.int .i64 o)]).toArray w fun e' w' => e' = .returned (den (.tup [.v (.bool (pubV ns us (rulV ns us p n t) o).1), .v (.int .i64 (pubV ns us (rulV ns us p n t) o).2)])) ∧ Below w.heap.size w w' := by
  obtain ⟨q, hq⟩ : ∃ q, q = pubV ns us (rulV ns us p n t) o := ⟨_, rfl⟩
  rw [← hq]
  have hgd := rul_good (ns := ns) hB (p := p) (n := n) (t := t)
  refine calls_go (args := [.agg [.g 1001 A ns.length c, .g 1002 B us.length e], .v (.int .i64 p), .g 1003 D n g, .v (.int .i64 o)]) (hp := ruHp bn on cn ba oa ca A B D c e g ns us n t) (nx := 2000) (n := 900) (U := [(1000000, 13)]) (V := []) (tl := tlRu) (gl := glPb) (post := fun s' ys => ys = [.v (.bool q.1), .v (.int .i64 q.2)])
    followP tlRu_ok glPb_ok Tryz.func18 rfl (by kernel_rfl) (Nat.le_of_ble_eq_true (by kernel_rfl)) (by kernel_rfl) (by kernel_rfl) (hh_list hg) (free_list (by simp [allLt, ruHp, gHp])) ?_ ?_
  · rintro s ys w' rfl H
    exact ⟨rfl, H.below⟩
  intro L F T G nd va hE
  obtain ⟨hL, hF, hs, hv, hT, hG, hR, hI, hJ, hW⟩ := hE
  rw [Tryz.results18] at hF
  simp (maxSteps := 1000000) only [En.nN, En.E, En.evsC, List.map_cons, List.map_nil, ne_eq, En.bitN, Nat.testBit, seval] at hv
  simp only [En.at_nil, En.at_cons, En.ag_nil, En.ag_cons, and_true, tlRu, glPb, tyInt, tyU8, tyBool, tyErr, tyStrs, tyBytes, tyInts, tyLat, tyI2, tyTy, tyTys, tyRule, tyTwo, tyLook, tyTab, tyRFn] at hT hG
  generalize hxx : rulV ns us p n t = x at hq hgd
  unfold pubV at hq
  cases he : (x.err != 0) <;> rw [he] at hq
  · obtain ⟨h0, l1, l2, RL⟩ := hgd he
    have e0 : x.err = 0 := by simpa using he
    cases c1 : labB us.length o <;> rw [c1] at hq
    · have e1 := lab_bad c1
      have hq : q = (false, 7) := hq
      simp (maxSteps := 10000000) only [En.E, En.evsC, List.map_cons, List.map_nil, ne_eq, En.bitN, Nat.testBit, seval, En.vV, hs, hv, hT, hG, hF, ruHp, gHp, h4, h3, globR_q, spRule_q, latR_q, latN_q, latU_q, hB, tysP_g, tysQ_g, tysT_g, tysG_r, tysC_r, hxx, rvS, ruS, e0, ← l2, e1, hq, and_self]
      exact fun h => by rw [h]; rfl
    · obtain ⟨e1, e1'⟩ := lab_neg c1
      have hq : q = (leI us (jI us x.e x.c) o, 0) := hq
      rw [l2] at e1'
      have af := aft_own l1 h0 RL
      have lj := (jI_spec l1 RL.le RL.lc).1
      have lo := labB_iff.1 c1
      have lq := leq_lab h0 l2 lj lo
      have ak := ask_zero h0 l2 lj lo
      simp (maxSteps := 10000000) only [En.E, En.evsC, List.map_cons, List.map_nil, ne_eq, En.bitN, Nat.testBit, seval, En.vV, hs, hv, hT, hG, hF, ruHp, gHp, h4, h3, globR_q, spRule_q, latR_q, latN_q, latU_q, hB, tysP_g, tysQ_g, tysT_g, tysG_r, tysC_r, hxx, rvS, ruS, e0, l2, eq_true l2, e1, e1', spAft_q, af, spLeq3_q, lq, ak, hq, and_self]
  · have hq : q = (false, x.err) := hq
    simp (maxSteps := 10000000) only [En.E, En.evsC, List.map_cons, List.map_nil, ne_eq, En.bitN, Nat.testBit, seval, En.vV, hs, hv, hT, hG, hF, ruHp, gHp, h4, h3, globR_q, spRule_q, latR_q, latN_q, latU_q, hB, tysP_g, tysQ_g, tysT_g, tysG_r, tysC_r, hxx, rvS, ruS, he, hq, and_self]
def glPr : List (FuncId × Spc) := [(17, spRRule), (32, spRLab), (22, spRLeq)]
theorem glPr_ok : GOk Tryz.prog (lookG glPr) := lG_cons (by kernel_rfl) spRRule_ok <| lG_cons (by kernel_rfl) spRLab_ok <| lG_cons (by kernel_rfl) spRLeq_ok lG_nil
set_option maxRecDepth 100000 in
set_option maxHeartbeats 8000000 in
theorem rpublic_any (p o : Int) (n : Nat) (t : Nat → Ty) (A B D : Option Addr) (c e g : Nat) (ns : List ByteArray) (us : List Int) (hB : Bytes us) (w : World) (hg : allRd w.heap.size w (rrHp A B D c e g ns us n t)) :
    Calls Tryz.prog 19 (dens [.agg [.g 1001 A ns.length c, .g 1002 B us.length e], .v (.int .i64 p), .g 1003 D n g, .v (.int .i64 o)]).toArray w fun e' w' => e' = .returned (den (.tup [.v (.bool (pubV ns us (rulV ns us p n t) o).1), .v (.int .i64 (pubV ns us (rulV ns us p n t) o).2)])) ∧ Below w.heap.size w w' := by
  obtain ⟨q, hq⟩ : ∃ q, q = pubV ns us (rulV ns us p n t) o := ⟨_, rfl⟩
  rw [← hq]
  have hgd := rul_good (ns := ns) hB (p := p) (n := n) (t := t)
  refine calls_go (args := [.agg [.g 1001 A ns.length c, .g 1002 B us.length e], .v (.int .i64 p), .g 1003 D n g, .v (.int .i64 o)]) (hp := rrHp A B D c e g ns us n t) (nx := 2000) (n := 900) (U := [(1000000, 16)]) (V := []) (tl := tlRu) (gl := glPr) (post := fun s' ys => ys = [.v (.bool q.1), .v (.int .i64 q.2)])
    followP tlRu_ok glPr_ok Tryz.func19 rfl (by kernel_rfl) (Nat.le_of_ble_eq_true (by kernel_rfl)) (by kernel_rfl) (by kernel_rfl) (hh_list hg) (free_list (by simp [allLt, rrHp])) ?_ ?_
  · rintro s ys w' rfl H
    exact ⟨rfl, H.below⟩
  intro L F T G nd va hE
  obtain ⟨hL, hF, hs, hv, hT, hG, hR, hI, hJ, hW⟩ := hE
  rw [Tryz.results19] at hF
  simp (maxSteps := 1000000) only [En.nN, En.E, En.evsC, List.map_cons, List.map_nil, ne_eq, En.bitN, Nat.testBit, seval] at hv
  simp only [En.at_nil, En.at_cons, En.ag_nil, En.ag_cons, and_true, tlRu, glPr, tyInt, tyU8, tyBool, tyErr, tyStrs, tyBytes, tyInts, tyLat, tyI2, tyTy, tyTys, tyRule, tyTwo, tyLook, tyTab, tyRFn] at hT hG
  generalize hxx : rulV ns us p n t = x at hq hgd
  unfold pubV at hq
  cases he : (x.err != 0) <;> rw [he] at hq
  · obtain ⟨h0, l1, l2, RL⟩ := hgd he
    have e0 : x.err = 0 := by simpa using he
    cases c1 : labB us.length o <;> rw [c1] at hq
    · have hq : q = (false, 7) := hq
      rw [l2] at c1
      simp (maxSteps := 10000000) only [En.E, En.evsC, List.map_cons, List.map_nil, ne_eq, En.bitN, Nat.testBit, seval, En.vV, hs, hv, hT, hG, hF, rrHp, spRRule_q, latR_q, latN_q, latU_q, hB, tysP_g, tysQ_g, tysT_g, tysG_r, tysC_r, hxx, rvS, ruS, e0, spRLab_q, c1, hq, and_self]
    · have hq : q = (leI us (jI us x.e x.c) o, 0) := hq
      have lo := labB_iff.1 c1
      rw [leI_lub l1 RL.le RL.lc lo] at hq
      have q1 := leq_lab h0 l2 RL.le lo
      have a1 := ask_zero h0 l2 RL.le lo
      have q2 := leq_lab h0 l2 RL.lc lo
      have a2 := ask_zero h0 l2 RL.lc lo
      rw [l2] at c1
      cases d1 : leI us x.e o <;> rw [d1] at hq q1
      · have hq : q = (false, 0) := hq
        simp (maxSteps := 10000000) only [En.E, En.evsC, List.map_cons, List.map_nil, ne_eq, En.bitN, Nat.testBit, seval, En.vV, hs, hv, hT, hG, hF, rrHp, spRRule_q, latR_q, latN_q, latU_q, hB, tysP_g, tysQ_g, tysT_g, tysG_r, tysC_r, hxx, rvS, ruS, e0, spRLab_q, c1, spRLeq_q, q1, a1, q2, a2, hq, and_self]
      · have hq : q = (leI us x.c o, 0) := hq
        simp (maxSteps := 10000000) only [En.E, En.evsC, List.map_cons, List.map_nil, ne_eq, En.bitN, Nat.testBit, seval, En.vV, hs, hv, hT, hG, hF, rrHp, spRRule_q, latR_q, latN_q, latU_q, hB, tysP_g, tysQ_g, tysT_g, tysG_r, tysC_r, hxx, rvS, ruS, e0, spRLab_q, c1, spRLeq_q, q1, a1, q2, a2, hq, and_self]
  · have hq : q = (false, x.err) := hq
    have he' : (x.err == 0) = false := by simpa [bne] using he
    simp (maxSteps := 10000000) only [En.E, En.evsC, List.map_cons, List.map_nil, ne_eq, En.bitN, Nat.testBit, seval, En.vV, hs, hv, hT, hG, hF, rrHp, spRRule_q, latR_q, latN_q, latU_q, hB, tysP_g, tysQ_g, tysT_g, tysG_r, tysC_r, hxx, rvS, ruS, he, he', spRLab_q, Bool.false_eq_true, hq, and_self]
def puS (q : Bool × Int) : SV := .tup [.v (.bool q.1), .v (.int .i64 q.2)]
def spPub : Spc
  | [.agg [.g i A n c, .g j B m e], .v (.int .i64 p), L, .v (.int .i64 o)], H, _ => .is (globR (H 0) (H 1) (H 2) (H 3) ∧ latR A n c B m e (H i) (H j) ∧ tysP H L) (puS (pubV (latN (H i)) (latU (H j)) (rulV (latN (H i)) (latU (H j)) p (tysQ L) (tysT H L)) o))
  | _, _, _ => .bad
theorem spPub_q {i n c j m e : Nat} {A B : Option Addr} {p o : Int} {L : SV} {H : Nat → Ch} {nx : Nat} : spPub [.agg [.g i A n c, .g j B m e], .v (.int .i64 p), L, .v (.int .i64 o)] H nx = .is (globR (H 0) (H 1) (H 2) (H 3) ∧ latR A n c B m e (H i) (H j) ∧ tysP H L) (puS (pubV (latN (H i)) (latU (H j)) (rulV (latN (H i)) (latU (H j)) p (tysQ L) (tysT H L)) o)) := (rfl)
theorem spPub_ok : SpecOk Tryz.prog 18 spPub := by
  intro args hp nx w0 O w H hv
  unfold spPub at hv ⊢
  split at hv
  · next i A n c j B m e p L o =>
    obtain ⟨hG, hl, hty⟩ := hv
    obtain ⟨bn, on, cn, ba, oa, ca, hr, h4, h3, _⟩ := globR_ok H hG
    obtain ⟨D, g, e1, hh⟩ := tys_hold H hty
    obtain ⟨x1, x2, x3, x4, x5⟩ := latR_of hl
    have h1 := H.hold i
    have h2 := H.hold j
    rw [x1] at h1
    rw [x2] at h2
    have := public_any p o (tysQ L) (tysT (lookH hp) L) A B D c e g (latN (lookH hp i)) (latU (lookH hp j)) x5 bn on cn ba oa ca h4 h3 w ⟨⟨h1, rfl⟩, ⟨h2, rfl⟩, ⟨hh _, rfl⟩, hr⟩
    rw [show dens [.agg [.g i A n c, .g j B m e], .v (.int .i64 p), L, .v (.int .i64 o)] = dens [.agg [.g 1001 A (latN (lookH hp i)).length c, .g 1002 B (latU (lookH hp j)).length e], .v (.int .i64 p), .g 1003 D (tysQ L) g, .v (.int .i64 o)] by rw [← x3, ← x4]; simp [dens, den, e1]]
    refine this.mono ?_
    rintro e w' ⟨rfl, hb⟩
    exact ⟨⟨0, none, 0, none, 0, mz⟩, rfl, .still hb⟩
  · exact hv.elim
theorem spRPub_ok : SpecOk Tryz.prog 19 spPub := by
  intro args hp nx w0 O w H hv
  unfold spPub at hv ⊢
  split at hv
  · next i A n c j B m e p L o =>
    obtain ⟨hG, hl, hty⟩ := hv
    obtain ⟨D, g, e1, hh⟩ := tys_hold H hty
    obtain ⟨x1, x2, x3, x4, x5⟩ := latR_of hl
    have h1 := H.hold i
    have h2 := H.hold j
    rw [x1] at h1
    rw [x2] at h2
    have := rpublic_any p o (tysQ L) (tysT (lookH hp) L) A B D c e g (latN (lookH hp i)) (latU (lookH hp j)) x5 w ⟨⟨h1, rfl⟩, ⟨h2, rfl⟩, ⟨hh _, rfl⟩, trivial⟩
    rw [show dens [.agg [.g i A n c, .g j B m e], .v (.int .i64 p), L, .v (.int .i64 o)] = dens [.agg [.g 1001 A (latN (lookH hp i)).length c, .g 1002 B (latU (lookH hp j)).length e], .v (.int .i64 p), .g 1003 D (tysQ L) g, .v (.int .i64 o)] by rw [← x3, ← x4]; simp [dens, den, e1]]
    refine this.mono ?_
    rintro e w' ⟨rfl, hb⟩
    exact ⟨⟨0, none, 0, none, 0, mz⟩, rfl, .still hb⟩
  · exact hv.elim
def tlRw : List (TypeId × TI) := [tyInt, tyU8, tyBool, tyStr, tyErr, tyStrs, tyBytes, tyInts, tyLat, tyI2, tyTy, tyTys, tyRule, tyAppl]
theorem tlRw_ok : TyAll Tryz.prog (lookT tlRw) := tyAll_p tyInt_ok <| tyAll_p tyU8_ok <| tyAll_p tyBool_ok <| tyAll_p tyStr_ok <| tyAll_p tyErr_ok <| tyAll_p tyStrs_ok <| tyAll_p tyBytes_ok <| tyAll_p tyInts_ok <| tyAll_p tyLat_ok <| tyAll_p tyI2_ok <| tyAll_p tyTy_ok <| tyAll_p tyTys_ok <| tyAll_p tyRule_ok <| tyAll_p tyAppl_ok tyAll_nil
def glRw : List (FuncId × Spc) := [(13, spLrg), (12, spTrue), (16, spRule), (17, spRRule), (18, spPub), (19, spPub)]
theorem glRw_ok : GOk Tryz.prog (lookG glRw) := lG_cons (by kernel_rfl) spLrg_ok <| lG_cons (by kernel_rfl) spShown21_ok <| lG_cons (by kernel_rfl) spRule_ok <| lG_cons (by kernel_rfl) spRRule_ok <| lG_cons (by kernel_rfl) spPub_ok <| lG_cons (by kernel_rfl) spRPub_ok lG_nil
set_option maxRecDepth 100000 in
set_option maxHeartbeats 8000000 in
theorem rules_walk (p o : Int) (n : Nat) (t : Nat → Ty) (A B D : Option Addr) (c e g : Nat) (ns : List ByteArray) (us : List Int) (hB : Bytes us) (bn on cn ba oa ca : Nat) (h4 : 4 ≤ cn) (h3 : 3 ≤ ca) (w : World) (hg : allRd w.heap.size w (ruHp bn on cn ba oa ca A B D c e g ns us n t)) :
    Calls Tryz.prog 6 (dens [.agg [.g 1001 A ns.length c, .g 1002 B us.length e], .agg [.v (.int .i64 p), .g 1003 D n g], .v (.int .i64 o)]).toArray w fun e' w' => e' = .returned (.bool true) ∧ Below w.heap.size w w' := by
  refine calls_go (args := [.agg [.g 1001 A ns.length c, .g 1002 B us.length e], .agg [.v (.int .i64 p), .g 1003 D n g], .v (.int .i64 o)]) (hp := ruHp bn on cn ba oa ca A B D c e g ns us n t) (nx := 2000) (n := 900) (U := [(1000000, 15)]) (V := []) (tl := tlRw) (gl := glRw) (post := fun s' ys => ys = [.v (.bool true)])
    followP tlRw_ok glRw_ok Tryz.func6 rfl (by kernel_rfl) (Nat.le_of_ble_eq_true (by kernel_rfl)) (by kernel_rfl) (by kernel_rfl) (hh_list hg) (free_list (by simp [allLt, ruHp, gHp])) ?_ ?_
  · rintro s ys w' rfl H
    exact ⟨rfl, H.below⟩
  intro L F T G nd va hE
  obtain ⟨hL, hF, hs, hv, hT, hG, hR, hI, hJ, hW⟩ := hE
  rw [Tryz.results6] at hF
  simp (maxSteps := 1000000) only [En.nN, En.E, En.evsC, List.map_cons, List.map_nil, ne_eq, En.bitN, Nat.testBit, seval] at hv
  simp only [En.at_nil, En.at_cons, En.ag_nil, En.ag_cons, and_true, tlRw, glRw, tyInt, tyU8, tyBool, tyStr, tyErr, tyStrs, tyBytes, tyInts, tyLat, tyI2, tyTy, tyTys, tyRule, tyAppl] at hT hG
  have b0 : ∀ b : Bool, (b == b) = true := fun b => by cases b <;> rfl
  generalize hxx : rulV ns us p n t = x
  cases hl : lrgV ns us
  · cases hn : decide ((10 : Int) < (n : Int))
    · simp (maxSteps := 10000000) only [En.E, En.evsC, List.map_cons, List.map_nil, ne_eq, En.bitN, Nat.testBit, seval, En.vV, hs, hv, hT, hG, hF, ruHp, gHp, h4, h3, globR_q, latR_q, latN_q, latU_q, hB, spLrg_q, hl, hn, spTrue_q, spRule_q, spRRule_q, spPub_q, tysP_g, tysQ_g, tysT_g, tysG_r, tysC_r, hxx, rvS, ruS, puS, b0, beq_self_eq_true, and_self]
    · simp (maxSteps := 10000000) only [En.E, En.evsC, List.map_cons, List.map_nil, ne_eq, En.bitN, Nat.testBit, seval, En.vV, hs, hv, hT, hG, hF, ruHp, gHp, h4, h3, globR_q, latR_q, latN_q, latU_q, hB, spLrg_q, hl, hn, spTrue_q, and_self]
  · simp (maxSteps := 10000000) only [En.E, En.evsC, List.map_cons, List.map_nil, ne_eq, En.bitN, Nat.testBit, seval, En.vV, hs, hv, hT, hG, hF, ruHp, gHp, h4, h3, globR_q, latR_q, latN_q, latU_q, hB, spLrg_q, hl, spTrue_q, and_self]
end Pr
end Go.Proofs.YtnpkmimbnjnicaaGreatDoor
