/-
Chapter 15: the walk of ExprKnown.
-/
import Derived.Test.YtpkldfkmokeamaaGreatDoorSo1
import Derived.Test.YtpkldfkmokeamaaGreatDoorAx1
set_option linter.unusedSimpArgs false
set_option linter.unusedVariables false
namespace Go.Proofs.YtpkldfkmokeamaaGreatDoor
namespace Pr
open Go Go.RowKit En
open Ex Rf Go.Sort
theorem kn1 : namU exE 4 = [[120]] := by kernel_rfl
theorem kn2 : namU exE 6 = [[102]] := by kernel_rfl
theorem kn0 (u : List UInt8) : Lib.compact (sortU [u]) = [u] := by
  refine asc_eq (compact_lt (sort_le _)) (List.pairwise_singleton _ _) fun x => ?_
  rw [mem_compact, sortU, List.mem_mergeSort]
theorem kn3 : namV exE 4 = [⟨#[120]⟩] := by rw [namV, resU, kn1, kn0]; rfl
theorem kn4 : namV exE 6 = [⟨#[102]⟩] := by rw [namV, resU, kn2, kn0]; rfl
theorem kn5 : nuE exE 5 = 0 := by kernel_rfl
theorem kn6 : nuF exE 5 = 9 := by kernel_rfl
theorem kn7 : (nuX exE 5).length = 6 := by kernel_rfl
theorem kn9 : sizV exE 1 = 2 := by kernel_rfl
theorem kn10 : askV exE 1 = 0 := by kernel_rfl
theorem getS_gp {H : Nat → Ch} {k b o n c : Nat} : getS H (.gp k b o n c) = if n ≤ c then (showC b o n (H k)).bind strsOf else none := rfl
theorem kn11 : nameV ⟨#[88]⟩ = false := by kernel_rfl
theorem ks0 : (ndAt (nuX exE 5) 0).s = 5 := by kernel_rfl
theorem ks1 : (ndAt (nuX exE 5) 1).s = 6 := by kernel_rfl
theorem ks2 : (ndAt (nuX exE 5) 2).s = 7 := by kernel_rfl
theorem ks3 : (ndAt (nuX exE 5) 3).s = 8 := by kernel_rfl
theorem ks4 : (ndAt (nuX exE 5) 4).s = 0 := by kernel_rfl
theorem ks5 : (ndAt (nuX exE 5) 5).s = 0 := by kernel_rfl
def adr : Option Addr → Addr
  | some a => a
  | none => ⟨0, 0, none⟩
def nuRm (c : Prop) (l : List Nd) (f : Int) (nx : Nat) : Res := bif nuE l f == 0 then .many c fun M => (.tup [.g nx (some (adr (M 0).1)) (nuX l f).length (M 0).2, .v (.int .i64 (nuF l f)), .v (.int .i64 0)], [(nx, .recs (some (adr (M 0).1)) (M 0).2 7 (nuX l f).length fun i => ndC (ndAt (nuX l f) i))]) else .is c (.tup [.v (.slice none 0 0), .v (.int .i64 0), .v (.int .i64 (nuE l f))])
theorem nuRm_vc {c : Prop} {l : List Nd} {f : Int} {nx : Nat} (h : (nuRm c l f nx).vc) : c := by
  unfold nuRm at h
  cases hq : (nuE l f == 0) <;> rw [hq] at h <;> exact h
theorem nuRm_ok {c : Prop} {l : List Nd} {f : Int} {nx : Nat} {O : Nat → Prop} {w0 w w' : World} {hp : Hp} {e : Ending} (H : HH w0 O hp w) (h : NuQ l f w e w') :
    ∃ u, e = .returned (den ((nuRm c l f nx).out u).1) ∧ Stp w0 hp w (nuRm c l f nx).wr ((nuRm c l f nx).out u).2 w' := by
  obtain ⟨hb, ⟨h0, rfl⟩ | ⟨h0, B, d, rfl, hs, hf⟩⟩ := h
  · have hr : nuRm c l f nx = .is c (.tup [.v (.slice none 0 0), .v (.int .i64 0), .v (.int .i64 (nuE l f))]) := by
      have : (nuE l f == 0) = false := by simpa using h0
      rw [nuRm, this]; rfl
    simp only [hr]
    exact ⟨⟨0, none, 0, none, 0, mz⟩, rfl, .still hb⟩
  · have hr : nuRm c l f nx = .many c fun M => (.tup [.g nx (some (adr (M 0).1)) (nuX l f).length (M 0).2, .v (.int .i64 (nuF l f)), .v (.int .i64 0)], [(nx, .recs (some (adr (M 0).1)) (M 0).2 7 (nuX l f).length fun i => ndC (ndAt (nuX l f) i))]) := by rw [nuRm, h0]; rfl
    have h1 : (chkV l).2 = 0 := by
      by_cases e : (chkV l).2 = 0
      · exact e
      · rw [nuE, if_pos e] at h0; exact absurd h0 e
    have hn : (nuX l f).length ≠ 0 := by rw [nuX, nuL_len]; exact (chk_ok h1).1
    obtain ⟨a, rfl⟩ : ∃ a, B = some a := by
      obtain ⟨b, o, e, _⟩ := hs.1.2 hn
      exact ⟨_, e⟩
    simp only [hr]
    refine ⟨⟨0, none, 0, none, 0, fun _ => (some a, d)⟩, rfl, Stp.rd hb ⟨⟨hs, rfl⟩, trivial⟩ fun k b' hx => ?_⟩
    exact foot_look (Q := fun b => w.heap.size ≤ b ∨ ∃ j, foot (lookH hp j) b ∧ mutb (lookH hp j) = false) (l := [(_, _)]) ⟨fun b hb => .inl (hf b hb), trivial⟩ hx
def spNum15m : Spc
  | [.g k A n c, .v (.int .i64 f)], H, nx => nuRm (ckR A n c k H) (chL n (H k)) f nx
  | _, _, _ => .bad
theorem spNum15m_q {k n c : Nat} {A : Option Addr} {f : Int} {H : Nat → Ch} {nx : Nat} : spNum15m [.g k A n c, .v (.int .i64 f)] H nx = nuRm (ckR A n c k H) (chL n (H k)) f nx := rfl
theorem spNum15m_ok : SpecOk Tryz.prog 34 spNum15m := by
  intro args hp nx w0 O w H hv
  unfold spNum15m at hv ⊢
  split at hv
  · next k A n c f =>
    have hc := nuRm_vc hv
    obtain ⟨bn, on, cn, ba, oa, ca, h4, h3, hl, hr, ho⟩ := ck_old H hc rfl
    obtain ⟨_, hn, hz, _⟩ := hc
    generalize chL n (lookH hp k) = l at hl hz hr ho hv ⊢
    subst hl
    exact (number15_any l hn hz f A c bn on cn ba oa ca h4 h3 w hr).mono fun e w' h => nuRm_ok H h
  · exact hv.elim
def tySix : TypeId × TI := (50, ⟨true, true, 6, [.v (.int .i64 0), .v (.int .i64 0), .v (.int .i64 0), .v (.int .i64 0), .v (.int .i64 0), .v (.int .i64 0)], [], 3, 6, 8, 2, 1⟩)
theorem tySix_ok : TyOk Tryz.prog tySix.1 tySix.2 := .mk' (by kernel_rfl) (by kernel_rfl) (by decide) (by decide) (by kernel_rfl) (by kernel_rfl)
def tlKn : List (TypeId × TI) := tySix :: tlSt
theorem tlKn_ok : TyAll Tryz.prog (lookT tlKn) := tyAll_p tySix_ok tlSt_ok
def glKn : List (FuncId × Spc) := [(36, spNodes exE), (12, spShown15), (29, spNames15), (32, spCalls15), (34, spNum15m), (17, spSizeP), (15, spName15), (31, spStrs15)]
theorem glKn_ok : GOk Tryz.prog (lookG glKn) := lG_cons (by kernel_rfl) (spNodes_ok example15_any) <| lG_cons (by kernel_rfl) spShown15_ok <| lG_cons (by kernel_rfl) spNames15_ok <| lG_cons (by kernel_rfl) spCalls15_ok <| lG_cons (by kernel_rfl) spNum15m_ok <| lG_cons (by kernel_rfl) spSizeP_ok <| lG_cons (by kernel_rfl) spName15_ok <| lG_cons (by kernel_rfl) spStrs15_ok lG_nil
set_option maxRecDepth 100000 in
set_option maxHeartbeats 4000000 in
theorem exprKnown_walk (bn on cn ba oa ca : Nat) (h4 : 4 ≤ cn) (h3 : 3 ≤ ca) (w : World) (h : allRd w.heap.size w (gHu bn on cn ba oa ca)) :
    Calls Tryz.prog 9 #[] w fun e w' => e = .returned (.bool true) ∧ Below w.heap.size w w' := by
  refine calls_go (args := []) (hp := gHu bn on cn ba oa ca) (nx := 1000) (n := 1000) (U := [(9, 7), (1000000, 12)]) (V := []) (tl := tlKn) (gl := glKn) (post := fun s ys => ys = [.v (.bool true)])
    followP tlKn_ok glKn_ok Tryz.func9 rfl (by kernel_rfl) (Nat.le_of_ble_eq_true (by kernel_rfl)) (by kernel_rfl) (by kernel_rfl) (hh_list h) (free_list (by simp [allLt, gHu, gHp])) ?_ ?_
  · rintro s ys w' rfl H
    exact ⟨rfl, H.below⟩
  intro L F T G nd va hE
  obtain ⟨hL, hF, hs, hv, hT, hG, hR, hI, hJ, hW⟩ := hE
  rw [Tryz.results9] at hF
  simp (maxSteps := 1000000) only [En.nN, En.E, En.evsC, List.map_cons, List.map_nil, Nat.reduceBEq, Nat.reduceAdd, Nat.reduceMul, Nat.reduceEqDiff, Nat.reduceLeDiff, Nat.reduceLT, ne_eq, reduceCtorEq, Int.reduceBEq, Int.reduceBNe, Int.reduceAdd, Int.reduceSub, Int.reduceMul, Int.reduceTDiv, Int.reduceTMod, Int.reduceNeg, En.bitN, Nat.testBit, Nat.reduceShiftRight, Nat.reduceShiftLeft, Nat.reduceAnd, Nat.reduceOr, Nat.reduceBNe, Int.reduceToNat, Nat.reduceSub, Int.reduceLE, Int.reduceLT] at hv
  simp only [En.at_nil, En.at_cons, En.ag_nil, En.ag_cons, and_true, tlKn, tlSt, glKn, tlRe, tySix, tyStrs, tyInt, tyI64, tyBool, tyStr, tyErr, tyNode, tyNodes, tyInts] at hT hG
  have hz := zs_exE
  have l6 : exE.length = 6 := rfl
  have n6 : (6 : Nat) ≤ 100000 := by decide
  have e0 : ((chkV exE).2 == 0) = true := by rw [ax10]; rfl
  have e1 : (nuE exE 5 == 0) = true := by rw [kn5]; rfl
  have gx : ∀ b t, (showC b 0 1 (.blk b [.v (.string ⟨#[120]⟩)] t)).bind strsOf = some [⟨#[120]⟩] := fun b t => by
    rw [showC, if_pos ⟨rfl, Nat.le_refl 1⟩]; rfl
  have gf : ∀ b t, (showC b 0 1 (.blk b [.v (.string ⟨#[102]⟩)] t)).bind strsOf = some [⟨#[102]⟩] := fun b t => by
    rw [showC, if_pos ⟨rfl, Nat.le_refl 1⟩]; rfl
  have m1 : ([⟨#[120]⟩] : List ByteArray).length ≤ 9223372036854775807 := by decide
  have m2 : ([⟨#[102]⟩] : List ByteArray).length ≤ 9223372036854775807 := by decide
  have t1 : decide (([⟨#[120]⟩] : List ByteArray) = [⟨#[120]⟩]) = true := decide_eq_true rfl
  have t2 : decide (([⟨#[102]⟩] : List ByteArray) = [⟨#[102]⟩]) = true := decide_eq_true rfl
  simp (maxSteps := 10000000) only [En.E, En.evsC, List.map_cons, List.map_nil, Nat.reduceBEq, Nat.reduceAdd, Nat.reduceMul, Nat.reduceEqDiff, Nat.reduceLeDiff, Nat.reduceLT, ne_eq, reduceCtorEq, Int.reduceBEq, Int.reduceBNe, Int.reduceAdd, Int.reduceSub, Int.reduceMul, Int.reduceTDiv, Int.reduceTMod, Int.reduceNeg, En.bitN, Nat.testBit, Nat.reduceShiftRight, Nat.reduceShiftLeft, Nat.reduceAnd, Nat.reduceOr, Nat.reduceBNe, Int.reduceToNat, Nat.reduceSub, Int.reduceLE, Int.reduceLT, En.vV, hs, hv, hT, hG, hF, gHu, gHp, spNodes_q, l6, spSizeP_q, ckR, NdR_6, chL_6, n6, hz, globR_q, globU_q, h4, h3, kn9, kn10, kn11, spName15_q, spNames15_q, spCalls15_q, stR, e0, kn3, kn4, spNum15m_q, nuRm, e1, kn6, kn7, ks0, ks1, ks2, ks3, ks4, ks5, ndC_n, spShown15_q, spStrs15_q, getS_g, getS_gp, strsR_q, if_true, gx, gf, m1, m2, t1, t2, List.length_cons, List.length_nil, reduceCtorEq, not_false_eq_true]
  exact ⟨by simp only [En.inr, En.lo, En.hi]; omega, by simp only [En.inr, En.lo, En.hi]; omega, by simp only [En.inr, En.lo, En.hi]; omega, by simp only [En.inr, En.lo, En.hi]; omega, by simp only [En.inr, En.lo, En.hi]; omega, by simp only [En.inr, En.lo, En.hi]; omega, by decide⟩
end Pr
end Go.Proofs.YtpkldfkmokeamaaGreatDoor
