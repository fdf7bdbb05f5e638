/-
The walk of PrimsFits (chapter 12).
-/
import Derived.Test.YtaelfhjdmljblaaGreatDoorPa8
set_option linter.unusedSimpArgs false
set_option linter.unusedVariables false
namespace Go.Proofs.YtaelfhjdmljblaaGreatDoor
namespace Pr
open Go Go.RowKit En
open Ar Sc
def gamF : Gam := gcons 12 spFits (gcons 13 spRFits (gcons 11 spAwake12 gnil))
theorem gamF_ok : GOk Tryz.prog gamF := gOk_cons (by kernel_rfl) spFits_ok <| gOk_cons (by kernel_rfl) spRFits_ok <| gOk_cons (by kernel_rfl) spAwake12_ok gOk_nil
set_option maxRecDepth 100000 in
set_option maxHeartbeats 8000000 in
theorem fits_walk (p : Int) (ks rs : List Int) (A B : Option Addr) (c d : Nat) (bn on cn ba oa ca : Nat) (h4 : 4 ≤ cn) (h3 : 3 ≤ ca) (w : World) (hg : allRd w.heap.size w (gHp bn on cn ba oa ca)) (ha : SlOk w A c 1 ks.length (fI .i64 ks)) (hb : SlOk w B d 1 rs.length (fI .i64 rs)) :
    Calls Tryz.prog 3 #[.int .i64 p, .slice A ks.length c, .slice B rs.length d] w fun e w' => e = .returned (.bool true) ∧ Below w.heap.size w w' := by
  refine calls_run (args := [.v (.int .i64 p), .g 1000 A ks.length c, .g 1001 B rs.length d]) (hp := fitsHp A B c d ks rs bn on cn ba oa ca) (nx := 1002) (n := 1000) (U := []) (V := []) (T := lookT tiAw) (G := gamF) (post := fun s ys => ys = [.v (.bool true)])
    followP tiAw_ok gamF_ok Tryz.func3 rfl (by kernel_rfl) (by show 3 ≤ 54; decide) (hh_list ⟨⟨ha, rfl⟩, ⟨hb, rfl⟩, hg⟩) (free_list (by simp [allLt, gHp, fitsHp])) ?_ ?_
  · rintro s ys w' rfl H
    exact ⟨rfl, H.below⟩
  rw [Tryz.results3]
  simp (maxSteps := 10000000) only [En.evs0, En.evs1, En.evs2, En.evs3, En.evs4, En.evs5, En.evs6, En.evs7, En.evs8, En.evs9, En.evx0, List.toList_toArray, cond_true, cond_false, Nat.reduceBEq, Nat.reduceAdd, Nat.reduceMul, Nat.reduceEqDiff, Nat.reduceLeDiff, Nat.reduceLT, Bool.true_and, Bool.and_true, Bool.false_and, Bool.and_false, true_and, and_true, and_self, ne_eq, not_false_eq_true, reduceCtorEq, Bool.not_true, Bool.not_false, true_implies, not_true_eq_false, false_or, or_false, true_or, or_true, List.nil_append, List.cons_append, List.append_nil, List.map_cons, List.map_nil, Nat.le_refl, eq_self, forall_const, decide_true, decide_false, beq_self_eq_true, bne_self_eq_false, beq_true, beq_false, imp_self, Bool.true_beq, Bool.false_beq, Bool.bne_true, Bool.bne_false, Bool.true_bne, Bool.false_bne, Int.cast_ofNat_Int, Int.natCast_zero, Int.natCast_one, Int.reduceBEq, Int.reduceBNe, Int.reduceAdd, Int.reduceSub, Int.reduceMul, Int.reduceTDiv, Int.reduceTMod, Int.reduceNeg, Nat.add_sub_cancel_left, Nat.sub_self, Nat.le_add_right, List.append_eq, List.getD_cons_zero, List.getD_cons_succ, implies_true, false_implies, Bool.not_not, Bool.or_true, Bool.true_or, Bool.or_false, Bool.false_or, En.bitN, Nat.testBit, Nat.reduceShiftRight, Nat.reduceShiftLeft, Nat.reduceAnd, Nat.reduceOr, Nat.reduceBNe, Nat.zero_or, Nat.or_zero, Nat.sub_zero, Int.reduceToNat, Nat.reduceSub, Nat.zero_add, Nat.add_zero, List.length_cons, List.length_nil, Nat.zero_mul, Nat.reduceLeDiff, Int.reduceLE, Int.reduceLT, List.cons_ne_nil, tiAw, tiDo, tiFits, tiT, tiP, gamF, fitsHp, spFits_q, spRFits_q, spAwake12_q, fitsR_q, rfitsR_q, getN_q, getNC_i, globR_q, gHp, h4, h3, if_true, and_self]
  simp
end Pr
end Go.Proofs.YtaelfhjdmljblaaGreatDoor
