/-
Chapter 25: the least steps of an expression, with those of the bodies of functions.
-/
import Derived.Test.YtapgddiocdcaeaaGreatDoorCo1
set_option linter.unusedSimpArgs false
set_option linter.unusedVariables false
namespace Go.Proofs.YtapgddiocdcaeaaGreatDoor
namespace Pr
open Go Go.RowKit En
open Ex
def minV (s : Int) : Int := if 1000000000 < s then 1000000000 else s
/-- the steps from a place on -/
def lkF (es : List (MK × List Int)) (l : List Nd) : Nat → Nat → Int → Int × Int
  | 0, _, s => (minV s, 0)
  | f + 1, i, s => if l.length ≤ i then (minV s, 0)
    else if (ndAt l i).k = 6 then (match fnd es (.s (ndAt l i).nm) with
      | none => (0, 24)
      | some v => if v.getD 1 0 = (ndAt l i).c then lkF es l f (i + 1) (s + 1 + v.getD 0 0) else (0, 23))
    else lkF es l f (i + 1 + Ks l i) (s + 1)
def lookV (es : List (MK × List Int)) (l : List Nd) : Int × Int := if (chkV l).2 = 0 then lkF es l l.length 0 0 else (0, (chkV l).2)
/-- steps and parameters that a table may tell -/
def esOk (es : List (MK × List Int)) : Prop := ∀ k v, fnd es k = some v → ∃ s p, v = [s, p] ∧ 0 ≤ s ∧ s ≤ 1000000000 ∧ inr .i64 p
def tlLk : List (TypeId × TI) := [tyInt, tyI64, tyBool, tyStr, tyErr, tyNode, tyNodes, tyBody, tyBodies]
theorem tlLk_ok : TyAll Tryz.prog (lookT tlLk) := tyAll_p tyInt_ok <| tyAll_p tyI64_ok <| tyAll_p tyBool_ok <| tyAll_p tyStr_ok <| tyAll_p tyErr_ok <| tyAll_p tyNode_ok <| tyAll_p tyNodes_ok <| tyAll_p tyBody_ok <| tyAll_p tyBodies_ok tyAll_nil
def glLk : List (FuncId × Spc) := [(66, spExC)]
theorem glLk_ok : GOk Tryz.prog (lookG glLk) := lG_cons (by kernel_rfl) spExC_ok lG_nil
section
variable (l : List Nd) (es : List (MK × List Int)) (A : Option Addr) (c b bn on cn ba oa ca : Nat)
def lkH : Hp := (1001, .rmp b .string true [.int .i64, .int .i64] es) :: (1000, .recs A c 7 l.length (fun i => ndC (ndAt l i))) :: gHu bn on cn ba oa ca
def lkI (i k : Nat) (s : Int) : SS :=
  ⟨[(0, .m 1001 b), (1, .g 1000 A l.length c), (4, .v (.int .i64 s)), (5, .v (.int .i64 0)), (8, .v (.int .i64 k)), (9, .v (.int .i64 i))], lkH l es A c b bn on cn ba oa ca, 30000⟩
end
theorem minV_q (s : Int) : (if (1000000000 : Int) < s then 1000000000 else s) = minV s := rfl
set_option maxRecDepth 100000 in
set_option maxHeartbeats 4000000 in
theorem look_any (l : List Nd) (es : List (MK × List Int)) (he : esOk es) (hlen : l.length ≤ 100000) (hz : zsN l) (A : Option Addr) (c b bn on cn ba oa ca : Nat) (h4 : 4 ≤ cn) (h3 : 3 ≤ ca) (w : World)
    (h : allRd w.heap.size w (lkH l es A c b bn on cn ba oa ca)) :
    Calls Tryz.prog 45 #[.map (some b), .slice A l.length c] w fun e w' => e = .returned (.tuple #[.int .i64 (lookV es l).1, .int .i64 (lookV es l).2]) ∧ Below w.heap.size w w' := by
  obtain ⟨q, hq⟩ : ∃ q, q = lookV es l := ⟨_, rfl⟩
  rw [← hq]
  refine calls_go (args := [.m 1001 b, .g 1000 A l.length c]) (hp := lkH l es A c b bn on cn ba oa ca) (nx := 1002) (n := 4000) (U := [(1000000, 67)]) (V := []) (tl := tlLk) (gl := glLk) (post := fun s ys => ys = [.v (.int .i64 q.1), .v (.int .i64 q.2)])
    followP tlLk_ok glLk_ok Tryz.func45 rfl (by kernel_rfl) (Nat.le_of_ble_eq_true (by kernel_rfl)) (by kernel_rfl) (by kernel_rfl) (hh_list h) (free_list (by simp [allLt, lkH, gHu, gHp])) ?_ ?_
  · rintro s ys w' rfl H
    exact ⟨rfl, H.below⟩
  intro L F T G nd va hE
  obtain ⟨hL, hF, hs, hv, hT, hG, hR, hI, hJ, hW⟩ := hE
  rw [Tryz.results45] at hF
  simp (maxSteps := 1000000) only [En.nN, En.E, En.evsC, List.map_cons, List.map_nil, Nat.reduceBEq, Nat.reduceAdd, Nat.reduceMul, Nat.reduceEqDiff, Nat.reduceLeDiff, Nat.reduceLT, ne_eq, reduceCtorEq, Int.reduceBEq, Int.reduceBNe, Int.reduceAdd, Int.reduceSub, Int.reduceMul, Int.reduceTDiv, Int.reduceTMod, Int.reduceNeg, En.bitN, Nat.testBit, Nat.reduceShiftRight, Nat.reduceShiftLeft, Nat.reduceAnd, Nat.reduceOr, Nat.reduceBNe, Int.reduceToNat, Nat.reduceSub, Int.reduceLE, Int.reduceLT] at hv
  simp only [En.at_nil, En.at_cons, En.ag_nil, En.ag_cons, and_true, tlLk, glLk, tyInt, tyI64, tyBool, tyStr, tyErr, tyNode, tyNodes, tyBody, tyBodies] at hT hG
  rw [lookV] at hq
  by_cases h0 : (chkV l).2 = 0
  · have d0 : ((chkV l).2 != 0) = false := by rw [h0]; rfl
    rw [if_pos h0] at hq
    obtain ⟨g0, g1, hgood, g2⟩ := chk_ok h0
    simp (maxSteps := 10000000) only [En.E, En.evsC, List.map_cons, List.map_nil, Nat.reduceBEq, Nat.reduceAdd, Nat.reduceMul, Nat.reduceEqDiff, Nat.reduceLeDiff, Nat.reduceLT, ne_eq, reduceCtorEq, Int.reduceBEq, Int.reduceBNe, Int.reduceAdd, Int.reduceSub, Int.reduceMul, Int.reduceTDiv, Int.reduceTMod, Int.reduceNeg, En.bitN, Nat.testBit, Nat.reduceShiftRight, Nat.reduceShiftLeft, Nat.reduceAnd, Nat.reduceOr, Nat.reduceBNe, Int.reduceToNat, Nat.reduceSub, Int.reduceLE, Int.reduceLT, En.vV, hs, hv, hT, hG, hF, lkH, gHu, gHp, spExC_q, ckR, NdR_q, chL_q, globR_q, globU_q, hlen, hz, h4, h3, d0]
    refine hI {x : Nat × Nat × Int // x.1 + x.2.1 ≤ l.length ∧ 0 ≤ x.2.2 ∧ x.2.2 ≤ x.1 * 1000000001 ∧ ∃ f, l.length ≤ x.1 + x.2.1 + f ∧ q = lkF es l f (x.1 + x.2.1) x.2.2} (fun x => lkI l es A c b bn on cn ba oa ca x.1.1 x.1.2.1 x.1.2.2) (fun x => l.length - x.1.1) _ _ _
      ⟨(0, 0, 0), by simp, by simp, by simp, l.length, by simp, by simpa using hq⟩ (sle_all [1001, 1000, 4, 5, 0, 1, 2, 3] (by decide) (by simp only [En.E, En.evsC, List.map_cons, List.map_nil, Nat.reduceBEq, Nat.reduceAdd, Nat.reduceMul, Nat.reduceEqDiff, Nat.reduceLeDiff, Nat.reduceLT, ne_eq, reduceCtorEq, Int.reduceBEq, Int.reduceBNe, Int.reduceAdd, Int.reduceSub, Int.reduceMul, Int.reduceTDiv, Int.reduceTMod, Int.reduceNeg, En.bitN, Nat.testBit, Nat.reduceShiftRight, Nat.reduceShiftLeft, Nat.reduceAnd, Nat.reduceOr, Nat.reduceBNe, Int.reduceToNat, Nat.reduceSub, Int.reduceLE, Int.reduceLT, En.slLe, En.hpLe, En.chE, En.allLt, lkI, lkH, gHu, gHp, Int.cast_ofNat_Int])) ?_
    rintro ⟨⟨i, k, s⟩, hik, hs0, hs1, f, hf, hqf⟩
    simp only at hik hs0 hs1 hf hqf
    refine hR 3000 _ _ ?_
    have i1 : inr .i64 ((i : Int) + 1) := by simp only [En.inr, En.lo, En.hi]; omega
    by_cases hlt : i < l.length
    · have d1 : decide ((i : Int) < (l.length : Int)) = true := decide_eq_true (by omega)
      cases k with
      | succ k =>
        have d2 : decide (((k + 1 : Nat) : Int) > 0) = true := decide_eq_true (by omega)
        have e0 : ((k + 1 : Nat) : Int) - 1 = k := by omega
        have i2 : inr .i64 (k : Int) := by simp only [En.inr, En.lo, En.hi]; omega
        simp (maxSteps := 10000000) only [En.E, En.evsC, List.map_cons, List.map_nil, Nat.reduceBEq, Nat.reduceAdd, Nat.reduceMul, Nat.reduceEqDiff, Nat.reduceLeDiff, Nat.reduceLT, ne_eq, reduceCtorEq, Int.reduceBEq, Int.reduceBNe, Int.reduceAdd, Int.reduceSub, Int.reduceMul, Int.reduceTDiv, Int.reduceTMod, Int.reduceNeg, En.bitN, Nat.testBit, Nat.reduceShiftRight, Nat.reduceShiftLeft, Nat.reduceAnd, Nat.reduceOr, Nat.reduceBNe, Int.reduceToNat, Nat.reduceSub, Int.reduceLE, Int.reduceLT, En.vV, hs, hv, hT, hG, hF, lkI, lkH, gHu, gHp, d1, d2, e0, i1, i2]
        exact ⟨⟨(i + 1, k, s), by simp only; omega, hs0, by simp only; omega, f, by simp only; omega, by rw [hqf, show i + (k + 1) = i + 1 + k by omega]⟩, (sle_all [1001, 1000, 4, 5, 0, 1, 2, 3] (by decide) (by simp only [En.E, En.evsC, List.map_cons, List.map_nil, Nat.reduceBEq, Nat.reduceAdd, Nat.reduceMul, Nat.reduceEqDiff, Nat.reduceLeDiff, Nat.reduceLT, ne_eq, reduceCtorEq, Int.reduceBEq, Int.reduceBNe, Int.reduceAdd, Int.reduceSub, Int.reduceMul, Int.reduceTDiv, Int.reduceTMod, Int.reduceNeg, En.bitN, Nat.testBit, Nat.reduceShiftRight, Nat.reduceShiftLeft, Nat.reduceAnd, Nat.reduceOr, Nat.reduceBNe, Int.reduceToNat, Nat.reduceSub, Int.reduceLE, Int.reduceLT, En.slLe, En.hpLe, En.chE, En.allLt, lkI, lkH, gHu, gHp, ndC, Int.natCast_add, Int.cast_ofNat_Int])), by simp only; omega⟩
      | zero =>
        have d2 : decide (((0 : Nat) : Int) > 0) = false := rfl
        have i2 : inr .i64 (s + 1) := by simp only [En.inr, En.lo, En.hi]; omega
        obtain ⟨f, rfl⟩ : ∃ g, f = g + 1 := ⟨f - 1, by omega⟩
        simp only [Nat.add_zero] at hqf hf hik
        rw [lkF, if_neg (by omega)] at hqf
        by_cases h3' : (ndAt l i).k = 3
        · have d3 : ((ndAt l i).k == 3) = true := by rw [h3']; rfl
          obtain ⟨hc0, hc1⟩ := hgood.ls i hlt h3'
          have hK : (ndAt l i).c = (Ks l i : Int) := by simp only [Ks, Kn, if_pos h3']; omega
          simp (maxSteps := 10000000) only [En.E, En.evsC, List.map_cons, List.map_nil, Nat.reduceBEq, Nat.reduceAdd, Nat.reduceMul, Nat.reduceEqDiff, Nat.reduceLeDiff, Nat.reduceLT, ne_eq, reduceCtorEq, Int.reduceBEq, Int.reduceBNe, Int.reduceAdd, Int.reduceSub, Int.reduceMul, Int.reduceTDiv, Int.reduceTMod, Int.reduceNeg, En.bitN, Nat.testBit, Nat.reduceShiftRight, Nat.reduceShiftLeft, Nat.reduceAnd, Nat.reduceOr, Nat.reduceBNe, Int.reduceToNat, Nat.reduceSub, Int.reduceLE, Int.reduceLT, En.vV, hs, hv, hT, hG, hF, lkI, lkH, gHu, gHp, d1, d2, d3, i1, i2, ndC, Int.toNat_natCast, hK]
          rw [if_neg (by omega)] at hqf
          exact ⟨by omega, by omega, fun b1 => ⟨⟨(i + 1, Ks l i, s + 1), by simp only; omega, by simp only; omega, by simp only; omega, f, by simp only; omega, hqf⟩, (sle_all [1001, 1000, 4, 5, 0, 1, 2, 3] (by decide) (by simp only [En.E, En.evsC, List.map_cons, List.map_nil, Nat.reduceBEq, Nat.reduceAdd, Nat.reduceMul, Nat.reduceEqDiff, Nat.reduceLeDiff, Nat.reduceLT, ne_eq, reduceCtorEq, Int.reduceBEq, Int.reduceBNe, Int.reduceAdd, Int.reduceSub, Int.reduceMul, Int.reduceTDiv, Int.reduceTMod, Int.reduceNeg, En.bitN, Nat.testBit, Nat.reduceShiftRight, Nat.reduceShiftLeft, Nat.reduceAnd, Nat.reduceOr, Nat.reduceBNe, Int.reduceToNat, Nat.reduceSub, Int.reduceLE, Int.reduceLT, En.slLe, En.hpLe, En.chE, En.allLt, lkI, lkH, gHu, gHp, ndC, Int.natCast_add, Int.cast_ofNat_Int])), by simp only; omega⟩⟩
        · have d3 : ((ndAt l i).k == 3) = false := by rw [beq_eq_false_iff_ne]; exact h3'
          have hK : Ks l i = 0 := if_neg h3'
          by_cases h6 : (ndAt l i).k = 6
          · have d6 : ((ndAt l i).k == 6) = true := by rw [h6]; rfl
            rw [if_pos h6] at hqf
            cases hfn : fnd es (.s (ndAt l i).nm) with
            | none =>
              rw [hfn] at hqf
              simp only at hqf
              simp (maxSteps := 10000000) only [En.E, En.evsC, List.map_cons, List.map_nil, Nat.reduceBEq, Nat.reduceAdd, Nat.reduceMul, Nat.reduceEqDiff, Nat.reduceLeDiff, Nat.reduceLT, ne_eq, reduceCtorEq, Int.reduceBEq, Int.reduceBNe, Int.reduceAdd, Int.reduceSub, Int.reduceMul, Int.reduceTDiv, Int.reduceTMod, Int.reduceNeg, En.bitN, Nat.testBit, Nat.reduceShiftRight, Nat.reduceShiftLeft, Nat.reduceAnd, Nat.reduceOr, Nat.reduceBNe, Int.reduceToNat, Nat.reduceSub, Int.reduceLE, Int.reduceLT, En.vV, hs, hv, hT, hG, hF, lkI, lkH, gHu, gHp, d1, d2, d3, d6, i1, i2, ndC, Int.toNat_natCast, hfn, hqf, Option.isSome_none, Option.isSome_some, Option.getD_some, Option.getD_none, List.tail_cons, List.headD_cons]
              exact ⟨by omega, by omega, rfl⟩
            | some v =>
              obtain ⟨s', p', rfl, b1, b2, b3⟩ := he _ _ hfn
              rw [hfn] at hqf
              simp only [List.getD_cons_zero, List.getD_cons_succ] at hqf
              by_cases hpc : p' = (ndAt l i).c
              · have d7 : (p' != (ndAt l i).c) = false := by simp [hpc]
                rw [if_pos hpc] at hqf
                have i3 : inr .i64 (s + 1 + s') := by simp only [En.inr, En.lo, En.hi]; omega
                simp (maxSteps := 10000000) only [En.E, En.evsC, List.map_cons, List.map_nil, Nat.reduceBEq, Nat.reduceAdd, Nat.reduceMul, Nat.reduceEqDiff, Nat.reduceLeDiff, Nat.reduceLT, ne_eq, reduceCtorEq, Int.reduceBEq, Int.reduceBNe, Int.reduceAdd, Int.reduceSub, Int.reduceMul, Int.reduceTDiv, Int.reduceTMod, Int.reduceNeg, En.bitN, Nat.testBit, Nat.reduceShiftRight, Nat.reduceShiftLeft, Nat.reduceAnd, Nat.reduceOr, Nat.reduceBNe, Int.reduceToNat, Nat.reduceSub, Int.reduceLE, Int.reduceLT, En.vV, hs, hv, hT, hG, hF, lkI, lkH, gHu, gHp, d1, d2, d3, d6, d7, i1, i2, i3, ndC, Int.toNat_natCast, hfn, Option.isSome_none, Option.isSome_some, Option.getD_some, Option.getD_none, List.tail_cons, List.headD_cons]
                refine ⟨by omega, by omega, fun _ => ⟨rfl, fun _ => ⟨⟨(i + 1, 0, s + 1 + s'), by simp only; omega, by simp only; omega, by simp only; omega, f, by simp only; omega, hqf⟩, (sle_all [1001, 1000, 4, 5, 0, 1, 2, 3] (by decide) (by simp only [En.E, En.evsC, List.map_cons, List.map_nil, Nat.reduceBEq, Nat.reduceAdd, Nat.reduceMul, Nat.reduceEqDiff, Nat.reduceLeDiff, Nat.reduceLT, ne_eq, reduceCtorEq, Int.reduceBEq, Int.reduceBNe, Int.reduceAdd, Int.reduceSub, Int.reduceMul, Int.reduceTDiv, Int.reduceTMod, Int.reduceNeg, En.bitN, Nat.testBit, Nat.reduceShiftRight, Nat.reduceShiftLeft, Nat.reduceAnd, Nat.reduceOr, Nat.reduceBNe, Int.reduceToNat, Nat.reduceSub, Int.reduceLE, Int.reduceLT, En.slLe, En.hpLe, En.chE, En.allLt, lkI, lkH, gHu, gHp, ndC, Int.natCast_add, Int.cast_ofNat_Int])), by simp only; omega⟩⟩⟩
              · have d7 : (p' != (ndAt l i).c) = true := by simp [hpc]
                rw [if_neg hpc] at hqf
                simp (maxSteps := 10000000) only [En.E, En.evsC, List.map_cons, List.map_nil, Nat.reduceBEq, Nat.reduceAdd, Nat.reduceMul, Nat.reduceEqDiff, Nat.reduceLeDiff, Nat.reduceLT, ne_eq, reduceCtorEq, Int.reduceBEq, Int.reduceBNe, Int.reduceAdd, Int.reduceSub, Int.reduceMul, Int.reduceTDiv, Int.reduceTMod, Int.reduceNeg, En.bitN, Nat.testBit, Nat.reduceShiftRight, Nat.reduceShiftLeft, Nat.reduceAnd, Nat.reduceOr, Nat.reduceBNe, Int.reduceToNat, Nat.reduceSub, Int.reduceLE, Int.reduceLT, En.vV, hs, hv, hT, hG, hF, lkI, lkH, gHu, gHp, d1, d2, d3, d6, d7, i1, i2, ndC, Int.toNat_natCast, hfn, hqf, Option.isSome_none, Option.isSome_some, Option.getD_some, Option.getD_none, List.tail_cons, List.headD_cons]
                exact ⟨by omega, by omega, rfl⟩
          · have d6 : ((ndAt l i).k == 6) = false := by rw [beq_eq_false_iff_ne]; exact h6
            rw [if_neg h6, hK, Nat.add_zero] at hqf
            simp (maxSteps := 10000000) only [En.E, En.evsC, List.map_cons, List.map_nil, Nat.reduceBEq, Nat.reduceAdd, Nat.reduceMul, Nat.reduceEqDiff, Nat.reduceLeDiff, Nat.reduceLT, ne_eq, reduceCtorEq, Int.reduceBEq, Int.reduceBNe, Int.reduceAdd, Int.reduceSub, Int.reduceMul, Int.reduceTDiv, Int.reduceTMod, Int.reduceNeg, En.bitN, Nat.testBit, Nat.reduceShiftRight, Nat.reduceShiftLeft, Nat.reduceAnd, Nat.reduceOr, Nat.reduceBNe, Int.reduceToNat, Nat.reduceSub, Int.reduceLE, Int.reduceLT, En.vV, hs, hv, hT, hG, hF, lkI, lkH, gHu, gHp, d1, d2, d3, d6, i1, i2, ndC, Int.toNat_natCast]
            exact ⟨by omega, by omega, fun _ => ⟨⟨(i + 1, 0, s + 1), by simp only; omega, by simp only; omega, by simp only; omega, f, by simp only; omega, hqf⟩, (sle_all [1001, 1000, 4, 5, 0, 1, 2, 3] (by decide) (by simp only [En.E, En.evsC, List.map_cons, List.map_nil, Nat.reduceBEq, Nat.reduceAdd, Nat.reduceMul, Nat.reduceEqDiff, Nat.reduceLeDiff, Nat.reduceLT, ne_eq, reduceCtorEq, Int.reduceBEq, Int.reduceBNe, Int.reduceAdd, Int.reduceSub, Int.reduceMul, Int.reduceTDiv, Int.reduceTMod, Int.reduceNeg, En.bitN, Nat.testBit, Nat.reduceShiftRight, Nat.reduceShiftLeft, Nat.reduceAnd, Nat.reduceOr, Nat.reduceBNe, Int.reduceToNat, Nat.reduceSub, Int.reduceLE, Int.reduceLT, En.slLe, En.hpLe, En.chE, En.allLt, lkI, lkH, gHu, gHp, ndC, Int.natCast_add, Int.cast_ofNat_Int])), by simp only; omega⟩⟩
    · have d1 : decide ((i : Int) < (l.length : Int)) = false := decide_eq_false (by omega)
      have hk : k = 0 := by omega
      have hqq : q = (minV s, 0) := by
        rw [hqf]
        cases f with
        | zero => rfl
        | succ f => rw [lkF, if_pos (by omega)]
      simp (maxSteps := 10000000) only [En.E, En.evsC, List.map_cons, List.map_nil, Nat.reduceBEq, Nat.reduceAdd, Nat.reduceMul, Nat.reduceEqDiff, Nat.reduceLeDiff, Nat.reduceLT, ne_eq, reduceCtorEq, Int.reduceBEq, Int.reduceBNe, Int.reduceAdd, Int.reduceSub, Int.reduceMul, Int.reduceTDiv, Int.reduceTMod, Int.reduceNeg, En.bitN, Nat.testBit, Nat.reduceShiftRight, Nat.reduceShiftLeft, Nat.reduceAnd, Nat.reduceOr, Nat.reduceBNe, Int.reduceToNat, Nat.reduceSub, Int.reduceLE, Int.reduceLT, En.vV, hs, hv, hT, hG, hF, lkI, lkH, gHu, gHp, d1, minV_q, hqq]
  · have d0 : ((chkV l).2 != 0) = true := by simpa using h0
    rw [if_neg h0] at hq
    simp (maxSteps := 10000000) only [En.E, En.evsC, List.map_cons, List.map_nil, Nat.reduceBEq, Nat.reduceAdd, Nat.reduceMul, Nat.reduceEqDiff, Nat.reduceLeDiff, Nat.reduceLT, ne_eq, reduceCtorEq, Int.reduceBEq, Int.reduceBNe, Int.reduceAdd, Int.reduceSub, Int.reduceMul, Int.reduceTDiv, Int.reduceTMod, Int.reduceNeg, En.bitN, Nat.testBit, Nat.reduceShiftRight, Nat.reduceShiftLeft, Nat.reduceAnd, Nat.reduceOr, Nat.reduceBNe, Int.reduceToNat, Nat.reduceSub, Int.reduceLE, Int.reduceLT, En.vV, hs, hv, hT, hG, hF, lkH, gHu, gHp, spExC_q, ckR, NdR_q, chL_q, globR_q, globU_q, hlen, hz, h4, h3, d0, hq]
end Pr
end Go.Proofs.YtapgddiocdcaeaaGreatDoor
/-
Chapter 25: the bodies of functions, and the least steps of an expression with them (the program's).
-/
set_option linter.unusedSimpArgs false
set_option linter.unusedVariables false
namespace Go.Proofs.YtapgddiocdcaeaaGreatDoor
namespace Pr
open Go Go.RowKit En
open Ex
/-- a map of bodies, whether it may be written or not -/
def bodR (b : Nat) : Ch → Prop
  | .mp b' d agg ks _ => b' = b ∧ d = .string ∧ agg = true ∧ ks = [.int .i64, .int .i64]
  | .rmp b' d agg ks _ => b' = b ∧ d = .string ∧ agg = true ∧ ks = [.int .i64, .int .i64]
  | _ => False
def bodE : Ch → List (MK × List Int)
  | .mp _ _ _ _ es => es
  | .rmp _ _ _ _ es => es
  | _ => []
theorem bodR_m {b : Nat} {es : List (MK × List Int)} : bodR b (.mp b .string true [.int .i64, .int .i64] es) = True := by simp [bodR]
theorem bodE_m {b : Nat} {d : TypeDesc} {a : Bool} {ks : List MV} {es : List (MK × List Int)} : bodE (.mp b d a ks es) = es := rfl
theorem bodR_hold {b B : Nat} {w : World} {x : Ch} (h : bodR b x) (hh : Hold B w x) (B' : Nat) : Hold B' w (.rmp b .string true [.int .i64, .int .i64] (bodE x)) := by
  unfold bodR at h
  split at h
  · obtain ⟨rfl, rfl, rfl, rfl⟩ := h; exact hh.2
  · obtain ⟨rfl, rfl, rfl, rfl⟩ := h; exact hh
  · exact h.elim
def spLook : Spc
  | [.m kb b, .g k A n c], H, _ => .is (bodR b (H kb) ∧ esOk (bodE (H kb)) ∧ ckR A n c k H) (.tup [.v (.int .i64 (lookV (bodE (H kb)) (chL n (H k))).1), .v (.int .i64 (lookV (bodE (H kb)) (chL n (H k))).2)])
  | _, _, _ => .bad
theorem spLook_q {kb b k n c : Nat} {A : Option Addr} {H : Nat → Ch} {nx : Nat} : spLook [.m kb b, .g k A n c] H nx = .is (bodR b (H kb) ∧ esOk (bodE (H kb)) ∧ ckR A n c k H) (.tup [.v (.int .i64 (lookV (bodE (H kb)) (chL n (H k))).1), .v (.int .i64 (lookV (bodE (H kb)) (chL n (H k))).2)]) := rfl
theorem spLook_ok : SpecOk Tryz.prog 45 spLook := by
  intro args hp nx w0 O w H hv
  unfold spLook at hv ⊢
  split at hv
  · next kb b k A n c =>
    obtain ⟨hb0, he, h1, hn, hz, hG, hU⟩ := hv
    have hb := bodR_hold hb0 (H.hold kb) w.heap.size
    obtain ⟨hl, hh⟩ := NdR_hold h1 (H.hold k)
    obtain ⟨bn, on, cn, ba, oa, ca, hr, h4, h3, hk⟩ := globR_ok H hG
    obtain ⟨u1, u2⟩ := globU_ok H hU
    generalize chL n (lookH hp k) = l at hl hh hz ⊢
    subst hl
    refine (look_any l _ he hn hz A c b bn on cn ba oa ca h4 h3 w ⟨⟨hb, rfl⟩, ⟨hh _, rfl⟩, ⟨u1, rfl⟩, ⟨u2, rfl⟩, hr⟩).mono ?_
    rintro e w' ⟨rfl, hb⟩
    exact ⟨⟨0, none, 0, none, 0, mz⟩, rfl, .still hb⟩
  · exact hv.elim
theorem lkF_in {es : List (MK × List Int)} (he : esOk es) (l : List Nd) : ∀ (f i : Nat) (s : Int), 0 ≤ s → 0 ≤ (lkF es l f i s).1 ∧ (lkF es l f i s).1 ≤ 1000000000 := by
  have hm : ∀ s : Int, 0 ≤ s → 0 ≤ minV s ∧ minV s ≤ 1000000000 := fun s hs => by unfold minV; split <;> omega
  intro f
  induction f with
  | zero => intro i s hs; exact hm s hs
  | succ f ih =>
    intro i s hs
    rw [lkF]
    split
    · exact hm s hs
    · split
      · split
        · exact ⟨Int.le_refl _, by decide⟩
        · next v hv =>
          obtain ⟨a, p, rfl, h1, h2, h3⟩ := he _ _ hv
          split
          · exact ih _ _ (by simp only [List.getD_cons_zero]; omega)
          · exact ⟨Int.le_refl _, by decide⟩
      · exact ih _ _ (by omega)
theorem lookV_in {es : List (MK × List Int)} (he : esOk es) (l : List Nd) : 0 ≤ (lookV es l).1 ∧ (lookV es l).1 ≤ 1000000000 := by
  rw [lookV]
  split
  · exact lkF_in he l _ _ _ (Int.le_refl 0)
  · exact ⟨Int.le_refl _, show (0 : Int) ≤ 1000000000 by decide⟩
theorem esOk_nil : esOk [] := fun k v h => by cases h
theorem esOk_put {es : List (MK × List Int)} (he : esOk es) {k : MK} {s p : Int} (h1 : 0 ≤ s) (h2 : s ≤ 1000000000) (h3 : inr .i64 p) : esOk (put es k [s, p]) := by
  intro k' v hv
  rw [fnd_put] at hv
  split at hv
  · cases hv; exact ⟨s, p, rfl, h1, h2, h3⟩
  · exact he k' v hv
/-- a function: name, parameters (only how many there are), body -/
structure Df where
  nm : ByteArray
  np : Nat
  pA : Option Addr
  pc : Nat
  bA : Option Addr
  bc : Nat
  body : List Nd
def dfZ : Df := ⟨ByteArray.empty, 0, none, 0, none, 0, []⟩
def dfAt (ds : List Df) (i : Nat) : Df := ds.getD i dfZ
def dfC (k : Nat) (d : Df) : List SV := [.v (.string d.nm), .v (.slice d.pA d.np d.pc), .g k d.bA d.body.length d.bc]
def dfOk (ds : List Df) : Prop := ∀ i, i < ds.length → (dfAt ds i).body.length ≤ 100000 ∧ zsN (dfAt ds i).body ∧ (dfAt ds i).np ≤ 100000
/-- functions in memory -/
def dfH (kb : Nat) (ds : List Df) (A : Option Addr) (c : Nat) : Ch := .recs A c 3 ds.length fun i => dfC kb (dfAt ds i)
def dfD (ds : List Df) : Ch := .deep false ds.length 7 (fun i => (dfAt ds i).bA) (fun i => (dfAt ds i).bc) (fun i => (dfAt ds i).body.length) fun i r => ndC (ndAt (dfAt ds i).body r)
def knG : List Df → List (MK × List Int) → List (MK × List Int) × Int
  | [], es => (es, 0)
  | d :: l, es => if (lookV es d.body).2 = 0 then knG l (put es (.s d.nm) [(lookV es d.body).1, d.np]) else ([], (lookV es d.body).2)
def knV (ds : List Df) : List (MK × List Int) × Int := if 16 < ds.length then ([], 3) else knG ds []
def tlKn : List (TypeId × TI) := [tyInt, tyI64, tyBool, tyStr, tyStrs, tyErr, tyNode, tyNodes, tyBody, tyBodies, tyDef, tyDefs]
theorem tlKn_ok : TyAll Tryz.prog (lookT tlKn) := tyAll_p tyInt_ok <| tyAll_p tyI64_ok <| tyAll_p tyBool_ok <| tyAll_p tyStr_ok <| tyAll_p tyStrs_ok <| tyAll_p tyErr_ok <| tyAll_p tyNode_ok <| tyAll_p tyNodes_ok <| tyAll_p tyBody_ok <| tyAll_p tyBodies_ok <| tyAll_p tyDef_ok <| tyAll_p tyDefs_ok tyAll_nil
def glKn : List (FuncId × Spc) := [(45, spLook)]
theorem glKn_ok : GOk Tryz.prog (lookG glKn) := lG_cons (by kernel_rfl) spLook_ok lG_nil
section
variable (ds : List Df) (A : Option Addr) (c bn on cn ba oa ca : Nat)
def knH : Hp := (1000, dfH 1002 ds A c) :: (1001, dfD ds) :: gHu bn on cn ba oa ca
def knI (b i : Nat) (es : List (MK × List Int)) : SS :=
  ⟨[(4, .m 1003 b), (13, .g 1000 A ds.length c), (14, .v (.int .i64 ds.length)), (15, .v (.int .i64 i))], (1003, .mp b .string true [.int .i64, .int .i64] es) :: knH ds A c bn on cn ba oa ca, 30000⟩
end
theorem drop_at {ds : List Df} {i : Nat} (h : i < ds.length) : ds.drop i = dfAt ds i :: ds.drop (i + 1) := by
  rw [List.drop_eq_getElem_cons h]
  simp [dfAt, h]
set_option maxRecDepth 100000 in
set_option maxHeartbeats 4000000 in
theorem known_any (ds : List Df) (hn : ds.length ≤ 100000) (hd : dfOk ds) (A : Option Addr) (c bn on cn ba oa ca : Nat) (h4 : 4 ≤ cn) (h3 : 3 ≤ ca) (w : World)
    (h : allRd w.heap.size w (knH ds A c bn on cn ba oa ca)) :
    Calls Tryz.prog 44 #[.slice A ds.length c] w fun e w' => Below w.heap.size w w' ∧ (((knV ds).2 = 0 ∧ ∃ b, e = .returned (.tuple #[.map (some b), .int .i64 0]) ∧ Hold w.heap.size w' (.mp b .string true [.int .i64, .int .i64] (knV ds).1)) ∨ ((knV ds).2 ≠ 0 ∧ e = .returned (.tuple #[.map none, .int .i64 (knV ds).2]))) := by
  obtain ⟨q, hq⟩ : ∃ q, q = knV ds := ⟨_, rfl⟩
  rw [← hq]
  refine calls_go (args := [.g 1000 A ds.length c]) (hp := knH ds A c bn on cn ba oa ca) (nx := 1003) (n := 4000) (U := [(1000000, 39)]) (V := []) (tl := tlKn) (gl := glKn) (post := fun s ys => (q.2 = 0 ∧ ∃ k b, ys = [.m k b, .v (.int .i64 0)] ∧ lookH s.hp k = .mp b .string true [.int .i64, .int .i64] q.1) ∨ (q.2 ≠ 0 ∧ ys = [.v (.map none), .v (.int .i64 q.2)]))
    followP tlKn_ok glKn_ok Tryz.func44 rfl (by kernel_rfl) (Nat.le_of_ble_eq_true (by kernel_rfl)) (by kernel_rfl) (by kernel_rfl) (hh_list h) (free_list (by simp [allLt, knH, gHu, gHp])) ?_ ?_
  · rintro s ys w' (⟨h0, k, b, rfl, hk⟩ | ⟨h0, rfl⟩) H
    · exact ⟨H.below, .inl ⟨h0, b, rfl, hk ▸ H.hold k⟩⟩
    · exact ⟨H.below, .inr ⟨h0, rfl⟩⟩
  intro L F T G nd va hE
  obtain ⟨hL, hF, hs, hv, hT, hG, hR, hI, hJ, hW⟩ := hE
  rw [Tryz.results44] at hF
  simp (maxSteps := 1000000) only [En.nN, En.E, En.evsC, List.map_cons, List.map_nil, Nat.reduceBEq, Nat.reduceAdd, Nat.reduceMul, Nat.reduceEqDiff, Nat.reduceLeDiff, Nat.reduceLT, ne_eq, reduceCtorEq, Int.reduceBEq, Int.reduceBNe, Int.reduceAdd, Int.reduceSub, Int.reduceMul, Int.reduceTDiv, Int.reduceTMod, Int.reduceNeg, En.bitN, Nat.testBit, Nat.reduceShiftRight, Nat.reduceShiftLeft, Nat.reduceAnd, Nat.reduceOr, Nat.reduceBNe, Int.reduceToNat, Nat.reduceSub, Int.reduceLE, Int.reduceLT] at hv
  simp only [En.at_nil, En.at_cons, En.ag_nil, En.ag_cons, and_true, tlKn, glKn, tyInt, tyI64, tyBool, tyStr, tyStrs, tyErr, tyNode, tyNodes, tyBody, tyBodies, tyDef, tyDefs] at hT hG
  rw [knV] at hq
  by_cases h16 : 16 < ds.length
  · have d0 : decide ((ds.length : Int) > 16) = true := decide_eq_true (by omega)
    rw [if_pos h16] at hq
    simp (maxSteps := 10000000) only [En.E, En.evsC, List.map_cons, List.map_nil, Nat.reduceBEq, Nat.reduceAdd, Nat.reduceMul, Nat.reduceEqDiff, Nat.reduceLeDiff, Nat.reduceLT, ne_eq, reduceCtorEq, Int.reduceBEq, Int.reduceBNe, Int.reduceAdd, Int.reduceSub, Int.reduceMul, Int.reduceTDiv, Int.reduceTMod, Int.reduceNeg, En.bitN, Nat.testBit, Nat.reduceShiftRight, Nat.reduceShiftLeft, Nat.reduceAnd, Nat.reduceOr, Nat.reduceBNe, Int.reduceToNat, Nat.reduceSub, Int.reduceLE, Int.reduceLT, En.vV, hs, hv, hT, hG, hF, knH, dfH, dfD, gHu, gHp, d0, hq]
    exact .inr (by decide)
  · have d0 : decide ((ds.length : Int) > 16) = false := decide_eq_false (by omega)
    rw [if_neg h16] at hq
    simp (maxSteps := 10000000) only [En.E, En.evsC, List.map_cons, List.map_nil, Nat.reduceBEq, Nat.reduceAdd, Nat.reduceMul, Nat.reduceEqDiff, Nat.reduceLeDiff, Nat.reduceLT, ne_eq, reduceCtorEq, Int.reduceBEq, Int.reduceBNe, Int.reduceAdd, Int.reduceSub, Int.reduceMul, Int.reduceTDiv, Int.reduceTMod, Int.reduceNeg, En.bitN, Nat.testBit, Nat.reduceShiftRight, Nat.reduceShiftLeft, Nat.reduceAnd, Nat.reduceOr, Nat.reduceBNe, Int.reduceToNat, Nat.reduceSub, Int.reduceLE, Int.reduceLT, En.vV, hs, hv, hT, hG, hF, knH, dfH, dfD, gHu, gHp, d0]
    intro b
    refine hI {x : Nat × List (MK × List Int) // x.1 ≤ ds.length ∧ esOk x.2 ∧ q = knG (ds.drop x.1) x.2} (fun x => knI ds A c bn on cn ba oa ca b x.1.1 x.1.2) (fun x => ds.length - x.1.1) _ _ _
      ⟨(0, []), Nat.zero_le _, esOk_nil, by simpa using hq⟩ (sle_all [1003, 1000, 1001, 4, 5, 0, 1, 2, 3] (by decide) (by simp only [En.E, En.evsC, List.map_cons, List.map_nil, Nat.reduceBEq, Nat.reduceAdd, Nat.reduceMul, Nat.reduceEqDiff, Nat.reduceLeDiff, Nat.reduceLT, ne_eq, reduceCtorEq, Int.reduceBEq, Int.reduceBNe, Int.reduceAdd, Int.reduceSub, Int.reduceMul, Int.reduceTDiv, Int.reduceTMod, Int.reduceNeg, En.bitN, Nat.testBit, Nat.reduceShiftRight, Nat.reduceShiftLeft, Nat.reduceAnd, Nat.reduceOr, Nat.reduceBNe, Int.reduceToNat, Nat.reduceSub, Int.reduceLE, Int.reduceLT, En.slLe, En.hpLe, En.chE, En.allLt, knI, knH, dfH, dfD, gHu, gHp, Int.cast_ofNat_Int])) ?_
    rintro ⟨⟨i, es⟩, hi, he, hqi⟩
    simp only at hi he hqi
    by_cases hlt : i < ds.length
    · have d1 : decide ((i : Int) < (ds.length : Int)) = true := decide_eq_true (by omega)
      have i1 : inr .i64 ((i : Int) + 1) := by simp only [En.inr, En.lo, En.hi]; omega
      obtain ⟨o1, o2, o3⟩ := hd i hlt
      have i2 : inr .i64 ((dfAt ds i).np : Int) := by simp only [En.inr, En.lo, En.hi]; omega
      rw [drop_at hlt, knG] at hqi
      refine hW _ _ _ (sle_hp (hp := (1002, .recs (dfAt ds i).bA (dfAt ds i).bc 7 (dfAt ds i).body.length fun r => ndC (ndAt (dfAt ds i).body r)) :: _) (fun w0 O w H => hh_deep (kD := 1001) (kR := 1002) (i := i) rfl hlt rfl (by decide) H) fun k hk hn => ?_) ?_
      · have : (1002 == k) = false := by simp only [knI] at hk; simp; omega
        simp only [lookH, this, cond_false]; exact hn
      refine hR 3000 _ _ ?_
      by_cases hl : (lookV es (dfAt ds i).body).2 = 0
      · have d2 : ((lookV es (dfAt ds i).body).2 != 0) = false := by rw [hl]; rfl
        rw [if_pos hl] at hqi
        simp (maxSteps := 10000000) only [En.E, En.evsC, List.map_cons, List.map_nil, Nat.reduceBEq, Nat.reduceAdd, Nat.reduceMul, Nat.reduceEqDiff, Nat.reduceLeDiff, Nat.reduceLT, ne_eq, reduceCtorEq, Int.reduceBEq, Int.reduceBNe, Int.reduceAdd, Int.reduceSub, Int.reduceMul, Int.reduceTDiv, Int.reduceTMod, Int.reduceNeg, En.bitN, Nat.testBit, Nat.reduceShiftRight, Nat.reduceShiftLeft, Nat.reduceAnd, Nat.reduceOr, Nat.reduceBNe, Int.reduceToNat, Nat.reduceSub, Int.reduceLE, Int.reduceLT, En.vV, hs, hv, hT, hG, hF, knI, knH, dfH, dfD, gHu, gHp, d1, i1, dfC, spLook_q, bodR_m, bodE_m, he, ckR, NdR_q, chL_q, globR_q, globU_q, o1, o2, h4, h3, d2, Int.toNat_natCast]
        have hb := lookV_in he (dfAt ds i).body
        exact ⟨by omega, by omega, fun b1 => ⟨⟨(i + 1, put es (.s (dfAt ds i).nm) [(lookV es (dfAt ds i).body).1, (dfAt ds i).np]), hlt, esOk_put he hb.1 hb.2 i2, hqi⟩, (sle_all [1003, 1000, 1001, 4, 5, 0, 1, 2, 3] (by decide) (by simp only [En.E, En.evsC, List.map_cons, List.map_nil, Nat.reduceBEq, Nat.reduceAdd, Nat.reduceMul, Nat.reduceEqDiff, Nat.reduceLeDiff, Nat.reduceLT, ne_eq, reduceCtorEq, Int.reduceBEq, Int.reduceBNe, Int.reduceAdd, Int.reduceSub, Int.reduceMul, Int.reduceTDiv, Int.reduceTMod, Int.reduceNeg, En.bitN, Nat.testBit, Nat.reduceShiftRight, Nat.reduceShiftLeft, Nat.reduceAnd, Nat.reduceOr, Nat.reduceBNe, Int.reduceToNat, Nat.reduceSub, Int.reduceLE, Int.reduceLT, En.slLe, En.hpLe, En.chE, En.allLt, knI, knH, dfH, dfD, dfC, gHu, gHp, Int.natCast_add, Int.cast_ofNat_Int])), by simp only; omega⟩⟩
      · have d2 : ((lookV es (dfAt ds i).body).2 != 0) = true := by simpa using hl
        rw [if_neg hl] at hqi
        simp (maxSteps := 10000000) only [En.E, En.evsC, List.map_cons, List.map_nil, Nat.reduceBEq, Nat.reduceAdd, Nat.reduceMul, Nat.reduceEqDiff, Nat.reduceLeDiff, Nat.reduceLT, ne_eq, reduceCtorEq, Int.reduceBEq, Int.reduceBNe, Int.reduceAdd, Int.reduceSub, Int.reduceMul, Int.reduceTDiv, Int.reduceTMod, Int.reduceNeg, En.bitN, Nat.testBit, Nat.reduceShiftRight, Nat.reduceShiftLeft, Nat.reduceAnd, Nat.reduceOr, Nat.reduceBNe, Int.reduceToNat, Nat.reduceSub, Int.reduceLE, Int.reduceLT, En.vV, hs, hv, hT, hG, hF, knI, knH, dfH, dfD, gHu, gHp, d1, i1, dfC, spLook_q, bodR_m, bodE_m, he, ckR, NdR_q, chL_q, globR_q, globU_q, o1, o2, h4, h3, d2, Int.toNat_natCast]
        exact ⟨by omega, by omega, fun b1 => .inr ⟨by rw [hqi]; exact hl, by rw [hqi]⟩⟩
    · have d1 : decide ((i : Int) < (ds.length : Int)) = false := decide_eq_false (by omega)
      obtain rfl : i = ds.length := by omega
      rw [List.drop_length, knG] at hqi
      refine hR 3000 _ _ ?_
      simp (maxSteps := 10000000) only [En.E, En.evsC, List.map_cons, List.map_nil, Nat.reduceBEq, Nat.reduceAdd, Nat.reduceMul, Nat.reduceEqDiff, Nat.reduceLeDiff, Nat.reduceLT, ne_eq, reduceCtorEq, Int.reduceBEq, Int.reduceBNe, Int.reduceAdd, Int.reduceSub, Int.reduceMul, Int.reduceTDiv, Int.reduceTMod, Int.reduceNeg, En.bitN, Nat.testBit, Nat.reduceShiftRight, Nat.reduceShiftLeft, Nat.reduceAnd, Nat.reduceOr, Nat.reduceBNe, Int.reduceToNat, Nat.reduceSub, Int.reduceLE, Int.reduceLT, En.vV, hs, hv, hT, hG, hF, knI, knH, dfH, dfD, gHu, gHp, d1, hqi]
      exact .inl ⟨1003, b, rfl, rfl⟩
end Pr
end Go.Proofs.YtapgddiocdcaeaaGreatDoor
/-
Chapter 25: Expr of the program.
-/
set_option linter.unusedSimpArgs false
set_option linter.unusedVariables false
namespace Go.Proofs.YtapgddiocdcaeaaGreatDoor
namespace Pr
open Go Go.RowKit En
open Ex
def unDf (x : List SV) (A : Option Addr) (c : Nat) (body : List Nd) : Df :=
  match x with
  | [.v (.string nm), .v (.slice pA np pc), _] => ⟨nm, np, pA, pc, A, c, body⟩
  | _ => dfZ
/-- the functions that two chunks hold -/
def dsL (n : Nat) : Ch → Ch → List Df
  | .recs _ _ 3 _ f, .deep _ _ 7 B c m g => (List.range n).map fun i => unDf (f i) (B i) (c i) (nodesL (m i) (g i))
  | _, _ => []
def DfR (A : Option Addr) (n c : Nat) : Ch → Ch → Prop
  | .recs A' c' 3 n' f, .deep o n2 7 B d m g => A' = A ∧ c' = c ∧ n' = n ∧ n ≤ n2 ∧ (∃ kb, ∀ i, i < n → f i = dfC kb (dfAt (dsL n (.recs A' c' 3 n' f) (.deep o n2 7 B d m g)) i)) ∧ ∀ i, i < n → ∀ r, r < m i → g i r = ndC (ndAt (nodesL (m i) (g i)) r)
  | _, _ => False
theorem dsL_at {n : Nat} {A : Option Addr} {c n' n2 : Nat} {f : Nat → List SV} {o : Bool} {B : Nat → Option Addr} {d m : Nat → Nat} {g : Nat → Nat → List SV} {i : Nat} (h : i < n) :
    dfAt (dsL n (.recs A c 3 n' f) (.deep o n2 7 B d m g)) i = unDf (f i) (B i) (d i) (nodesL (m i) (g i)) := by
  rw [dfAt, dsL, List.getD_eq_getElem?_getD, List.getElem?_map, List.getElem?_range h]; rfl
theorem dsL_q (kb : Nat) (ds : List Df) (A : Option Addr) (c : Nat) : dsL ds.length (dfH kb ds A c) (dfD ds) = ds := by
  apply List.ext_getElem
  · simp [dsL, dfH, dfD]
  · intro i h1 h2
    simp only [dsL, dfH, dfD, List.getElem_map, List.getElem_range, nodesL_q]
    simp [dfC, unDf, dfAt, h2]
theorem DfR_q (kb : Nat) (ds : List Df) (A : Option Addr) (c : Nat) : DfR A ds.length c (dfH kb ds A c) (dfD ds) = True := by
  have e := dsL_q kb ds A c
  simp only [dfH, dfD] at e
  simp only [DfR, dfH, dfD, true_and, Nat.le_refl, e, nodesL_q, implies_true, and_true]
  exact eq_true ⟨kb, fun _ _ => rfl⟩
theorem DfR_hold {A : Option Addr} {n c B1 B2 : Nat} {w : World} {x y : Ch} (h : DfR A n c x y) (hx : Hold B1 w x) (hy : Hold B2 w y) :
    (dsL n x y).length = n ∧ ∀ B' kb, Hold B' w (dfH kb (dsL n x y) A c) ∧ Hold B' w (dfD (dsL n x y)) := by
  unfold DfR at h
  split at h
  · next A' c' n' f o n2 B d m g =>
    obtain ⟨rfl, rfl, rfl, hn2, ⟨kb, hf⟩, hg⟩ := h
    have hlen : (dsL n' (.recs A' c' 3 n' f) (.deep o n2 7 B d m g)).length = n' := by simp [dsL]
    have hat : ∀ i, i < n' → (dfAt (dsL n' (.recs A' c' 3 n' f) (.deep o n2 7 B d m g)) i).bA = B i ∧ (dfAt (dsL n' (.recs A' c' 3 n' f) (.deep o n2 7 B d m g)) i).bc = d i ∧ (dfAt (dsL n' (.recs A' c' 3 n' f) (.deep o n2 7 B d m g)) i).body = nodesL (m i) (g i) := by
      intro i hi
      have h1 := hf i hi
      have h2 := dsL_at (n := n') (A := A') (c := c') (n' := n') (n2 := n2) (f := f) (o := o) (B := B) (d := d) (m := m) (g := g) hi
      rw [h2, h1]
      exact ⟨rfl, rfl, rfl⟩
    refine ⟨hlen, fun B' kb' => ⟨?_, ?_⟩⟩
    · simp only [dfH, hlen]
      refine ⟨⟨hx.1.1, fun hn => ?_⟩, fun i hi => rfl⟩
      obtain ⟨b, o, e, hb, hc⟩ := hx.1.2 hn
      refine ⟨b, o, e, hb, fun i hi j hj => ?_⟩
      have := hc i hi j hj
      simp only [hf i hi] at this
      exact this
    · simp only [dfD, hlen]
      intro i hi
      obtain ⟨e1, e2, e3⟩ := hat i hi
      simp only [e1, e2, e3, nodesL_len]
      obtain ⟨⟨⟨h1, h2⟩, h3⟩, _⟩ := hy i (by omega)
      refine ⟨⟨⟨h1, fun hm => ?_⟩, fun r hr => rfl⟩, fun h => by cases h⟩
      obtain ⟨b, o, e, hb, hc⟩ := h2 hm
      refine ⟨b, o, e, hb, fun r hr j hj => ?_⟩
      have := hc r hr j hj
      simp only [hg i hi r hr] at this
      exact this
  · exact h.elim
theorem knG_ok : ∀ (ds : List Df) (es : List (MK × List Int)), esOk es → (∀ d ∈ ds, d.np ≤ 100000) → esOk (knG ds es).1
  | [], es, he, _ => he
  | d :: l, es, he, h => by
    rw [knG]
    split
    · have hb := lookV_in he d.body
      have hd := h d (List.mem_cons_self ..)
      exact knG_ok l _ (esOk_put he hb.1 hb.2 (by simp only [En.inr, En.lo, En.hi]; omega)) fun x hx => h x (List.mem_cons_of_mem _ hx)
    · exact esOk_nil
theorem dfOk_mem {ds : List Df} (h : dfOk ds) : ∀ d ∈ ds, d.body.length ≤ 100000 ∧ zsN d.body ∧ d.np ≤ 100000 := by
  intro d hd
  obtain ⟨i, hi, rfl⟩ := List.getElem_of_mem hd
  have := h i hi
  simpa [dfAt, hi] using this
theorem knV_ok {ds : List Df} (h : dfOk ds) : esOk (knV ds).1 := by
  rw [knV]
  split
  · exact esOk_nil
  · exact knG_ok ds [] esOk_nil fun d hd => (dfOk_mem h d hd).2.2
def knR (c : Prop) (q : List (MK × List Int) × Int) (nx : Nat) : Res := bif q.2 == 0 then .new c fun b => (.tup [.m nx b, .v (.int .i64 0)], [(nx, .mp b .string true [.int .i64, .int .i64] q.1)]) else .is c (.tup [.v (.map none), .v (.int .i64 q.2)])
theorem knR_y {c : Prop} {q : List (MK × List Int) × Int} {nx : Nat} (h : q.2 = 0) : knR c q nx = .new c fun b => (.tup [.m nx b, .v (.int .i64 0)], [(nx, .mp b .string true [.int .i64, .int .i64] q.1)]) := by rw [knR, h]; rfl
theorem knR_n {c : Prop} {q : List (MK × List Int) × Int} {nx : Nat} (h : q.2 ≠ 0) : knR c q nx = .is c (.tup [.v (.map none), .v (.int .i64 q.2)]) := by
  have : (q.2 == 0) = false := by simpa using h
  rw [knR, this]; rfl
def dfCo (A : Option Addr) (n c k : Nat) (H : Nat → Ch) : Prop := DfR A n c (H k) (H 1001) ∧ n ≤ 100000 ∧ dfOk (dsL n (H k) (H 1001)) ∧ globR (H 0) (H 1) (H 2) (H 3) ∧ globU (H 4) (H 5)
def spKnown : Spc
  | [.g k A n c], H, nx => knR (dfCo A n c k H) (knV (dsL n (H k) (H 1001))) nx
  | _, _, _ => .bad
theorem spKnown_q {k n c : Nat} {A : Option Addr} {H : Nat → Ch} {nx : Nat} : spKnown [.g k A n c] H nx = knR (dfCo A n c k H) (knV (dsL n (H k) (H 1001))) nx := rfl
theorem spKnown_ok : SpecOk Tryz.prog 44 spKnown := by
  intro args hp nx w0 O w H hv
  unfold spKnown at hv ⊢
  split at hv
  · next nx k A n c =>
    have hv' : dfCo A n c k (lookH hp) := by
      unfold knR at hv
      cases hq : ((knV (dsL n (lookH hp k) (lookH hp 1001))).2 == 0) <;> rw [hq] at hv <;> exact hv
    obtain ⟨h1, hn, hd, hG, hU⟩ := hv'
    obtain ⟨hl, hh⟩ := DfR_hold h1 (H.hold k) (H.hold 1001)
    obtain ⟨bn, on, cn, ba, oa, ca, hr, h4, h3, hk⟩ := globR_ok H hG
    obtain ⟨u1, u2⟩ := globU_ok H hU
    generalize dsL n (lookH hp k) (lookH hp 1001) = ds at hl hh hd hv ⊢
    subst hl
    refine (known_any ds hn hd A c bn on cn ba oa ca h4 h3 w ⟨⟨(hh _ 1002).1, rfl⟩, ⟨(hh _ 1002).2, rfl⟩, ⟨u1, rfl⟩, ⟨u2, rfl⟩, hr⟩).mono ?_
    rintro e w' ⟨hb, ⟨h0, b, rfl, hm⟩ | ⟨h0, rfl⟩⟩
    · simp only [knR_y h0]
      have lk : ∀ j, has [(nx, Ch.mp b .string true [.int .i64, .int .i64] (knV ds).1)] j = true → j = nx := by
        intro j h
        simp only [has] at h
        cases e : (nx == j)
        · rw [e] at h; cases h
        · exact (eq_of_beq e).symm
      exact ⟨⟨b, none, 0, none, 0, mz⟩, rfl, Stp.one hb ⟨Nat.le_trans H.below.size hm.1, hm.2⟩ fun b' hf => .inl (by obtain rfl : b' = b := hf; exact hm.1)⟩
    · simp only [knR_n h0]
      exact ⟨⟨0, none, 0, none, 0, mz⟩, rfl, .still hb⟩
  · exact hv.elim
def exprV (ds : List Df) (l : List Nd) : Int × Int := if (knV ds).2 = 0 then lookV (knV ds).1 l else (0, (knV ds).2)
def glEx25 : List (FuncId × Spc) := [(45, spLook), (44, spKnown)]
theorem glEx25_ok : GOk Tryz.prog (lookG glEx25) := lG_cons (by kernel_rfl) spLook_ok <| lG_cons (by kernel_rfl) spKnown_ok lG_nil
section
variable (ds : List Df) (A : Option Addr) (c : Nat) (l : List Nd) (B : Option Addr) (d bn on cn ba oa ca : Nat)
def exH : Hp := (1003, .recs B d 7 l.length fun i => ndC (ndAt l i)) :: (1000, dfH 1002 ds A c) :: (1001, dfD ds) :: gHu bn on cn ba oa ca
end
set_option maxRecDepth 100000 in
set_option maxHeartbeats 4000000 in
theorem expr25_any (ds : List Df) (hn : ds.length ≤ 100000) (hd : dfOk ds) (A : Option Addr) (c : Nat) (l : List Nd) (hlen : l.length ≤ 100000) (hz : zsN l) (B : Option Addr) (d : Nat) (bn on cn ba oa ca : Nat) (h4 : 4 ≤ cn) (h3 : 3 ≤ ca) (w : World)
    (h : allRd w.heap.size w (exH ds A c l B d bn on cn ba oa ca)) :
    Calls Tryz.prog 18 #[.slice A ds.length c, .slice B l.length d] w fun e w' => e = .returned (.tuple #[.int .i64 (exprV ds l).1, .int .i64 (exprV ds l).2]) ∧ Below w.heap.size w w' := by
  obtain ⟨q, hq⟩ : ∃ q, q = exprV ds l := ⟨_, rfl⟩
  rw [← hq]
  refine calls_go (args := [.g 1000 A ds.length c, .g 1003 B l.length d]) (hp := exH ds A c l B d bn on cn ba oa ca) (nx := 1004) (n := 400) (U := []) (V := []) (tl := tlKn) (gl := glEx25) (post := fun s ys => ys = [.v (.int .i64 q.1), .v (.int .i64 q.2)])
    followP tlKn_ok glEx25_ok Tryz.func18 rfl (by kernel_rfl) (Nat.le_of_ble_eq_true (by kernel_rfl)) (by kernel_rfl) (by kernel_rfl) (hh_list h) (free_list (by simp [allLt, exH, gHu, gHp])) ?_ ?_
  · rintro s ys w' rfl H
    exact ⟨rfl, H.below⟩
  intro L F T G nd va hE
  obtain ⟨hL, hF, hs, hv, hT, hG, hR, hI, hJ, hW⟩ := hE
  rw [Tryz.results18] at hF
  simp (maxSteps := 1000000) only [En.nN, En.E, En.evsC, List.map_cons, List.map_nil, Nat.reduceBEq, Nat.reduceAdd, Nat.reduceMul, Nat.reduceEqDiff, Nat.reduceLeDiff, Nat.reduceLT, ne_eq, reduceCtorEq, Int.reduceBEq, Int.reduceBNe, Int.reduceAdd, Int.reduceSub, Int.reduceMul, Int.reduceTDiv, Int.reduceTMod, Int.reduceNeg, En.bitN, Nat.testBit, Nat.reduceShiftRight, Nat.reduceShiftLeft, Nat.reduceAnd, Nat.reduceOr, Nat.reduceBNe, Int.reduceToNat, Nat.reduceSub, Int.reduceLE, Int.reduceLT] at hv
  simp only [En.at_nil, En.at_cons, En.ag_nil, En.ag_cons, and_true, tlKn, glEx25, tyInt, tyI64, tyBool, tyStr, tyStrs, tyErr, tyNode, tyNodes, tyBody, tyBodies, tyDef, tyDefs] at hT hG
  rw [exprV] at hq
  have he := knV_ok hd
  by_cases h0 : (knV ds).2 = 0
  · have d0 : ((knV ds).2 != 0) = false := by rw [h0]; rfl
    rw [if_pos h0] at hq
    simp (maxSteps := 10000000) only [En.E, En.evsC, List.map_cons, List.map_nil, Nat.reduceBEq, Nat.reduceAdd, Nat.reduceMul, Nat.reduceEqDiff, Nat.reduceLeDiff, Nat.reduceLT, ne_eq, reduceCtorEq, Int.reduceBEq, Int.reduceBNe, Int.reduceAdd, Int.reduceSub, Int.reduceMul, Int.reduceTDiv, Int.reduceTMod, Int.reduceNeg, En.bitN, Nat.testBit, Nat.reduceShiftRight, Nat.reduceShiftLeft, Nat.reduceAnd, Nat.reduceOr, Nat.reduceBNe, Int.reduceToNat, Nat.reduceSub, Int.reduceLE, Int.reduceLT, En.vV, hs, hv, hT, hG, hF, exH, gHu, gHp, spKnown_q, dfCo, DfR_q, dsL_q, knR_y h0, hn, hd, globR_q, globU_q, h4, h3, d0, spLook_q, bodR_m, bodE_m, he, ckR, NdR_q, chL_q, hlen, hz, hq]
  · have d0 : ((knV ds).2 != 0) = true := by simpa using h0
    rw [if_neg h0] at hq
    simp (maxSteps := 10000000) only [En.E, En.evsC, List.map_cons, List.map_nil, Nat.reduceBEq, Nat.reduceAdd, Nat.reduceMul, Nat.reduceEqDiff, Nat.reduceLeDiff, Nat.reduceLT, ne_eq, reduceCtorEq, Int.reduceBEq, Int.reduceBNe, Int.reduceAdd, Int.reduceSub, Int.reduceMul, Int.reduceTDiv, Int.reduceTMod, Int.reduceNeg, En.bitN, Nat.testBit, Nat.reduceShiftRight, Nat.reduceShiftLeft, Nat.reduceAnd, Nat.reduceOr, Nat.reduceBNe, Int.reduceToNat, Nat.reduceSub, Int.reduceLE, Int.reduceLT, En.vV, hs, hv, hT, hG, hF, exH, gHu, gHp, spKnown_q, dfCo, DfR_q, dsL_q, knR_n h0, hn, hd, globR_q, globU_q, h4, h3, d0, hq]
def spExpr25 : Spc
  | [.g kd A n c, .g k B m d], H, _ => .is (dfCo A n c kd H ∧ ckR B m d k H) (.tup [.v (.int .i64 (exprV (dsL n (H kd) (H 1001)) (chL m (H k))).1), .v (.int .i64 (exprV (dsL n (H kd) (H 1001)) (chL m (H k))).2)])
  | [.v (.slice none 0 0), .g k B m d], H, _ => .is (ckR B m d k H) (.tup [.v (.int .i64 (exprV [] (chL m (H k))).1), .v (.int .i64 (exprV [] (chL m (H k))).2)])
  | _, _, _ => .bad
theorem spExpr25_q {k kd n m c d : Nat} {A B : Option Addr} {H : Nat → Ch} {nx : Nat} : spExpr25 [.g kd A n c, .g k B m d] H nx = .is (dfCo A n c kd H ∧ ckR B m d k H) (.tup [.v (.int .i64 (exprV (dsL n (H kd) (H 1001)) (chL m (H k))).1), .v (.int .i64 (exprV (dsL n (H kd) (H 1001)) (chL m (H k))).2)]) := rfl
theorem spExpr25_n {k m d : Nat} {B : Option Addr} {H : Nat → Ch} {nx : Nat} : spExpr25 [.v (.slice none 0 0), .g k B m d] H nx = .is (ckR B m d k H) (.tup [.v (.int .i64 (exprV [] (chL m (H k))).1), .v (.int .i64 (exprV [] (chL m (H k))).2)]) := rfl
theorem spExpr25_ok : SpecOk Tryz.prog 18 spExpr25 := by
  intro args hp nx w0 O w H hv
  unfold spExpr25 at hv ⊢
  split at hv
  · next kd A n c k B m d =>
    obtain ⟨⟨h1, hn, hd, _, _⟩, g1, gn, gz, hG, hU⟩ := hv
    obtain ⟨hl, hh⟩ := DfR_hold h1 (H.hold kd) (H.hold 1001)
    obtain ⟨gl, gg⟩ := NdR_hold g1 (H.hold k)
    obtain ⟨bn, on, cn, ba, oa, ca, hr, h4, h3, hk⟩ := globR_ok H hG
    obtain ⟨u1, u2⟩ := globU_ok H hU
    generalize dsL n (lookH hp kd) (lookH hp 1001) = ds at hl hh hd ⊢
    generalize chL m (lookH hp k) = l at gl gg gz ⊢
    subst hl
    subst gl
    refine (expr25_any ds hn hd A c l gn gz B d bn on cn ba oa ca h4 h3 w ⟨⟨gg _, rfl⟩, ⟨(hh _ 1002).1, rfl⟩, ⟨(hh _ 1002).2, rfl⟩, ⟨u1, rfl⟩, ⟨u2, rfl⟩, hr⟩).mono ?_
    rintro e w' ⟨rfl, hb⟩
    exact ⟨⟨0, none, 0, none, 0, mz⟩, rfl, .still hb⟩
  · next k B m d =>
    obtain ⟨g1, gn, gz, hG, hU⟩ := hv
    obtain ⟨gl, gg⟩ := NdR_hold g1 (H.hold k)
    obtain ⟨bn, on, cn, ba, oa, ca, hr, h4, h3, hk⟩ := globR_ok H hG
    obtain ⟨u1, u2⟩ := globU_ok H hU
    generalize chL m (lookH hp k) = l at gl gg gz ⊢
    subst gl
    have z1 : Hold w.heap.size w (dfH 1002 [] none 0) := ⟨⟨Nat.le_refl 0, fun h => absurd rfl h⟩, fun i hi => absurd hi (Nat.not_lt_zero i)⟩
    have z2 : Hold w.heap.size w (dfD []) := fun i hi => absurd hi (Nat.not_lt_zero i)
    refine (expr25_any [] (Nat.zero_le _) (fun i hi => absurd hi (Nat.not_lt_zero i)) none 0 l gn gz B d bn on cn ba oa ca h4 h3 w ⟨⟨gg _, rfl⟩, ⟨z1, rfl⟩, ⟨z2, rfl⟩, ⟨u1, rfl⟩, ⟨u2, rfl⟩, hr⟩).mono ?_
    rintro e w' ⟨rfl, hb⟩
    exact ⟨⟨0, none, 0, none, 0, mz⟩, rfl, .still hb⟩
  · exact hv.elim
end Pr
end Go.Proofs.YtapgddiocdcaeaaGreatDoor
