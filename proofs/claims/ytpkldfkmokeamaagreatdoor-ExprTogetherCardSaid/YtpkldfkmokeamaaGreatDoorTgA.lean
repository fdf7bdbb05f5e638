/-
Chapter 15: the walk of ExprTogether.
-/
import Derived.Test.YtpkldfkmokeamaaGreatDoorAx1
import Derived.Test.YtpkldfkmokeamaaGreatDoorExTree
set_option linter.unusedSimpArgs false
set_option linter.unusedVariables false
namespace Go.Proofs.YtpkldfkmokeamaaGreatDoor
namespace Pr
open Go Go.RowKit En
open Ex Rf
/-- what a law may know of an expression without errors -/
theorem ord_down {l : List Nd} (h0 : (chkV l).2 = 0) : Ord l.length (Ms l) (Ks l) 0 = down l.length fun p => !numb (Ks l) p := by
  have hg := (chk_ok h0).2.2.1
  obtain ⟨t1, t2, _⟩ := chk_tree h0
  rw [Ord_all hg.fine (plain_of hg (chk_bad h0)) t1 t2, down]
abbrev oN (l : List Nd) : List Nat := Ord l.length (Ms l) (Ks l) 0
theorem ordI_oN (l : List Nd) : ordI l 0 = (oN l).map fun p : Nat => (p : Int) := rfl
theorem oN_len (l : List Nd) : (ordI l 0).length = (oN l).length := by rw [ordI_oN, List.length_map]
theorem ordI_at {l : List Nd} {i p : Nat} (h : (oN l)[i]? = some p) : (ordI l 0).getD i 0 = (p : Int) := by
  rw [ordI_oN, List.getD_eq_getElem?_getD, List.getElem?_map, h]; rfl
theorem oN_lt {l : List Nd} (h0 : (chkV l).2 = 0) {i p : Nat} (h : (oN l)[i]? = some p) : p < l.length := by
  have hm := List.mem_of_getElem? h
  rw [oN, ord_down h0, down_mem] at hm
  exact hm.1
def tgT (l : List Nd) (a : Nat) (i : Nat) : Nat × Nat × Int := tog a (eR l a) ((oN l).take i) 0 (0, (oN l).length, -1)
theorem tgT_succ {l : List Nd} {a i p : Nat} (h : (oN l)[i]? = some p) : tgT l a (i + 1) = if a ≤ p ∧ p < eR l a then ((tgT l a i).1 + 1, (if i < (tgT l a i).2.1 then i else (tgT l a i).2.1), (i : Int)) else tgT l a i := by
  obtain ⟨hlt, e⟩ := List.getElem?_eq_some_iff.1 h
  have : (oN l).take (i + 1) = (oN l).take i ++ [p] := by rw [List.take_succ_eq_append_getElem hlt, e]
  rw [tgT, this, tog_append, List.length_take, Nat.min_eq_left (Nat.le_of_lt hlt), Nat.zero_add]
  rfl
theorem tgT_bound {l : List Nd} {a : Nat} : ∀ i, i ≤ (oN l).length → (tgT l a i).1 ≤ i ∧ (tgT l a i).2.1 ≤ (oN l).length ∧ -1 ≤ (tgT l a i).2.2 ∧ (tgT l a i).2.2 < (oN l).length
  | 0, _ => by
    have e : tgT l a 0 = (0, (oN l).length, -1) := rfl
    rw [e]; refine ⟨Nat.le_refl _, Nat.le_refl _, Int.le_refl _, by show (-1 : Int) < _; omega⟩
  | i + 1, h => by
    obtain ⟨h1, h2, h3, h4⟩ := tgT_bound (l := l) (a := a) i (by omega)
    rw [tgT_succ (List.getElem?_eq_getElem (show i < (oN l).length by omega))]
    split
    · refine ⟨by show _ + 1 ≤ i + 1; omega, ?_, by show (-1 : Int) ≤ (i : Int); omega, by show (i : Int) < _; omega⟩
      show (if i < (tgT l a i).2.1 then i else (tgT l a i).2.1) ≤ _
      split <;> omega
    · exact ⟨by omega, h2, h3, h4⟩
def tgI (l : List Nd) (A : Option Addr) (c bn on cn ba oa ca : Nat) (B : Option Addr) (d a i : Nat) : SS :=
  ⟨[(0, .g 1000 A l.length c), (1, .v (.int .i64 a)), (5, .v (.int .i64 ((eR l a : Int) - a))), (7, .g 1001 B (ordI l 0).length d), (9, .v (.int .i64 ((tgT l a i).1 : Int))), (10, .v (.int .i64 ((tgT l a i).2.1 : Int))), (11, .v (.int .i64 (tgT l a i).2.2)), (12, .v (.int .i64 i))],
    (1001, .ints B d .i64 (ordI l 0)) :: odHp l A c bn on cn ba oa ca, 3000⟩
theorem tgT_zero {l : List Nd} {a : Nat} : tgT l a 0 = (0, (oN l).length, -1) := rfl
def glTg : List (FuncId × Spc) := [(11, spFar15), (12, spShown15), (17, spSizeP), (24, spOrder)]
theorem glTg_ok : GOk Tryz.prog (lookG glTg) := lG_cons (by kernel_rfl) spFar15_ok <| lG_cons (by kernel_rfl) spShown15_ok <| lG_cons (by kernel_rfl) spSizeP_ok <| lG_cons (by kernel_rfl) spOrder_ok lG_nil
set_option maxRecDepth 100000 in
set_option maxHeartbeats 4000000 in
theorem exprTogether_walk (l : List Nd) (hlen : l.length ≤ 9223372036854775807) (hz : zsR l) (a : Int) (A : Option Addr) (c : Nat) (bn on cn ba oa ca : Nat) (h4 : 4 ≤ cn) (h3 : 3 ≤ ca) (w : World) (h : allRd w.heap.size w (odHp l A c bn on cn ba oa ca)) :
    Calls Tryz.prog 6 #[.slice A l.length c, .int .i64 a] w fun e w' => e = .returned (.bool true) ∧ Below w.heap.size w w' := by
  refine calls_go (args := [.g 1000 A l.length c, .v (.int .i64 a)]) (hp := odHp l A c bn on cn ba oa ca) (nx := 1001) (n := 1000) (U := [(1000000, 13)]) (V := []) (tl := tlRe) (gl := glTg) (post := fun s ys => ys = [.v (.bool true)])
    followP tlRe_ok glTg_ok Tryz.func6 rfl (by kernel_rfl) (Nat.le_of_ble_eq_true (by kernel_rfl)) (by kernel_rfl) (by kernel_rfl) (hh_list h) (free_list (by simp [allLt, odHp, gHu, gHp])) ?_ ?_
  · rintro s ys w' rfl H
    exact ⟨rfl, H.below⟩
  intro L F T G nd va hE
  obtain ⟨hL, hF, hs, hv, hT, hG, hR, hI, hJ, hW⟩ := hE
  rw [Tryz.results6] at hF
  simp (maxSteps := 1000000) only [En.nN, En.E, En.evsC, List.map_cons, List.map_nil, Nat.reduceBEq, Nat.reduceAdd, Nat.reduceMul, Nat.reduceEqDiff, Nat.reduceLeDiff, Nat.reduceLT, ne_eq, reduceCtorEq, Int.reduceBEq, Int.reduceBNe, Int.reduceAdd, Int.reduceSub, Int.reduceMul, Int.reduceTDiv, Int.reduceTMod, Int.reduceNeg, En.bitN, Nat.testBit, Nat.reduceShiftRight, Nat.reduceShiftLeft, Nat.reduceAnd, Nat.reduceOr, Nat.reduceBNe, Int.reduceToNat, Nat.reduceSub, Int.reduceLE, Int.reduceLT] at hv
  simp only [En.at_nil, En.at_cons, En.ag_nil, En.ag_cons, and_true, tlRe, glTg, tyInt, tyI64, tyBool, tyStr, tyErr, tyNode, tyNodes, tyInts] at hT hG
  cases hf : far15V l with
  | true =>
    simp (maxSteps := 10000000) only [En.E, En.evsC, List.map_cons, List.map_nil, Nat.reduceBEq, Nat.reduceAdd, Nat.reduceMul, Nat.reduceEqDiff, Nat.reduceLeDiff, Nat.reduceLT, ne_eq, reduceCtorEq, Int.reduceBEq, Int.reduceBNe, Int.reduceAdd, Int.reduceSub, Int.reduceMul, Int.reduceTDiv, Int.reduceTMod, Int.reduceNeg, En.bitN, Nat.testBit, Nat.reduceShiftRight, Nat.reduceShiftLeft, Nat.reduceAnd, Nat.reduceOr, Nat.reduceBNe, Int.reduceToNat, Nat.reduceSub, Int.reduceLE, Int.reduceLT, En.vV, hs, hv, hT, hG, hF, odHp, gHu, gHp, spFar15_q, NdR_q, chL_q, hlen, hz, hf, spShown15_q, globR_q, globU_q, h4, h3]
  | false =>
    obtain ⟨f1, f2, f3, f4⟩ := far15_no hf
    by_cases h0 : askV l a = 0
    · have hw := ask_whole h0
      obtain ⟨k0, k1, k2, k3⟩ := ask_ok h0
      obtain ⟨a, rfl⟩ : ∃ n : Nat, a = (n : Int) := ⟨a.toNat, by omega⟩
      rw [Int.toNat_natCast] at hw k3
      have hg := (chk_ok k0).2.2.1
      have hal := hw.lt
      have d0 : (askV l a != 0) = false := by rw [h0]; rfl
      have e0 : ((chkV l).2 == 0) = true := by rw [k0]; rfl
      have hE := EndR_gt (M := Ms l) hg.fine hal
      have hE2 : eR l a ≤ l.length := (whole_iff hg.fine hal).1 hw
      have hE3 : a < eR l a := hE.1
      have hsz : sizV l a = (eR l a : Int) - a := by rw [sizV, if_pos h0, Int.toNat_natCast]
      have hsum : (a : Int) + ((eR l a : Int) - a) = (eR l a : Int) := by omega
      have i1 : inr .i64 (eR l a : Int) := by simp only [En.inr, En.lo, En.hi]; omega
      have d1 : decide ((eR l a : Int) > (l.length : Int)) = false := decide_eq_false (by omega)
      have hol : (oN l).length ≤ l.length := by rw [← oN_len]; exact ordI_len hg (chk_tree k0).1
      have i2 : inr .i64 (-1) := by simp only [En.inr, En.lo, En.hi]; omega
      simp (maxSteps := 10000000) only [En.E, En.evsC, List.map_cons, List.map_nil, Nat.reduceBEq, Nat.reduceAdd, Nat.reduceMul, Nat.reduceEqDiff, Nat.reduceLeDiff, Nat.reduceLT, ne_eq, reduceCtorEq, Int.reduceBEq, Int.reduceBNe, Int.reduceAdd, Int.reduceSub, Int.reduceMul, Int.reduceTDiv, Int.reduceTMod, Int.reduceNeg, En.bitN, Nat.testBit, Nat.reduceShiftRight, Nat.reduceShiftLeft, Nat.reduceAnd, Nat.reduceOr, Nat.reduceBNe, Int.reduceToNat, Nat.reduceSub, Int.reduceLE, Int.reduceLT, En.vV, hs, hv, hT, hG, hF, odHp, gHu, gHp, spFar15_q, NdR_q, chL_q, hlen, hz, hf, spShown15_q, globR_q, globU_q, h4, h3, spSizeP_q, ckR, f3, f4, d0, hsz, spOrder_q, lsR, e0, k0, hsum, i1, d1, i2, Bool.false_eq_true]
      intro B d
      have z1 : tgT l a 0 = (0, (oN l).length, -1) := rfl
      refine hI {i : Nat // i ≤ (oN l).length} (fun x => tgI l A c bn on cn ba oa ca B d a x.1) (fun x => (oN l).length - x.1) _ _ _ ⟨0, Nat.zero_le _⟩ (sle_all [1001, 1000, 4, 5, 0, 1, 2, 3] (by decide) (by simp only [En.E, En.evsC, List.map_cons, List.map_nil, Nat.reduceBEq, Nat.reduceAdd, Nat.reduceMul, Nat.reduceEqDiff, Nat.reduceLeDiff, Nat.reduceLT, ne_eq, reduceCtorEq, Int.reduceBEq, Int.reduceBNe, Int.reduceAdd, Int.reduceSub, Int.reduceMul, Int.reduceTDiv, Int.reduceTMod, Int.reduceNeg, En.bitN, Nat.testBit, Nat.reduceShiftRight, Nat.reduceShiftLeft, Nat.reduceAnd, Nat.reduceOr, Nat.reduceBNe, Int.reduceToNat, Nat.reduceSub, Int.reduceLE, Int.reduceLT, En.slLe, En.hpLe, En.chE, En.allLt, tgI, odHp, gHu, gHp, z1, oN_len, Int.cast_ofNat_Int])) ?_
      rintro ⟨i, hi⟩
      refine hR 1000 _ _ ?_
      obtain ⟨b1, b2, b3, b4⟩ := tgT_bound (l := l) (a := a) i hi
      by_cases hlt : i < (oN l).length
      · obtain ⟨p, hp⟩ : ∃ p, (oN l)[i]? = some p := ⟨_, List.getElem?_eq_getElem hlt⟩
        have hpl := oN_lt k0 hp
        have hgv := ordI_at hp
        have hst := tgT_succ (a := a) hp
        have d2 : decide ((i : Int) < ((ordI l 0).length : Int)) = true := decide_eq_true (by rw [oN_len]; omega)
        have i0 : inr .i64 ((i : Int) + 1) := by simp only [En.inr, En.lo, En.hi]; omega
        have i3 : inr .i64 (((tgT l a i).1 : Int) + 1) := by simp only [En.inr, En.lo, En.hi]; omega
        have g1 : (0 : Int) ≤ i ∧ (i : Int) < (ordI l 0).length := by rw [oN_len]; omega
        have g2 : (0 : Int) ≤ i ∧ i < (ordI l 0).length := by rw [oN_len]; omega
        have fin : ∀ j, j = i + 1 → j ≤ (oN l).length := fun j hj => by omega
        by_cases x1 : a ≤ p
        · have c1 : decide ((p : Int) ≥ (a : Int)) = true := decide_eq_true (by omega)
          by_cases x2 : p < eR l a
          · have c2 : decide ((p : Int) < (eR l a : Int)) = true := decide_eq_true (by omega)
            rw [if_pos ⟨x1, x2⟩] at hst
            by_cases x3 : i < (tgT l a i).2.1
            · have c3 : decide ((i : Int) < ((tgT l a i).2.1 : Int)) = true := decide_eq_true (by omega)
              rw [if_pos x3] at hst
              simp (maxSteps := 10000000) only [En.E, En.evsC, List.map_cons, List.map_nil, Nat.reduceBEq, Nat.reduceAdd, Nat.reduceMul, Nat.reduceEqDiff, Nat.reduceLeDiff, Nat.reduceLT, ne_eq, reduceCtorEq, Int.reduceBEq, Int.reduceBNe, Int.reduceAdd, Int.reduceSub, Int.reduceMul, Int.reduceTDiv, Int.reduceTMod, Int.reduceNeg, En.bitN, Nat.testBit, Nat.reduceShiftRight, Nat.reduceShiftLeft, Nat.reduceAnd, Nat.reduceOr, Nat.reduceBNe, Int.reduceToNat, Nat.reduceSub, Int.reduceLE, Int.reduceLT, En.vV, hs, hv, hT, hG, hF, tgI, odHp, gHu, gHp, d2, i0, i1, i3, g1, g2, hgv, hsum, c1, c2, c3, Int.toNat_natCast]
              exact ⟨⟨i + 1, by omega⟩, (sle_all [1001, 1000, 4, 5, 0, 1, 2, 3] (by decide) (by simp only [En.E, En.evsC, List.map_cons, List.map_nil, Nat.reduceBEq, Nat.reduceAdd, Nat.reduceMul, Nat.reduceEqDiff, Nat.reduceLeDiff, Nat.reduceLT, ne_eq, reduceCtorEq, Int.reduceBEq, Int.reduceBNe, Int.reduceAdd, Int.reduceSub, Int.reduceMul, Int.reduceTDiv, Int.reduceTMod, Int.reduceNeg, En.bitN, Nat.testBit, Nat.reduceShiftRight, Nat.reduceShiftLeft, Nat.reduceAnd, Nat.reduceOr, Nat.reduceBNe, Int.reduceToNat, Nat.reduceSub, Int.reduceLE, Int.reduceLT, En.slLe, En.hpLe, En.chE, En.allLt, tgI, odHp, gHu, gHp, hst, Int.natCast_add, Int.cast_ofNat_Int])), by show (oN l).length - (i + 1) < (oN l).length - i; omega⟩
            · have c3 : decide ((i : Int) < ((tgT l a i).2.1 : Int)) = false := decide_eq_false (by omega)
              rw [if_neg x3] at hst
              simp (maxSteps := 10000000) only [En.E, En.evsC, List.map_cons, List.map_nil, Nat.reduceBEq, Nat.reduceAdd, Nat.reduceMul, Nat.reduceEqDiff, Nat.reduceLeDiff, Nat.reduceLT, ne_eq, reduceCtorEq, Int.reduceBEq, Int.reduceBNe, Int.reduceAdd, Int.reduceSub, Int.reduceMul, Int.reduceTDiv, Int.reduceTMod, Int.reduceNeg, En.bitN, Nat.testBit, Nat.reduceShiftRight, Nat.reduceShiftLeft, Nat.reduceAnd, Nat.reduceOr, Nat.reduceBNe, Int.reduceToNat, Nat.reduceSub, Int.reduceLE, Int.reduceLT, En.vV, hs, hv, hT, hG, hF, tgI, odHp, gHu, gHp, d2, i0, i1, i3, g1, g2, hgv, hsum, c1, c2, c3, Int.toNat_natCast]
              exact ⟨⟨i + 1, by omega⟩, (sle_all [1001, 1000, 4, 5, 0, 1, 2, 3] (by decide) (by simp only [En.E, En.evsC, List.map_cons, List.map_nil, Nat.reduceBEq, Nat.reduceAdd, Nat.reduceMul, Nat.reduceEqDiff, Nat.reduceLeDiff, Nat.reduceLT, ne_eq, reduceCtorEq, Int.reduceBEq, Int.reduceBNe, Int.reduceAdd, Int.reduceSub, Int.reduceMul, Int.reduceTDiv, Int.reduceTMod, Int.reduceNeg, En.bitN, Nat.testBit, Nat.reduceShiftRight, Nat.reduceShiftLeft, Nat.reduceAnd, Nat.reduceOr, Nat.reduceBNe, Int.reduceToNat, Nat.reduceSub, Int.reduceLE, Int.reduceLT, En.slLe, En.hpLe, En.chE, En.allLt, tgI, odHp, gHu, gHp, hst, Int.natCast_add, Int.cast_ofNat_Int])), by show (oN l).length - (i + 1) < (oN l).length - i; omega⟩
          · have c2 : decide ((p : Int) < (eR l a : Int)) = false := decide_eq_false (by omega)
            rw [if_neg (by omega)] at hst
            simp (maxSteps := 10000000) only [En.E, En.evsC, List.map_cons, List.map_nil, Nat.reduceBEq, Nat.reduceAdd, Nat.reduceMul, Nat.reduceEqDiff, Nat.reduceLeDiff, Nat.reduceLT, ne_eq, reduceCtorEq, Int.reduceBEq, Int.reduceBNe, Int.reduceAdd, Int.reduceSub, Int.reduceMul, Int.reduceTDiv, Int.reduceTMod, Int.reduceNeg, En.bitN, Nat.testBit, Nat.reduceShiftRight, Nat.reduceShiftLeft, Nat.reduceAnd, Nat.reduceOr, Nat.reduceBNe, Int.reduceToNat, Nat.reduceSub, Int.reduceLE, Int.reduceLT, En.vV, hs, hv, hT, hG, hF, tgI, odHp, gHu, gHp, d2, i0, i1, i3, g1, g2, hgv, hsum, c1, c2, Int.toNat_natCast]
            exact ⟨⟨i + 1, by omega⟩, (sle_all [1001, 1000, 4, 5, 0, 1, 2, 3] (by decide) (by simp only [En.E, En.evsC, List.map_cons, List.map_nil, Nat.reduceBEq, Nat.reduceAdd, Nat.reduceMul, Nat.reduceEqDiff, Nat.reduceLeDiff, Nat.reduceLT, ne_eq, reduceCtorEq, Int.reduceBEq, Int.reduceBNe, Int.reduceAdd, Int.reduceSub, Int.reduceMul, Int.reduceTDiv, Int.reduceTMod, Int.reduceNeg, En.bitN, Nat.testBit, Nat.reduceShiftRight, Nat.reduceShiftLeft, Nat.reduceAnd, Nat.reduceOr, Nat.reduceBNe, Int.reduceToNat, Nat.reduceSub, Int.reduceLE, Int.reduceLT, En.slLe, En.hpLe, En.chE, En.allLt, tgI, odHp, gHu, gHp, hst, Int.natCast_add, Int.cast_ofNat_Int])), by show (oN l).length - (i + 1) < (oN l).length - i; omega⟩
        · have c1 : decide ((p : Int) ≥ (a : Int)) = false := decide_eq_false (by omega)
          rw [if_neg (by omega)] at hst
          simp (maxSteps := 10000000) only [En.E, En.evsC, List.map_cons, List.map_nil, Nat.reduceBEq, Nat.reduceAdd, Nat.reduceMul, Nat.reduceEqDiff, Nat.reduceLeDiff, Nat.reduceLT, ne_eq, reduceCtorEq, Int.reduceBEq, Int.reduceBNe, Int.reduceAdd, Int.reduceSub, Int.reduceMul, Int.reduceTDiv, Int.reduceTMod, Int.reduceNeg, En.bitN, Nat.testBit, Nat.reduceShiftRight, Nat.reduceShiftLeft, Nat.reduceAnd, Nat.reduceOr, Nat.reduceBNe, Int.reduceToNat, Nat.reduceSub, Int.reduceLE, Int.reduceLT, En.vV, hs, hv, hT, hG, hF, tgI, odHp, gHu, gHp, d2, i0, i1, i3, g1, g2, hgv, hsum, c1, Int.toNat_natCast, Bool.false_eq_true]
          exact ⟨⟨i + 1, by omega⟩, (sle_all [1001, 1000, 4, 5, 0, 1, 2, 3] (by decide) (by simp only [En.E, En.evsC, List.map_cons, List.map_nil, Nat.reduceBEq, Nat.reduceAdd, Nat.reduceMul, Nat.reduceEqDiff, Nat.reduceLeDiff, Nat.reduceLT, ne_eq, reduceCtorEq, Int.reduceBEq, Int.reduceBNe, Int.reduceAdd, Int.reduceSub, Int.reduceMul, Int.reduceTDiv, Int.reduceTMod, Int.reduceNeg, En.bitN, Nat.testBit, Nat.reduceShiftRight, Nat.reduceShiftLeft, Nat.reduceAnd, Nat.reduceOr, Nat.reduceBNe, Int.reduceToNat, Nat.reduceSub, Int.reduceLE, Int.reduceLT, En.slLe, En.hpLe, En.chE, En.allLt, tgI, odHp, gHu, gHp, hst, Int.natCast_add, Int.cast_ofNat_Int])), by show (oN l).length - (i + 1) < (oN l).length - i; omega⟩
      · obtain rfl : i = (oN l).length := by omega
        have d2 : decide (((oN l).length : Int) < ((ordI l 0).length : Int)) = false := decide_eq_false (by rw [oN_len]; omega)
        obtain ⟨m, fi, la, t1, t2, t3⟩ := together (n := l.length) (f := fun p => !numb (Ks l) p) hE3 hE2 (by rw [show numb (Ks l) a = false from k3]; rfl)
        have e1 : down l.length (fun p => !numb (Ks l) p) = oN l := (ord_down k0).symm
        rw [e1] at t1 t2
        have e2 : tgT l a (oN l).length = (m, fi, (la : Int)) := by rw [tgT, List.take_length]; exact t1
        have hla := (List.getElem?_eq_some_iff.1 t2).1
        have hfi : fi ≤ (oN l).length := by have := b2; rw [e2] at this; exact this
        have hgv := ordI_at t2
        have c1 : decide ((la : Int) ≥ 0) = true := decide_eq_true (by omega)
        have g1 : (0 : Int) ≤ la ∧ (la : Int) < (ordI l 0).length := by rw [oN_len]; omega
        have g2 : (0 : Int) ≤ la ∧ la < (ordI l 0).length := by rw [oN_len]; omega
        have c2 : ((a : Int) == (a : Int)) = true := by simp
        have i4 : inr .i64 ((la : Int) - (fi : Int)) := by simp only [En.inr, En.lo, En.hi]; omega
        have i5 : inr .i64 ((la : Int) - (fi : Int) + 1) := by simp only [En.inr, En.lo, En.hi]; omega
        have c3 : ((la : Int) - (fi : Int) + 1 == (m : Int)) = true := by rw [t3]; simp
        simp (maxSteps := 10000000) only [En.E, En.evsC, List.map_cons, List.map_nil, Nat.reduceBEq, Nat.reduceAdd, Nat.reduceMul, Nat.reduceEqDiff, Nat.reduceLeDiff, Nat.reduceLT, ne_eq, reduceCtorEq, Int.reduceBEq, Int.reduceBNe, Int.reduceAdd, Int.reduceSub, Int.reduceMul, Int.reduceTDiv, Int.reduceTMod, Int.reduceNeg, En.bitN, Nat.testBit, Nat.reduceShiftRight, Nat.reduceShiftLeft, Nat.reduceAnd, Nat.reduceOr, Nat.reduceBNe, Int.reduceToNat, Nat.reduceSub, Int.reduceLE, Int.reduceLT, En.vV, hs, hv, hT, hG, hF, tgI, odHp, gHu, gHp, d2, e2, c1, g1, g2, hgv, c2, i4, i5, c3, spShown15_q, globR_q, globU_q, h4, h3, Int.toNat_natCast]
    · have d0 : (askV l a != 0) = true := by simpa using h0
      have hsz : sizV l a = 0 := by rw [sizV, if_neg h0]
      simp (maxSteps := 10000000) only [En.E, En.evsC, List.map_cons, List.map_nil, Nat.reduceBEq, Nat.reduceAdd, Nat.reduceMul, Nat.reduceEqDiff, Nat.reduceLeDiff, Nat.reduceLT, ne_eq, reduceCtorEq, Int.reduceBEq, Int.reduceBNe, Int.reduceAdd, Int.reduceSub, Int.reduceMul, Int.reduceTDiv, Int.reduceTMod, Int.reduceNeg, En.bitN, Nat.testBit, Nat.reduceShiftRight, Nat.reduceShiftLeft, Nat.reduceAnd, Nat.reduceOr, Nat.reduceBNe, Int.reduceToNat, Nat.reduceSub, Int.reduceLE, Int.reduceLT, En.vV, hs, hv, hT, hG, hF, odHp, gHu, gHp, spFar15_q, NdR_q, chL_q, hlen, hz, hf, spShown15_q, globR_q, globU_q, h4, h3, spSizeP_q, ckR, f3, f4, d0, hsz]
end Pr
end Go.Proofs.YtpkldfkmokeamaaGreatDoor
