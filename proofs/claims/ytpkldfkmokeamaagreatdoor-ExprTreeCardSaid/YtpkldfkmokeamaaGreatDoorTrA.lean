/-
Chapter 15: the walk of ExprTree.
-/
import Derived.Test.YtpkldfkmokeamaaGreatDoorTgA
set_option linter.unusedSimpArgs false
set_option linter.unusedVariables false
namespace Go.Proofs.YtpkldfkmokeamaaGreatDoor
namespace Pr
open Go Go.RowKit En
open Ex Rf
/-- where a node stands in the first i of an order; below 0: nowhere -/
def plV (O : List Nat) : Nat → Nat → Int
  | 0, _ => -1
  | i + 1, j => if O[i]? = some j then (i : Int) else plV O i j
theorem plV_no {O : List Nat} {j : Nat} : ∀ i, (∀ q, q < i → O[q]? ≠ some j) → plV O i j = -1
  | 0, _ => rfl
  | i + 1, h => by rw [plV, if_neg (h i (Nat.lt_succ_self i)), plV_no i fun q hq => h q (by omega)]
theorem plV_at {O : List Nat} {j q : Nat} (hu : ∀ a b : Nat, O[a]? = some j → O[b]? = some j → a = b) (hq : O[q]? = some j) : ∀ i, q < i → plV O i j = q
  | 0, h => absurd h (Nat.not_lt_zero q)
  | i + 1, h => by
    rw [plV]
    by_cases e : O[i]? = some j
    · rw [if_pos e, hu i q e hq]
    · have : q ≠ i := fun x => e (by rw [← x]; exact hq)
      rw [if_neg e, plV_at hu hq i (by omega)]
theorem oN_inj {l : List Nd} (h0 : (chkV l).2 = 0) {p a b : Nat} (ha : (oN l)[a]? = some p) (hb : (oN l)[b]? = some p) : a = b := by
  rw [oN, ord_down h0] at ha hb
  exact down_inj ha hb
theorem pl_put {O : List Nat} {n i p : Nat} (h : O[i]? = some p) : tabS n (updF (fun j => .v (.int .i64 (plV O i j))) p (.v (.int .i64 (i : Int)))) = tabS n fun j => .v (.int .i64 (plV O (i + 1) j)) := by
  refine tab_congr fun j _ => ?_
  by_cases e : j = p
  · subst e; rw [updF_same, plV, if_pos h]
  · rw [updF_ne e, plV, if_neg fun x => e (Option.some.inj (h.symm.trans x)).symm]
def mkF (i : Nat) : Nat → SV := fun j => .v (.int .i64 (if j < i then -1 else 0))
theorem mk_zero (n : Nat) : tabS n (mkF 0) = tabS n fun _ => .v (.int .i64 0) := tab_congr fun j _ => by rw [mkF, if_neg (Nat.not_lt_zero j)]
theorem mk_put (n i : Nat) : tabS n (updF (mkF i) i (.v (.int .i64 (-1)))) = tabS n (mkF (i + 1)) := by
  refine tab_congr fun j _ => ?_
  by_cases e : j = i
  · subst e; rw [updF_same, mkF, if_pos (Nat.lt_succ_self j)]
  · rw [updF_ne e]
    simp only [mkF, show (j < i) = (j < i + 1) from propext (by omega)]
theorem mk_end (O : List Nat) (n : Nat) : tabS n (mkF n) = tabS n fun j => .v (.int .i64 (plV O 0 j)) := tab_congr fun j hj => by rw [mkF, if_pos hj]; rfl
/-- a node's place in the order -/
def plE (l : List Nd) (j : Nat) : Int := plV (oN l) (oN l).length j
theorem plE_num {l : List Nd} (h0 : (chkV l).2 = 0) {j : Nat} (hn : nuV l j = true) : plE l j = -1 := by
  refine plV_no _ fun q hq e => ?_
  have hm := List.mem_of_getElem? e
  rw [oN, ord_down h0, down_mem] at hm
  have h2 : (!numb (Ks l) j) = true := hm.2
  have h3 : numb (Ks l) j = true := hn
  rw [h3] at h2; cases h2
theorem plE_at {l : List Nd} (h0 : (chkV l).2 = 0) {j : Nat} (hj : j < l.length) (hn : nuV l j = false) : ∃ q : Nat, plE l j = q ∧ (oN l)[q]? = some j := by
  have hm : j ∈ oN l := by
    rw [oN, ord_down h0, down_mem]
    refine ⟨hj, ?_⟩
    show (!numb (Ks l) j) = true
    have h3 : numb (Ks l) j = false := hn
    rw [h3]; rfl
  obtain ⟨q, hq⟩ := List.getElem?_of_mem hm
  exact ⟨q, plV_at (fun a b ha hb => oN_inj h0 ha hb) hq _ (List.getElem?_eq_some_iff.1 hq).1, hq⟩
/-- later nodes stand before earlier ones -/
theorem plE_lt {l : List Nd} (h0 : (chkV l).2 = 0) {j k : Nat} (hj : j < l.length) (hk : k < l.length) (nj : nuV l j = false) (nk : nuV l k = false) (h : j < k) : plE l k < plE l j := by
  obtain ⟨a, ea, ha⟩ := plE_at h0 hj nj
  obtain ⟨b, eb, hb⟩ := plE_at h0 hk nk
  rw [oN, ord_down h0] at ha hb
  have := down_le ha hb h
  omega
/-- a number of a list is one -/
theorem num_kind {l : List Nd} (h0 : (chkV l).2 = 0) {i : Nat} (hi : i < l.length) (hn : nuV l i = true) : (ndAt l i).k = 1 := by
  obtain ⟨j, h1, h2⟩ := numb_iff.1 hn
  have h3 : (ndAt l j).k = 3 := by
    by_cases e : (ndAt l j).k = 3
    · exact e
    · have : Ks l j = 0 := if_neg e
      omega
  have := bad_num (chk_bad h0 j (by omega)) h3 (i - (j + 1)) (by omega)
  rwa [show j + 1 + (i - (j + 1)) = i by omega] at this
theorem ask_num {l : List Nd} (h0 : (chkV l).2 = 0) {i : Nat} (hn : nuV l i = true) : askV l (i : Int) = 7 := by
  rw [askV, if_neg (by simp [h0]), if_pos (.inr (.inr (by rw [Int.toNat_natCast]; exact hn)))]
theorem ask_no {l : List Nd} (h0 : (chkV l).2 = 0) {i : Nat} (hi : i < l.length) (hn : nuV l i = false) : askV l (i : Int) = 0 := by
  rw [askV, if_neg (by simp [h0]), if_neg (by rw [Int.toNat_natCast, hn]; simp; omega)]
/-- a node's operands, its end and its depth -/
theorem node_cases {l : List Nd} (h0 : (chkV l).2 = 0) {i : Nat} (hi : i < l.length) (hn : nuV l i = false) :
    (kidI l i = [] ∧ eR l i = i + 1 + Ks l i ∧ dpV l i = 1) ∨
    (∃ p : Nat, kidI l i = [(p : Int)] ∧ p = i + 1 ∧ (ndAt l i).k ≠ 3 ∧ p < l.length ∧ nuV l p = false ∧ eR l i = eR l p ∧ dpV l i = dpV l p + 1) ∨
    (∃ p q : Nat, kidI l i = [(p : Int), (q : Int)] ∧ p = i + 1 ∧ q = eR l p ∧ (ndAt l i).k ≠ 3 ∧ p < l.length ∧ q < l.length ∧ p < q ∧ nuV l p = false ∧ nuV l q = false ∧ eR l i = eR l q ∧ dpV l i = max (dpV l p) (dpV l q) + 1) := by
  have hg := (chk_ok h0).2.2.1
  have hF := hg.fine
  have hP := plain_of hg (chk_bad h0)
  obtain ⟨t1, t2, _⟩ := chk_tree h0
  have hw := all_whole hF hP t1 t2 hi hn
  have hc := clean_of hP (Nat.le_of_lt hi) hn
  obtain ⟨q1, q2, q3⟩ := hw.kids hF
  have hE := EndR_rec (M := Ms l) hF hi
  have hD := Dep_recR (M := Ms l) hF hw
  have hnum : ∀ p ∈ kidsR l.length (Ms l) (Ks l) i, p < l.length ∧ nuV l p = false := by
    intro p hp
    rw [← q1] at hp
    have hwp := q2 p hp
    refine ⟨hwp.lt, ?_⟩
    have hm : p ∈ Ord l.length (Ms l) (Ks l) i := by
      rw [Ord_rec (M := Ms l) hF hi]
      refine List.mem_append_left _ (List.mem_flatMap.2 ⟨p, List.mem_reverse.2 hp, ?_⟩)
      rw [Ord_rec (M := Ms l) hF hwp.lt]
      exact List.mem_append_right _ (List.mem_singleton.2 rfl)
    rw [Ord_eq hF hP hw hc, List.mem_reverse, List.mem_filter] at hm
    simpa [nuV] using hm.2
  have hK : Ms l i ≠ 0 → Ks l i = 0 := by
    intro hm
    refine if_neg fun h3 => hm ?_
    simp [Ms, Mn, opN, h3]
  have hk3 : Ms l i ≠ 0 → (ndAt l i).k ≠ 3 := fun hm h3 => hm (by simp [Ms, Mn, opN, h3])
  rcases M_lt hg hi with hm | hm | hm
  · left
    have hk : kidsR l.length (Ms l) (Ks l) i = [] := by rw [kidsR, hm]; rfl
    refine ⟨by rw [kidI, hk]; rfl, ?_, ?_⟩
    · rw [eR, hE, hm]; rfl
    · rw [dpV, hD, hk]; rfl
  · right; left
    have hk : kidsR l.length (Ms l) (Ks l) i = [i + 1] := by rw [kidsR, hm, hK (by omega), plcR]; rfl
    obtain ⟨n1, n2⟩ := hnum (i + 1) (by rw [hk]; exact List.mem_singleton.2 rfl)
    refine ⟨i + 1, by rw [kidI, hk]; rfl, rfl, hk3 (by omega), n1, n2, ?_, ?_⟩
    · rw [eR, hE, hm, hK (by omega), wkR, if_pos (by omega)]; rfl
    · rw [dpV, hD, hk]; simp [most, dpV]
  · right; right
    have hk : kidsR l.length (Ms l) (Ks l) i = [i + 1, eR l (i + 1)] := by rw [kidsR, hm, hK (by omega), plcR, plcR]; rfl
    obtain ⟨n1, n2⟩ := hnum (i + 1) (by rw [hk]; exact List.mem_cons_self ..)
    obtain ⟨n3, n4⟩ := hnum (eR l (i + 1)) (by rw [hk]; simp)
    have hgt : i + 1 < eR l (i + 1) := (EndR_gt (M := Ms l) hF n1).1
    refine ⟨i + 1, eR l (i + 1), by rw [kidI, hk]; rfl, rfl, rfl, hk3 (by omega), n1, n3, hgt, n2, n4, ?_, ?_⟩
    · rw [eR, hE, hm, hK (by omega), wkR, if_pos (by omega), wkR, if_pos (show EndR l.length (Ms l) (Ks l) (i + 1) ≤ l.length from Nat.le_of_lt n3)]; rfl
    · rw [dpV, hD, hk]; simp [most, dpV]
section
variable (l : List Nd) (A : Option Addr) (c bn on cn ba oa ca : Nat) (B : Option Addr) (d bp : Nat)
def trH (f : Nat → SV) : Hp := (1513, .blk bp (tabS l.length f) 3) :: (1001, .ints B d .i64 (ordI l 0)) :: odHp l A c bn on cn ba oa ca
def trSl : List (Nat × SV) := [(0, .g 1000 A l.length c), (3, .g 1001 B (ordI l 0).length d), (5, .gp 1513 bp 0 l.length l.length)]
def trI (i : Nat) : SS := ⟨(6, .v (.int .i64 i)) :: trSl l A c B d bp, trH l A c bn on cn ba oa ca B d bp (mkF i), 200000⟩
def trJ (i : Nat) : SS := ⟨(7, .v (.int .i64 i)) :: trSl l A c B d bp, trH l A c bn on cn ba oa ca B d bp (fun j => .v (.int .i64 (plV (oN l) i j))), 200000⟩
def trK (i : Nat) : SS := ⟨(8, .v (.int .i64 i)) :: trSl l A c B d bp, trH l A c bn on cn ba oa ca B d bp (fun j => .v (.int .i64 (plE l j))), 200000⟩
end
def glTr : List (FuncId × Spc) := [(11, spFar15), (12, spShown15), (17, spSizeP), (19, spDepthP), (21, spKidsP), (24, spOrder)]
theorem glTr_ok : GOk Tryz.prog (lookG glTr) := lG_cons (by kernel_rfl) spFar15_ok <| lG_cons (by kernel_rfl) spShown15_ok <| lG_cons (by kernel_rfl) spSizeP_ok <| lG_cons (by kernel_rfl) spDepthP_ok <| lG_cons (by kernel_rfl) spKidsP_ok <| lG_cons (by kernel_rfl) spOrder_ok lG_nil
set_option maxRecDepth 100000 in
set_option maxHeartbeats 4000000 in
theorem exprTree_walk (l : List Nd) (hlen : l.length ≤ 9223372036854775807) (hz : zsR l) (A : Option Addr) (c : Nat) (bn on cn ba oa ca : Nat) (h4 : 4 ≤ cn) (h3 : 3 ≤ ca) (w : World) (h : allRd w.heap.size w (odHp l A c bn on cn ba oa ca)) :
    Calls Tryz.prog 5 #[.slice A l.length c] w fun e w' => e = .returned (.bool true) ∧ Below w.heap.size w w' := by
  refine calls_go (args := [.g 1000 A l.length c]) (hp := odHp l A c bn on cn ba oa ca) (nx := 1001) (n := 2000) (U := [(30, 3), (1000000, 22)]) (V := []) (tl := tlRe) (gl := glTr) (post := fun s ys => ys = [.v (.bool true)])
    followP tlRe_ok glTr_ok Tryz.func5 rfl (by kernel_rfl) (Nat.le_of_ble_eq_true (by kernel_rfl)) (by kernel_rfl) (by kernel_rfl) (hh_list h) (free_list (by simp [allLt, odHp, gHu, gHp])) ?_ ?_
  · rintro s ys w' rfl H
    exact ⟨rfl, H.below⟩
  intro L F T G nd va hE
  obtain ⟨hL, hF, hs, hv, hT, hG, hR, hI, hJ, hW⟩ := hE
  rw [Tryz.results5] at hF
  simp (maxSteps := 1000000) only [En.nN, En.E, En.evsC, List.map_cons, List.map_nil, Nat.reduceBEq, Nat.reduceAdd, Nat.reduceMul, Nat.reduceEqDiff, Nat.reduceLeDiff, Nat.reduceLT, ne_eq, reduceCtorEq, Int.reduceBEq, Int.reduceBNe, Int.reduceAdd, Int.reduceSub, Int.reduceMul, Int.reduceTDiv, Int.reduceTMod, Int.reduceNeg, En.bitN, Nat.testBit, Nat.reduceShiftRight, Nat.reduceShiftLeft, Nat.reduceAnd, Nat.reduceOr, Nat.reduceBNe, Int.reduceToNat, Nat.reduceSub, Int.reduceLE, Int.reduceLT] at hv
  simp only [En.at_nil, En.at_cons, En.ag_nil, En.ag_cons, and_true, tlRe, glTr, tyInt, tyI64, tyBool, tyStr, tyErr, tyNode, tyNodes, tyInts] at hT hG
  cases hf : far15V l with
  | true =>
    simp (maxSteps := 10000000) only [En.E, En.evsC, List.map_cons, List.map_nil, Nat.reduceBEq, Nat.reduceAdd, Nat.reduceMul, Nat.reduceEqDiff, Nat.reduceLeDiff, Nat.reduceLT, ne_eq, reduceCtorEq, Int.reduceBEq, Int.reduceBNe, Int.reduceAdd, Int.reduceSub, Int.reduceMul, Int.reduceTDiv, Int.reduceTMod, Int.reduceNeg, En.bitN, Nat.testBit, Nat.reduceShiftRight, Nat.reduceShiftLeft, Nat.reduceAnd, Nat.reduceOr, Nat.reduceBNe, Int.reduceToNat, Nat.reduceSub, Int.reduceLE, Int.reduceLT, En.vV, hs, hv, hT, hG, hF, odHp, gHu, gHp, spFar15_q, NdR_q, chL_q, hlen, hz, hf, spShown15_q, globR_q, globU_q, h4, h3]
  | false =>
    obtain ⟨f1, f2, f3, f4⟩ := far15_no hf
    by_cases k0 : (chkV l).2 = 0
    · have hg := (chk_ok k0).2.2.1
      have d0 : ((chkV l).2 != 0) = false := by rw [k0]; rfl
      have e0 : ((chkV l).2 == 0) = true := by rw [k0]; rfl
      have hol : (oN l).length ≤ l.length := by rw [← oN_len]; exact ordI_len hg (chk_tree k0).1
      have i2 : inr .i64 (-1) := by simp only [En.inr, En.lo, En.hi]; omega
      simp (maxSteps := 10000000) only [En.E, En.evsC, List.map_cons, List.map_nil, Nat.reduceBEq, Nat.reduceAdd, Nat.reduceMul, Nat.reduceEqDiff, Nat.reduceLeDiff, Nat.reduceLT, ne_eq, reduceCtorEq, Int.reduceBEq, Int.reduceBNe, Int.reduceAdd, Int.reduceSub, Int.reduceMul, Int.reduceTDiv, Int.reduceTMod, Int.reduceNeg, En.bitN, Nat.testBit, Nat.reduceShiftRight, Nat.reduceShiftLeft, Nat.reduceAnd, Nat.reduceOr, Nat.reduceBNe, Int.reduceToNat, Nat.reduceSub, Int.reduceLE, Int.reduceLT, En.vV, hs, hv, hT, hG, hF, odHp, gHu, gHp, spFar15_q, NdR_q, chL_q, hlen, hz, hf, spShown15_q, globR_q, globU_q, h4, h3, ckR, f3, f4, spOrder_q, lsR, e0, d0, k0, i2, rep_tab, Int.toNat_natCast, Bool.false_eq_true]
      intro B d
      refine ⟨by omega, fun bp => ?_⟩
      refine hI {i : Nat // i ≤ l.length} (fun x => trI l A c bn on cn ba oa ca B d bp x.1) (fun x => l.length - x.1) _ _ _ ⟨0, Nat.zero_le _⟩ (sle_all [1513, 1001, 1000, 4, 5, 0, 1, 2, 3] (by decide) (by simp only [En.E, En.evsC, List.map_cons, List.map_nil, Nat.reduceBEq, Nat.reduceAdd, Nat.reduceMul, Nat.reduceEqDiff, Nat.reduceLeDiff, Nat.reduceLT, ne_eq, reduceCtorEq, Int.reduceBEq, Int.reduceBNe, Int.reduceAdd, Int.reduceSub, Int.reduceMul, Int.reduceTDiv, Int.reduceTMod, Int.reduceNeg, En.bitN, Nat.testBit, Nat.reduceShiftRight, Nat.reduceShiftLeft, Nat.reduceAnd, Nat.reduceOr, Nat.reduceBNe, Int.reduceToNat, Nat.reduceSub, Int.reduceLE, Int.reduceLT, En.slLe, En.hpLe, En.chE, En.allLt, trI, trSl, trH, odHp, gHu, gHp, mk_zero, Int.cast_ofNat_Int])) ?_
      rintro ⟨i, hi⟩
      refine hR 1000 _ _ ?_
      by_cases hlt : i < l.length
      · have d2 : decide ((i : Int) < (l.length : Int)) = true := decide_eq_true (by omega)
        have i0 : inr .i64 ((i : Int) + 1) := by simp only [En.inr, En.lo, En.hi]; omega
        simp (maxSteps := 10000000) only [En.E, En.evsC, List.map_cons, List.map_nil, Nat.reduceBEq, Nat.reduceAdd, Nat.reduceMul, Nat.reduceEqDiff, Nat.reduceLeDiff, Nat.reduceLT, ne_eq, reduceCtorEq, Int.reduceBEq, Int.reduceBNe, Int.reduceAdd, Int.reduceSub, Int.reduceMul, Int.reduceTDiv, Int.reduceTMod, Int.reduceNeg, En.bitN, Nat.testBit, Nat.reduceShiftRight, Nat.reduceShiftLeft, Nat.reduceAnd, Nat.reduceOr, Nat.reduceBNe, Int.reduceToNat, Nat.reduceSub, Int.reduceLE, Int.reduceLT, En.vV, hs, hv, hT, hG, hF, trI, trSl, trH, odHp, gHu, gHp, d2, i0, i2, Int.toNat_natCast, tab_put hlt, tab_lenS, Nat.mul_one]
        exact ⟨by omega, by omega, ⟨i + 1, by omega⟩, (sle_all [1513, 1001, 1000, 4, 5, 0, 1, 2, 3] (by decide) (by simp only [En.E, En.evsC, List.map_cons, List.map_nil, Nat.reduceBEq, Nat.reduceAdd, Nat.reduceMul, Nat.reduceEqDiff, Nat.reduceLeDiff, Nat.reduceLT, ne_eq, reduceCtorEq, Int.reduceBEq, Int.reduceBNe, Int.reduceAdd, Int.reduceSub, Int.reduceMul, Int.reduceTDiv, Int.reduceTMod, Int.reduceNeg, En.bitN, Nat.testBit, Nat.reduceShiftRight, Nat.reduceShiftLeft, Nat.reduceAnd, Nat.reduceOr, Nat.reduceBNe, Int.reduceToNat, Nat.reduceSub, Int.reduceLE, Int.reduceLT, En.slLe, En.hpLe, En.chE, En.allLt, trI, trSl, trH, odHp, gHu, gHp, mk_put, Int.natCast_add, Int.cast_ofNat_Int])), by show l.length - (i + 1) < l.length - i; omega⟩
      · have d2 : decide ((i : Int) < (l.length : Int)) = false := decide_eq_false (by omega)
        obtain rfl : i = l.length := by omega
        simp (maxSteps := 10000000) only [En.E, En.evsC, List.map_cons, List.map_nil, Nat.reduceBEq, Nat.reduceAdd, Nat.reduceMul, Nat.reduceEqDiff, Nat.reduceLeDiff, Nat.reduceLT, ne_eq, reduceCtorEq, Int.reduceBEq, Int.reduceBNe, Int.reduceAdd, Int.reduceSub, Int.reduceMul, Int.reduceTDiv, Int.reduceTMod, Int.reduceNeg, En.bitN, Nat.testBit, Nat.reduceShiftRight, Nat.reduceShiftLeft, Nat.reduceAnd, Nat.reduceOr, Nat.reduceBNe, Int.reduceToNat, Nat.reduceSub, Int.reduceLE, Int.reduceLT, En.vV, hs, hv, hT, hG, hF, trI, trSl, trH, odHp, gHu, gHp, d2]
        refine hI {i : Nat // i ≤ (oN l).length} (fun x => trJ l A c bn on cn ba oa ca B d bp x.1) (fun x => (oN l).length - x.1) _ _ _ ⟨0, Nat.zero_le _⟩ (sle_all [1513, 1001, 1000, 4, 5, 0, 1, 2, 3] (by decide) (by simp only [En.E, En.evsC, List.map_cons, List.map_nil, Nat.reduceBEq, Nat.reduceAdd, Nat.reduceMul, Nat.reduceEqDiff, Nat.reduceLeDiff, Nat.reduceLT, ne_eq, reduceCtorEq, Int.reduceBEq, Int.reduceBNe, Int.reduceAdd, Int.reduceSub, Int.reduceMul, Int.reduceTDiv, Int.reduceTMod, Int.reduceNeg, En.bitN, Nat.testBit, Nat.reduceShiftRight, Nat.reduceShiftLeft, Nat.reduceAnd, Nat.reduceOr, Nat.reduceBNe, Int.reduceToNat, Nat.reduceSub, Int.reduceLE, Int.reduceLT, En.slLe, En.hpLe, En.chE, En.allLt, trJ, trSl, trH, odHp, gHu, gHp, mk_end (oN l), Int.cast_ofNat_Int])) ?_
        rintro ⟨i, hi⟩
        refine hR 1000 _ _ ?_
        by_cases hlt : i < (oN l).length
        · obtain ⟨p, hp⟩ : ∃ p, (oN l)[i]? = some p := ⟨_, List.getElem?_eq_getElem hlt⟩
          have hpl := oN_lt k0 hp
          have hgv := ordI_at hp
          have hpn : plV (oN l) i p = -1 := plV_no _ fun q hq e => by have := oN_inj k0 hp e; omega
          have hput := pl_put (n := l.length) hp
          have d2 : decide ((i : Int) < ((ordI l 0).length : Int)) = true := decide_eq_true (by rw [oN_len]; omega)
          have i0 : inr .i64 ((i : Int) + 1) := by simp only [En.inr, En.lo, En.hi]; omega
          have g1 : (0 : Int) ≤ i ∧ (i : Int) < (ordI l 0).length := by rw [oN_len]; omega
          have g2 : (0 : Int) ≤ i ∧ i < (ordI l 0).length := by rw [oN_len]; omega
          have c1 : decide ((p : Int) < 0) = false := decide_eq_false (by omega)
          have c2 : decide ((p : Int) ≥ (l.length : Int)) = false := decide_eq_false (by omega)
          have c3 : decide ((-1 : Int) ≥ 0) = false := rfl
          have g3 : (0 : Int) ≤ p ∧ (p : Int) < l.length := by omega
          have g4 : p + 1 ≤ l.length := by omega
          simp (maxSteps := 10000000) only [En.E, En.evsC, List.map_cons, List.map_nil, Nat.reduceBEq, Nat.reduceAdd, Nat.reduceMul, Nat.reduceEqDiff, Nat.reduceLeDiff, Nat.reduceLT, ne_eq, reduceCtorEq, Int.reduceBEq, Int.reduceBNe, Int.reduceAdd, Int.reduceSub, Int.reduceMul, Int.reduceTDiv, Int.reduceTMod, Int.reduceNeg, En.bitN, Nat.testBit, Nat.reduceShiftRight, Nat.reduceShiftLeft, Nat.reduceAnd, Nat.reduceOr, Nat.reduceBNe, Int.reduceToNat, Nat.reduceSub, Int.reduceLE, Int.reduceLT, En.vV, hs, hv, hT, hG, hF, trJ, trSl, trH, odHp, gHu, gHp, d2, i0, g1, g2, hgv, c1, c2, c3, g3, g4, hpn, hput, Int.toNat_natCast, tab_put hpl, tab_nth hpl, tab_lenS, Nat.mul_one, Bool.false_eq_true]
          exact ⟨⟨i + 1, by omega⟩, (sle_all [1513, 1001, 1000, 4, 5, 0, 1, 2, 3] (by decide) (by simp only [En.E, En.evsC, List.map_cons, List.map_nil, Nat.reduceBEq, Nat.reduceAdd, Nat.reduceMul, Nat.reduceEqDiff, Nat.reduceLeDiff, Nat.reduceLT, ne_eq, reduceCtorEq, Int.reduceBEq, Int.reduceBNe, Int.reduceAdd, Int.reduceSub, Int.reduceMul, Int.reduceTDiv, Int.reduceTMod, Int.reduceNeg, En.bitN, Nat.testBit, Nat.reduceShiftRight, Nat.reduceShiftLeft, Nat.reduceAnd, Nat.reduceOr, Nat.reduceBNe, Int.reduceToNat, Nat.reduceSub, Int.reduceLE, Int.reduceLT, En.slLe, En.hpLe, En.chE, En.allLt, trJ, trSl, trH, odHp, gHu, gHp, Int.natCast_add, Int.cast_ofNat_Int])), by show (oN l).length - (i + 1) < (oN l).length - i; omega⟩
        · have d2 : decide ((i : Int) < ((ordI l 0).length : Int)) = false := decide_eq_false (by rw [oN_len]; omega)
          obtain rfl : i = (oN l).length := by omega
          simp (maxSteps := 10000000) only [En.E, En.evsC, List.map_cons, List.map_nil, Nat.reduceBEq, Nat.reduceAdd, Nat.reduceMul, Nat.reduceEqDiff, Nat.reduceLeDiff, Nat.reduceLT, ne_eq, reduceCtorEq, Int.reduceBEq, Int.reduceBNe, Int.reduceAdd, Int.reduceSub, Int.reduceMul, Int.reduceTDiv, Int.reduceTMod, Int.reduceNeg, En.bitN, Nat.testBit, Nat.reduceShiftRight, Nat.reduceShiftLeft, Nat.reduceAnd, Nat.reduceOr, Nat.reduceBNe, Int.reduceToNat, Nat.reduceSub, Int.reduceLE, Int.reduceLT, En.vV, hs, hv, hT, hG, hF, trJ, trSl, trH, odHp, gHu, gHp, d2]
          refine hI {i : Nat // i ≤ l.length} (fun x => trK l A c bn on cn ba oa ca B d bp x.1) (fun x => l.length - x.1) _ _ _ ⟨0, Nat.zero_le _⟩ (sle_all [1513, 1001, 1000, 4, 5, 0, 1, 2, 3] (by decide) (by simp only [En.E, En.evsC, List.map_cons, List.map_nil, Nat.reduceBEq, Nat.reduceAdd, Nat.reduceMul, Nat.reduceEqDiff, Nat.reduceLeDiff, Nat.reduceLT, ne_eq, reduceCtorEq, Int.reduceBEq, Int.reduceBNe, Int.reduceAdd, Int.reduceSub, Int.reduceMul, Int.reduceTDiv, Int.reduceTMod, Int.reduceNeg, En.bitN, Nat.testBit, Nat.reduceShiftRight, Nat.reduceShiftLeft, Nat.reduceAnd, Nat.reduceOr, Nat.reduceBNe, Int.reduceToNat, Nat.reduceSub, Int.reduceLE, Int.reduceLT, En.slLe, En.hpLe, En.chE, En.allLt, trK, trSl, trH, odHp, gHu, gHp, plE, Int.cast_ofNat_Int])) ?_
          rintro ⟨i, hi⟩
          refine hR 1000 _ _ ?_
          have b00 : ((0 : Int) == 0) = true := rfl
          have b70 : ((7 : Int) == 0) = false := rfl
          have b71 : ((7 : Int) != 0) = true := rfl
          have b07 : ((0 : Int) != 0) = false := rfl
          have fin : ∀ j, j = i + 1 → i < l.length → l.length - j < l.length - i := fun j h1 h2 => by omega
          by_cases hlt : i < l.length
          · have d2 : decide ((i : Int) < (l.length : Int)) = true := decide_eq_true (by omega)
            have i0 : inr .i64 ((i : Int) + 1) := by simp only [En.inr, En.lo, En.hi]; omega
            have g1 : (0 : Int) ≤ i ∧ (i : Int) < l.length := by omega
            have g2 : (0 : Int) ≤ i ∧ i < l.length := by omega
            have g3 : i + 1 ≤ l.length := by omega
            have hA : ¬A = none := slok_some h.1.1.1 (by omega)
            cases hn : nuV l i with
            | true =>
              have ha := ask_num k0 hn
              have hsv : sizV l (i : Int) = 0 := by rw [sizV, if_neg (by rw [ha]; decide)]
              have hp := plE_num k0 hn
              have hk1 := num_kind k0 hlt hn
              have c1 : decide ((-1 : Int) ≥ 0) = false := rfl
              have c2 : ((7 : Int) != 7) = false := rfl
              have c3 : ((ndAt l i).k != 1) = false := by rw [hk1]; rfl
              simp (maxSteps := 10000000) only [En.E, En.evsC, List.map_cons, List.map_nil, Nat.reduceBEq, Nat.reduceAdd, Nat.reduceMul, Nat.reduceEqDiff, Nat.reduceLeDiff, Nat.reduceLT, ne_eq, reduceCtorEq, Int.reduceBEq, Int.reduceBNe, Int.reduceAdd, Int.reduceSub, Int.reduceMul, Int.reduceTDiv, Int.reduceTMod, Int.reduceNeg, En.bitN, Nat.testBit, Nat.reduceShiftRight, Nat.reduceShiftLeft, Nat.reduceAnd, Nat.reduceOr, Nat.reduceBNe, Int.reduceToNat, Nat.reduceSub, Int.reduceLE, Int.reduceLT, En.vV, hs, hv, hT, hG, hF, trK, trSl, trH, odHp, gHu, gHp, d2, i0, g1, g2, spSizeP_q, spDepthP_q, spKidsP_q, lsR, ckR, NdR_q, chL_q, globR_q, globU_q, h4, h3, hz, f3, f4, tab_lenS, Nat.mul_one, Int.toNat_natCast, Bool.false_eq_true, ndC_n, b00, b70, b71, b07, ha, hsv, hp, c1, c2, c3, g3, hA, tab_nth hlt]
              exact ⟨⟨i + 1, by omega⟩, (sle_all [1513, 1001, 1000, 4, 5, 0, 1, 2, 3] (by decide) (by simp only [En.E, En.evsC, List.map_cons, List.map_nil, Nat.reduceBEq, Nat.reduceAdd, Nat.reduceMul, Nat.reduceEqDiff, Nat.reduceLeDiff, Nat.reduceLT, ne_eq, reduceCtorEq, Int.reduceBEq, Int.reduceBNe, Int.reduceAdd, Int.reduceSub, Int.reduceMul, Int.reduceTDiv, Int.reduceTMod, Int.reduceNeg, En.bitN, Nat.testBit, Nat.reduceShiftRight, Nat.reduceShiftLeft, Nat.reduceAnd, Nat.reduceOr, Nat.reduceBNe, Int.reduceToNat, Nat.reduceSub, Int.reduceLE, Int.reduceLT, En.slLe, En.hpLe, En.chE, En.allLt, trK, trSl, trH, odHp, gHu, gHp, Int.natCast_add, Int.cast_ofNat_Int])), fin _ rfl hlt⟩
            | false =>
              have ha := ask_no k0 hlt hn
              have hsv : sizV l (i : Int) = (eR l i : Int) - i := by rw [sizV, if_pos ha, Int.toNat_natCast]
              have hdv : depV l (i : Int) = (dpV l i : Int) := by rw [depV, if_pos ha, Int.toNat_natCast]
              obtain ⟨qi, hp, hqi⟩ := plE_at k0 hlt hn
              have c1 : decide ((qi : Int) ≥ 0) = true := decide_eq_true (by omega)
              have hwi := ask_whole ha
              rw [Int.toNat_natCast] at hwi
              have hEl : eR l i ≤ l.length := (whole_iff hg.fine hlt).1 hwi
              have hsi : (i : Int) + ((eR l i : Int) - (i : Int)) = (eR l i : Int) := by omega
              have r1 : inr .i64 (eR l i : Int) := by simp only [En.inr, En.lo, En.hi]; omega
              have e1 : (i : Int) + 1 = ((i + 1 : Nat) : Int) := by omega
              have j0 : inr .i64 ((i + 1 : Nat) : Int) := by simp only [En.inr, En.lo, En.hi]; omega
              have nn : ((eR l i : Int) != (eR l i : Int)) = false := by simp
              rcases node_cases k0 hlt hn with ⟨hk, hE, hD⟩ | ⟨p, hk, hpi, hK, hpl, hpn, hE, hD⟩ | ⟨p, q, hk, hpi, hqe, hK, hpl, hql, hpq, hpn, hqn, hE, hD⟩
              · have hd1 : ((dpV l i : Int) != 1) = false := by rw [hD]; rfl
                by_cases hk3 : (ndAt l i).k = 3
                · have c3 : ((ndAt l i).k == 3) = true := by rw [hk3]; rfl
                  obtain ⟨k3a, k3b⟩ := hg.ls i hlt hk3
                  have hKc : (ndAt l i).c = (Ks l i : Int) := by simp only [Ks, Kn, if_pos hk3]; omega
                  have e2 : ((i + 1 : Nat) : Int) + (Ks l i : Int) = (eR l i : Int) := by omega
                  simp (maxSteps := 10000000) only [En.E, En.evsC, List.map_cons, List.map_nil, Nat.reduceBEq, Nat.reduceAdd, Nat.reduceMul, Nat.reduceEqDiff, Nat.reduceLeDiff, Nat.reduceLT, ne_eq, reduceCtorEq, Int.reduceBEq, Int.reduceBNe, Int.reduceAdd, Int.reduceSub, Int.reduceMul, Int.reduceTDiv, Int.reduceTMod, Int.reduceNeg, En.bitN, Nat.testBit, Nat.reduceShiftRight, Nat.reduceShiftLeft, Nat.reduceAnd, Nat.reduceOr, Nat.reduceBNe, Int.reduceToNat, Nat.reduceSub, Int.reduceLE, Int.reduceLT, En.vV, hs, hv, hT, hG, hF, trK, trSl, trH, odHp, gHu, gHp, d2, i0, g1, g2, spSizeP_q, spDepthP_q, spKidsP_q, lsR, ckR, NdR_q, chL_q, globR_q, globU_q, h4, h3, hz, f3, f4, tab_lenS, Nat.mul_one, Int.toNat_natCast, Bool.false_eq_true, ndC_n, b00, b70, b71, b07, ha, hsv, hdv, hp, c1, c3, hKc, e1, e2, hsi, r1, j0, nn, hk, hD, g3, hA, tab_nth hlt]
                  exact fun A1 c1 => ⟨by simp only [En.inr, En.lo, En.hi]; omega, ⟨i + 1, by omega⟩, (sle_all [1513, 1001, 1000, 4, 5, 0, 1, 2, 3] (by decide) (by simp only [En.E, En.evsC, List.map_cons, List.map_nil, Nat.reduceBEq, Nat.reduceAdd, Nat.reduceMul, Nat.reduceEqDiff, Nat.reduceLeDiff, Nat.reduceLT, ne_eq, reduceCtorEq, Int.reduceBEq, Int.reduceBNe, Int.reduceAdd, Int.reduceSub, Int.reduceMul, Int.reduceTDiv, Int.reduceTMod, Int.reduceNeg, En.bitN, Nat.testBit, Nat.reduceShiftRight, Nat.reduceShiftLeft, Nat.reduceAnd, Nat.reduceOr, Nat.reduceBNe, Int.reduceToNat, Nat.reduceSub, Int.reduceLE, Int.reduceLT, En.slLe, En.hpLe, En.chE, En.allLt, trK, trSl, trH, odHp, gHu, gHp, Int.natCast_add, Int.cast_ofNat_Int])), fin _ rfl hlt⟩
                · have c3 : ((ndAt l i).k == 3) = false := by simpa using hk3
                  have hK0 : Ks l i = 0 := if_neg hk3
                  have hE1 : eR l i = i + 1 := by omega
                  rw [hE1] at hsv hsi r1 nn
                  simp (maxSteps := 10000000) only [En.E, En.evsC, List.map_cons, List.map_nil, Nat.reduceBEq, Nat.reduceAdd, Nat.reduceMul, Nat.reduceEqDiff, Nat.reduceLeDiff, Nat.reduceLT, ne_eq, reduceCtorEq, Int.reduceBEq, Int.reduceBNe, Int.reduceAdd, Int.reduceSub, Int.reduceMul, Int.reduceTDiv, Int.reduceTMod, Int.reduceNeg, En.bitN, Nat.testBit, Nat.reduceShiftRight, Nat.reduceShiftLeft, Nat.reduceAnd, Nat.reduceOr, Nat.reduceBNe, Int.reduceToNat, Nat.reduceSub, Int.reduceLE, Int.reduceLT, En.vV, hs, hv, hT, hG, hF, trK, trSl, trH, odHp, gHu, gHp, d2, i0, g1, g2, spSizeP_q, spDepthP_q, spKidsP_q, lsR, ckR, NdR_q, chL_q, globR_q, globU_q, h4, h3, hz, f3, f4, tab_lenS, Nat.mul_one, Int.toNat_natCast, Bool.false_eq_true, ndC_n, b00, b70, b71, b07, ha, hsv, hdv, hp, c1, c3, e1, hsi, r1, j0, nn, hk, hD, g3, hA, tab_nth hlt]
                  exact fun A1 c1 => ⟨by simp only [En.inr, En.lo, En.hi]; omega, ⟨i + 1, by omega⟩, (sle_all [1513, 1001, 1000, 4, 5, 0, 1, 2, 3] (by decide) (by simp only [En.E, En.evsC, List.map_cons, List.map_nil, Nat.reduceBEq, Nat.reduceAdd, Nat.reduceMul, Nat.reduceEqDiff, Nat.reduceLeDiff, Nat.reduceLT, ne_eq, reduceCtorEq, Int.reduceBEq, Int.reduceBNe, Int.reduceAdd, Int.reduceSub, Int.reduceMul, Int.reduceTDiv, Int.reduceTMod, Int.reduceNeg, En.bitN, Nat.testBit, Nat.reduceShiftRight, Nat.reduceShiftLeft, Nat.reduceAnd, Nat.reduceOr, Nat.reduceBNe, Int.reduceToNat, Nat.reduceSub, Int.reduceLE, Int.reduceLT, En.slLe, En.hpLe, En.chE, En.allLt, trK, trSl, trH, odHp, gHu, gHp, Int.natCast_add, Int.cast_ofNat_Int])), fin _ rfl hlt⟩
              · subst hpi
                have c3 : ((ndAt l i).k == 3) = false := by simpa using hK
                have ha1 := ask_no k0 hpl hpn
                have hs1 : sizV l ((i + 1 : Nat) : Int) = (eR l (i + 1) : Int) - ((i + 1 : Nat) : Int) := by rw [sizV, if_pos ha1, Int.toNat_natCast]
                have hd1 : depV l ((i + 1 : Nat) : Int) = (dpV l (i + 1) : Int) := by rw [depV, if_pos ha1, Int.toNat_natCast]
                obtain ⟨q1, hp1, hq1⟩ := plE_at k0 hpl hpn
                have hlt1 := plE_lt k0 hlt hpl hn hpn (Nat.lt_succ_self i)
                rw [hp, hp1] at hlt1
                have c4 : decide ((q1 : Int) > (qi : Int)) = false := decide_eq_false (by omega)
                have c5 : decide (((i + 1 : Nat) : Int) < 0) = false := decide_eq_false (by omega)
                have c6 : decide (((i + 1 : Nat) : Int) ≥ (l.length : Int)) = false := decide_eq_false (by omega)
                have c7 : (((i + 1 : Nat) : Int) != ((i + 1 : Nat) : Int)) = false := by simp
                have c8 : decide ((0 : Int) > 0) = false := rfl
                have c9 : ((i + 1 : Nat) : Int) + ((eR l (i + 1) : Int) - ((i + 1 : Nat) : Int)) = (eR l i : Int) := by omega
                have hdp1 := (Dep_le (M := Ms l) hg.fine _ (i + 1) (Nat.le_refl _) hpl)
                have c10 : decide ((dpV l (i + 1) : Int) > 0) = true := decide_eq_true (by have : 1 ≤ dpV l (i + 1) := hdp1.1; omega)
                have c11 : ((dpV l i : Int) != (dpV l (i + 1) : Int) + 1) = false := by rw [hD]; simp
                have r2 : inr .i64 ((dpV l (i + 1) : Int) + 1) := by have : dpV l (i + 1) ≤ l.length - (i + 1) := hdp1.2; simp only [En.inr, En.lo, En.hi]; omega
                have g5 : (0 : Int) ≤ ((i + 1 : Nat) : Int) ∧ ((i + 1 : Nat) : Int) < l.length := by omega
                have g6 : i + 1 + 1 ≤ l.length := by omega
                have v0 : [((i + 1 : Nat) : Int)].getD 0 0 = ((i + 1 : Nat) : Int) := rfl
                have lk : [((i + 1 : Nat) : Int)].length = 1 := rfl
                simp (maxSteps := 10000000) only [En.E, En.evsC, List.map_cons, List.map_nil, Nat.reduceBEq, Nat.reduceAdd, Nat.reduceMul, Nat.reduceEqDiff, Nat.reduceLeDiff, Nat.reduceLT, ne_eq, reduceCtorEq, Int.reduceBEq, Int.reduceBNe, Int.reduceAdd, Int.reduceSub, Int.reduceMul, Int.reduceTDiv, Int.reduceTMod, Int.reduceNeg, En.bitN, Nat.testBit, Nat.reduceShiftRight, Nat.reduceShiftLeft, Nat.reduceAnd, Nat.reduceOr, Nat.reduceBNe, Int.reduceToNat, Nat.reduceSub, Int.reduceLE, Int.reduceLT, En.vV, hs, hv, hT, hG, hF, trK, trSl, trH, odHp, gHu, gHp, d2, i0, g1, g2, spSizeP_q, spDepthP_q, spKidsP_q, lsR, ckR, NdR_q, chL_q, globR_q, globU_q, h4, h3, hz, f3, f4, tab_lenS, Nat.mul_one, Int.toNat_natCast, Bool.false_eq_true, ndC_n, b00, b70, b71, b07, ha, hsv, hdv, hp, c1, c3, e1, hsi, r1, j0, nn, hk, g3, hA, tab_nth hlt, ha1, hs1, hd1, hp1, tab_nth hpl, c4, c5, c6, c7, c8, c9, c10, c11, r2, g5, g6, v0, lk]
                exact fun A1 c1 => ⟨by simp only [En.inr, En.lo, En.hi]; omega, ⟨i + 1, by omega⟩, (sle_all [1513, 1001, 1000, 4, 5, 0, 1, 2, 3] (by decide) (by simp only [En.E, En.evsC, List.map_cons, List.map_nil, Nat.reduceBEq, Nat.reduceAdd, Nat.reduceMul, Nat.reduceEqDiff, Nat.reduceLeDiff, Nat.reduceLT, ne_eq, reduceCtorEq, Int.reduceBEq, Int.reduceBNe, Int.reduceAdd, Int.reduceSub, Int.reduceMul, Int.reduceTDiv, Int.reduceTMod, Int.reduceNeg, En.bitN, Nat.testBit, Nat.reduceShiftRight, Nat.reduceShiftLeft, Nat.reduceAnd, Nat.reduceOr, Nat.reduceBNe, Int.reduceToNat, Nat.reduceSub, Int.reduceLE, Int.reduceLT, En.slLe, En.hpLe, En.chE, En.allLt, trK, trSl, trH, odHp, gHu, gHp, Int.natCast_add, Int.cast_ofNat_Int])), fin _ rfl hlt⟩
              · subst hpi
                have c3 : ((ndAt l i).k == 3) = false := by simpa using hK
                have ha1 := ask_no k0 hpl hpn
                have hs1 : sizV l ((i + 1 : Nat) : Int) = (eR l (i + 1) : Int) - ((i + 1 : Nat) : Int) := by rw [sizV, if_pos ha1, Int.toNat_natCast]
                have hd1 : depV l ((i + 1 : Nat) : Int) = (dpV l (i + 1) : Int) := by rw [depV, if_pos ha1, Int.toNat_natCast]
                obtain ⟨q1, hp1, hq1⟩ := plE_at k0 hpl hpn
                have hlt1 := plE_lt k0 hlt hpl hn hpn (Nat.lt_succ_self i)
                rw [hp, hp1] at hlt1
                have ha2 := ask_no k0 hql hqn
                have hs2 : sizV l (q : Int) = (eR l q : Int) - (q : Int) := by rw [sizV, if_pos ha2, Int.toNat_natCast]
                have hd2 : depV l (q : Int) = (dpV l q : Int) := by rw [depV, if_pos ha2, Int.toNat_natCast]
                obtain ⟨q2, hp2, hq2⟩ := plE_at k0 hql hqn
                have hlt2 := plE_lt k0 hlt hql hn hqn (by omega)
                have hlt3 := plE_lt k0 hpl hql hpn hqn hpq
                rw [hp, hp2] at hlt2
                rw [hp1, hp2] at hlt3
                have c4 : decide ((q1 : Int) > (qi : Int)) = false := decide_eq_false (by omega)
                have x4 : decide ((q2 : Int) > (qi : Int)) = false := decide_eq_false (by omega)
                have y4 : decide ((q2 : Int) > (q1 : Int)) = false := decide_eq_false (by omega)
                have c5 : decide (((i + 1 : Nat) : Int) < 0) = false := decide_eq_false (by omega)
                have x5 : decide ((q : Int) < 0) = false := decide_eq_false (by omega)
                have c6 : decide (((i + 1 : Nat) : Int) ≥ (l.length : Int)) = false := decide_eq_false (by omega)
                have x6 : decide ((q : Int) ≥ (l.length : Int)) = false := decide_eq_false (by omega)
                have c7 : (((i + 1 : Nat) : Int) != ((i + 1 : Nat) : Int)) = false := by simp
                have x7 : ((q : Int) != (q : Int)) = false := by simp
                have c8 : decide ((0 : Int) > 0) = false := rfl
                have x8 : decide ((1 : Int) > 0) = true := rfl
                have c9 : ((i + 1 : Nat) : Int) + ((eR l (i + 1) : Int) - ((i + 1 : Nat) : Int)) = (q : Int) := by omega
                have x9 : (q : Int) + ((eR l q : Int) - (q : Int)) = (eR l i : Int) := by omega
                have hdp1 := (Dep_le (M := Ms l) hg.fine _ (i + 1) (Nat.le_refl _) hpl)
                have hdp2 := (Dep_le (M := Ms l) hg.fine _ q (Nat.le_refl _) hql)
                have hdp3 : dpV l (i + 1) ≤ l.length - (i + 1) := hdp1.2
                have hdp4 : dpV l q ≤ l.length - q := hdp2.2
                have c10 : decide ((dpV l (i + 1) : Int) > 0) = true := decide_eq_true (by have : 1 ≤ dpV l (i + 1) := hdp1.1; omega)
                have r2 : inr .i64 ((dpV l (i + 1) : Int) + 1) := by simp only [En.inr, En.lo, En.hi]; omega
                have r3 : inr .i64 ((dpV l q : Int) + 1) := by simp only [En.inr, En.lo, En.hi]; omega
                have r4 : inr .i64 (q : Int) := by simp only [En.inr, En.lo, En.hi]; omega
                have g5 : (0 : Int) ≤ ((i + 1 : Nat) : Int) ∧ ((i + 1 : Nat) : Int) < l.length := by omega
                have g6 : i + 1 + 1 ≤ l.length := by omega
                have g7 : (0 : Int) ≤ (q : Int) ∧ (q : Int) < l.length := by omega
                have g8 : q + 1 ≤ l.length := by omega
                have v0 : [((i + 1 : Nat) : Int), (q : Int)].getD 0 0 = ((i + 1 : Nat) : Int) := rfl
                have v1 : [((i + 1 : Nat) : Int), (q : Int)].getD 1 0 = (q : Int) := rfl
                have lk : [((i + 1 : Nat) : Int), (q : Int)].length = 2 := rfl
                have t1 : (1 : Int).toNat = 1 := rfl
                by_cases hmx : dpV l (i + 1) < dpV l q
                · have c11 : decide ((dpV l q : Int) > (dpV l (i + 1) : Int)) = true := decide_eq_true (by omega)
                  have c12 : ((dpV l i : Int) != (dpV l q : Int) + 1) = false := by rw [hD, Nat.max_eq_right (by omega)]; simp
                  simp (maxSteps := 10000000) only [En.E, En.evsC, List.map_cons, List.map_nil, Nat.reduceBEq, Nat.reduceAdd, Nat.reduceMul, Nat.reduceEqDiff, Nat.reduceLeDiff, Nat.reduceLT, ne_eq, reduceCtorEq, Int.reduceBEq, Int.reduceBNe, Int.reduceAdd, Int.reduceSub, Int.reduceMul, Int.reduceTDiv, Int.reduceTMod, Int.reduceNeg, En.bitN, Nat.testBit, Nat.reduceShiftRight, Nat.reduceShiftLeft, Nat.reduceAnd, Nat.reduceOr, Nat.reduceBNe, Int.reduceToNat, Nat.reduceSub, Int.reduceLE, Int.reduceLT, En.vV, hs, hv, hT, hG, hF, trK, trSl, trH, odHp, gHu, gHp, d2, i0, g1, g2, spSizeP_q, spDepthP_q, spKidsP_q, lsR, ckR, NdR_q, chL_q, globR_q, globU_q, h4, h3, hz, f3, f4, tab_lenS, Nat.mul_one, Int.toNat_natCast, Bool.false_eq_true, ndC_n, b00, b70, b71, b07, ha, hsv, hdv, hp, c1, c3, e1, hsi, r1, j0, nn, hk, g3, hA, tab_nth hlt, ha1, hs1, hd1, hp1, tab_nth hpl, ha2, hs2, hd2, hp2, tab_nth hql, c4, x4, y4, c5, x5, c6, x6, c7, x7, c8, x8, c9, x9, c10, c11, c12, r2, r3, r4, g5, g6, g7, g8, v0, v1, lk, t1]
                  exact fun A1 c1 => ⟨by simp only [En.inr, En.lo, En.hi]; omega, by simp only [En.inr, En.lo, En.hi]; omega, by simp only [En.inr, En.lo, En.hi]; omega, ⟨i + 1, by omega⟩, (sle_all [1513, 1001, 1000, 4, 5, 0, 1, 2, 3] (by decide) (by simp only [En.E, En.evsC, List.map_cons, List.map_nil, Nat.reduceBEq, Nat.reduceAdd, Nat.reduceMul, Nat.reduceEqDiff, Nat.reduceLeDiff, Nat.reduceLT, ne_eq, reduceCtorEq, Int.reduceBEq, Int.reduceBNe, Int.reduceAdd, Int.reduceSub, Int.reduceMul, Int.reduceTDiv, Int.reduceTMod, Int.reduceNeg, En.bitN, Nat.testBit, Nat.reduceShiftRight, Nat.reduceShiftLeft, Nat.reduceAnd, Nat.reduceOr, Nat.reduceBNe, Int.reduceToNat, Nat.reduceSub, Int.reduceLE, Int.reduceLT, En.slLe, En.hpLe, En.chE, En.allLt, trK, trSl, trH, odHp, gHu, gHp, Int.natCast_add, Int.cast_ofNat_Int])), fin _ rfl hlt⟩
                · have c11 : decide ((dpV l q : Int) > (dpV l (i + 1) : Int)) = false := decide_eq_false (by omega)
                  have c12 : ((dpV l i : Int) != (dpV l (i + 1) : Int) + 1) = false := by rw [hD, Nat.max_eq_left (by omega)]; simp
                  simp (maxSteps := 10000000) only [En.E, En.evsC, List.map_cons, List.map_nil, Nat.reduceBEq, Nat.reduceAdd, Nat.reduceMul, Nat.reduceEqDiff, Nat.reduceLeDiff, Nat.reduceLT, ne_eq, reduceCtorEq, Int.reduceBEq, Int.reduceBNe, Int.reduceAdd, Int.reduceSub, Int.reduceMul, Int.reduceTDiv, Int.reduceTMod, Int.reduceNeg, En.bitN, Nat.testBit, Nat.reduceShiftRight, Nat.reduceShiftLeft, Nat.reduceAnd, Nat.reduceOr, Nat.reduceBNe, Int.reduceToNat, Nat.reduceSub, Int.reduceLE, Int.reduceLT, En.vV, hs, hv, hT, hG, hF, trK, trSl, trH, odHp, gHu, gHp, d2, i0, g1, g2, spSizeP_q, spDepthP_q, spKidsP_q, lsR, ckR, NdR_q, chL_q, globR_q, globU_q, h4, h3, hz, f3, f4, tab_lenS, Nat.mul_one, Int.toNat_natCast, Bool.false_eq_true, ndC_n, b00, b70, b71, b07, ha, hsv, hdv, hp, c1, c3, e1, hsi, r1, j0, nn, hk, g3, hA, tab_nth hlt, ha1, hs1, hd1, hp1, tab_nth hpl, ha2, hs2, hd2, hp2, tab_nth hql, c4, x4, y4, c5, x5, c6, x6, c7, x7, c8, x8, c9, x9, c10, c11, c12, r2, r3, r4, g5, g6, g7, g8, v0, v1, lk, t1]
                  exact fun A1 c1 => ⟨by simp only [En.inr, En.lo, En.hi]; omega, by simp only [En.inr, En.lo, En.hi]; omega, by simp only [En.inr, En.lo, En.hi]; omega, ⟨i + 1, by omega⟩, (sle_all [1513, 1001, 1000, 4, 5, 0, 1, 2, 3] (by decide) (by simp only [En.E, En.evsC, List.map_cons, List.map_nil, Nat.reduceBEq, Nat.reduceAdd, Nat.reduceMul, Nat.reduceEqDiff, Nat.reduceLeDiff, Nat.reduceLT, ne_eq, reduceCtorEq, Int.reduceBEq, Int.reduceBNe, Int.reduceAdd, Int.reduceSub, Int.reduceMul, Int.reduceTDiv, Int.reduceTMod, Int.reduceNeg, En.bitN, Nat.testBit, Nat.reduceShiftRight, Nat.reduceShiftLeft, Nat.reduceAnd, Nat.reduceOr, Nat.reduceBNe, Int.reduceToNat, Nat.reduceSub, Int.reduceLE, Int.reduceLT, En.slLe, En.hpLe, En.chE, En.allLt, trK, trSl, trH, odHp, gHu, gHp, Int.natCast_add, Int.cast_ofNat_Int])), fin _ rfl hlt⟩
          · have d2 : decide ((i : Int) < (l.length : Int)) = false := decide_eq_false (by omega)
            have hol0 : (oN l).length = (oN l).length - 1 + 1 := by
              have hm : 0 ∈ oN l := by
                rw [oN, Ord_rec (M := Ms l) hg.fine (by have := (chk_ok k0).1; omega)]
                exact List.mem_append_right _ (List.mem_singleton.2 rfl)
              have := List.length_pos_of_mem hm
              omega
            have hlast : (oN l)[(oN l).length - 1]? = some 0 := by
              have e := Ord_rec (M := Ms l) hg.fine (i := 0) (by have := (chk_ok k0).1; omega)
              rw [oN, e, List.length_append, List.length_singleton, Nat.add_sub_cancel, List.getElem?_append_right (Nat.le_refl _), Nat.sub_self]
              rfl
            have hgv := ordI_at hlast
            have c1 : decide (((ordI l 0).length : Int) > 0) = true := decide_eq_true (by rw [oN_len]; omega)
            have e1 : ((ordI l 0).length : Int) - 1 = (((oN l).length - 1 : Nat) : Int) := by rw [oN_len]; omega
            have r1 : inr .i64 (((oN l).length - 1 : Nat) : Int) := by simp only [En.inr, En.lo, En.hi]; omega
            have g1 : (0 : Int) ≤ (((oN l).length - 1 : Nat) : Int) ∧ (((oN l).length - 1 : Nat) : Int) < (ordI l 0).length := by rw [oN_len]; omega
            have g2 : (0 : Int) ≤ (((oN l).length - 1 : Nat) : Int) ∧ (oN l).length - 1 < (ordI l 0).length := by rw [oN_len]; omega
            have z0 : (((0 : Nat) : Int) == 0) = true := rfl
            simp (maxSteps := 10000000) only [En.E, En.evsC, List.map_cons, List.map_nil, Nat.reduceBEq, Nat.reduceAdd, Nat.reduceMul, Nat.reduceEqDiff, Nat.reduceLeDiff, Nat.reduceLT, ne_eq, reduceCtorEq, Int.reduceBEq, Int.reduceBNe, Int.reduceAdd, Int.reduceSub, Int.reduceMul, Int.reduceTDiv, Int.reduceTMod, Int.reduceNeg, En.bitN, Nat.testBit, Nat.reduceShiftRight, Nat.reduceShiftLeft, Nat.reduceAnd, Nat.reduceOr, Nat.reduceBNe, Int.reduceToNat, Nat.reduceSub, Int.reduceLE, Int.reduceLT, En.vV, hs, hv, hT, hG, hF, trK, trSl, trH, odHp, gHu, gHp, d2, c1, e1, r1, g1, g2, hgv, z0, spShown15_q, globR_q, globU_q, h4, h3, Int.toNat_natCast]
    · have d0 : ((chkV l).2 != 0) = true := by simpa using k0
      have e0 : ((chkV l).2 == 0) = false := by simpa using k0
      simp (maxSteps := 10000000) only [En.E, En.evsC, List.map_cons, List.map_nil, Nat.reduceBEq, Nat.reduceAdd, Nat.reduceMul, Nat.reduceEqDiff, Nat.reduceLeDiff, Nat.reduceLT, ne_eq, reduceCtorEq, Int.reduceBEq, Int.reduceBNe, Int.reduceAdd, Int.reduceSub, Int.reduceMul, Int.reduceTDiv, Int.reduceTMod, Int.reduceNeg, En.bitN, Nat.testBit, Nat.reduceShiftRight, Nat.reduceShiftLeft, Nat.reduceAnd, Nat.reduceOr, Nat.reduceBNe, Int.reduceToNat, Nat.reduceSub, Int.reduceLE, Int.reduceLT, En.vV, hs, hv, hT, hG, hF, odHp, gHu, gHp, spFar15_q, NdR_q, chL_q, hlen, hz, hf, spShown15_q, globR_q, globU_q, h4, h3, ckR, f3, f4, spOrder_q, lsR, d0, e0]
end Pr
end Go.Proofs.YtpkldfkmokeamaaGreatDoor
