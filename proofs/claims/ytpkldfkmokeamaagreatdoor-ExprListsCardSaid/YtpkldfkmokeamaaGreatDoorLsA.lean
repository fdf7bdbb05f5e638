/-
Chapter 15: the walk of ExprLists.
-/
import Derived.Test.YtpkldfkmokeamaaGreatDoorSo1
import Derived.Test.YtpkldfkmokeamaaGreatDoorAx1
set_option linter.unusedSimpArgs false
set_option linter.unusedVariables false
namespace Go.Proofs.YtpkldfkmokeamaaGreatDoor
namespace Pr
open Go Go.RowKit En
open Ex Rf Go.Sort
def chX (n : Nat) : Ch → List Nd
  | .rowV _ _ _ _ _ cs => nodesL n fun i => cut cs (i * 7) 7
  | x => chL n x
def NdX (A : Option Addr) (n c : Nat) : Ch → Prop
  | .rowV A' c' _ z n' cs => A' = A ∧ c' = c ∧ n' = n ∧ z = 7 ∧ cs = (nodesL n fun i => cut cs (i * 7) 7).flatMap ndC
  | x => NdR A n c x
theorem chX_r {n z n' c : Nat} {A : Option Addr} {f : Nat → List SV} : chX n (.recs A c z n' f) = chL n (.recs A c z n' f) := rfl
theorem NdX_r {n m z n' c : Nat} {A B : Option Addr} {f : Nat → List SV} : NdX B n m (.recs A c z n' f) = NdR B n m (.recs A c z n' f) := rfl
theorem cut_flat (l : List Nd) : ∀ i, i < l.length → cut (l.flatMap ndC) (i * 7) 7 = ndC (ndAt l i) := by
  induction l with
  | nil => exact fun i h => absurd h (Nat.not_lt_zero i)
  | cons x l ih =>
    intro i hi
    cases i with
    | zero => rw [cut_eq, List.flatMap_cons, Nat.zero_mul, List.drop_zero]; exact List.take_left' rfl
    | succ i =>
      rw [cut_eq, show (i + 1) * 7 = i * 7 + 7 by omega, List.flatMap_cons]
      have := ih i (by simpa using hi)
      rw [cut_eq] at this
      exact this
theorem nodes_flat (l : List Nd) : (nodesL l.length fun i => cut (l.flatMap ndC) (i * 7) 7) = l := by
  conv => rhs; rw [← nodesL_q l]
  refine List.map_congr_left fun i hi => ?_
  show unNd (cut (l.flatMap ndC) (i * 7) 7) = unNd (ndC (ndAt l i))
  rw [cut_flat l i (List.mem_range.1 hi)]
theorem chX_q {l : List Nd} {B : Option Addr} {d : Nat} {e : TypeId} : chX l.length (.rowV B d e 7 l.length ((List.range l.length).flatMap fun i => ndC (ndAt l i))) = l := by
  rw [flat_range]; exact nodes_flat l
theorem NdX_q {l : List Nd} {B : Option Addr} {d : Nat} {e : TypeId} : NdX B l.length d (.rowV B d e 7 l.length ((List.range l.length).flatMap fun i => ndC (ndAt l i))) = True := by
  rw [flat_range]
  exact eq_true ⟨rfl, rfl, rfl, rfl, by rw [nodes_flat]⟩
theorem NdX_hold {A : Option Addr} {n c B : Nat} {w : World} {x : Ch} (h : NdX A n c x) (hh : Hold B w x) : (chX n x).length = n ∧ ∀ B', Hold B' w (.recs A c 7 (chX n x).length fun i => ndC (ndAt (chX n x) i)) := by
  unfold NdX at h
  split at h
  · next A' c' e z n' cs =>
    obtain ⟨rfl, rfl, rfl, rfl, he⟩ := h
    have hl : (chX n' (.rowV A' c' e 7 n' cs)).length = n' := nodesL_len _ _
    exact ⟨hl, fun B' => by rw [hl]; exact row_nodes hh he hl.symm⟩
  · next y hy =>
    have : chX n x = chL n x := by
      cases x <;> first | rfl | exact (hy _ _ _ _ _ _ rfl).elim
    rw [this]
    exact NdR_hold h hh
def spSameX : Spc
  | [.g k A n c, .g k2 B m d], H, _ => .is (NdX A n c (H k) ∧ NdX B m d (H k2) ∧ n ≤ 9223372036854775807 ∧ m ≤ 9223372036854775807) (.v (.bool (sameV (chX n (H k)) (chX m (H k2)))))
  | [.v (.slice none 0 0), .v (.slice none 0 0)], _, _ => .is True (.v (.bool true))
  | _, _, _ => .bad
theorem spSameX_q {k k2 n c m d : Nat} {A B : Option Addr} {H : Nat → Ch} {nx : Nat} : spSameX [.g k A n c, .g k2 B m d] H nx = .is (NdX A n c (H k) ∧ NdX B m d (H k2) ∧ n ≤ 9223372036854775807 ∧ m ≤ 9223372036854775807) (.v (.bool (sameV (chX n (H k)) (chX m (H k2))))) := rfl
theorem spSameX_n {H : Nat → Ch} {nx : Nat} : spSameX [.v (.slice none 0 0), .v (.slice none 0 0)] H nx = .is True (.v (.bool true)) := rfl
theorem spSameX_ok : SpecOk Tryz.prog 27 spSameX := by
  intro args hp nx w0 O w H hv
  unfold spSameX at hv ⊢
  split at hv
  · next k A n c k2 B m d =>
    obtain ⟨h1, h2, hn, hm⟩ := hv
    obtain ⟨hl, hh⟩ := NdX_hold h1 (H.hold k)
    obtain ⟨gl, gg⟩ := NdX_hold h2 (H.hold k2)
    generalize chX n (lookH hp k) = l at hl hh ⊢
    generalize chX m (lookH hp k2) = l2 at gl gg ⊢
    subst hl
    subst gl
    refine (same15_any l l2 hn hm A c B d w ⟨⟨hh _, rfl⟩, ⟨gg _, rfl⟩, trivial⟩).mono ?_
    rintro e w' ⟨rfl, hb⟩
    exact ⟨⟨0, none, 0, none, 0, mz⟩, rfl, .still hb⟩
  · refine (same15_any [] [] (by decide) (by decide) none 0 none 0 w ⟨⟨⟨⟨by decide, fun h => absurd h (by decide)⟩, fun i hi => absurd hi (Nat.not_lt_zero i)⟩, rfl⟩, ⟨⟨⟨by decide, fun h => absurd h (by decide)⟩, fun i hi => absurd hi (Nat.not_lt_zero i)⟩, rfl⟩, trivial⟩).mono ?_
    rintro e w' ⟨rfl, hb⟩
    exact ⟨⟨0, none, 0, none, 0, mz⟩, rfl, .still hb⟩
  · exact hv.elim
def glLs : List (FuncId × Spc) := [(11, spFar15), (12, spShown15), (24, spOrder), (28, spROrder), (29, spNames15), (30, spRNames15), (32, spCalls15), (33, spRCalls15), (34, spNum15), (35, spRNum15), (23, spInts15), (31, spStrs15), (27, spSameX)]
theorem glLs_ok : GOk Tryz.prog (lookG glLs) := lG_cons (by kernel_rfl) spFar15_ok <| lG_cons (by kernel_rfl) spShown15_ok <| lG_cons (by kernel_rfl) spOrder_ok <| lG_cons (by kernel_rfl) spROrder_ok <| lG_cons (by kernel_rfl) spNames15_ok <| lG_cons (by kernel_rfl) spRNames15_ok <| lG_cons (by kernel_rfl) spCalls15_ok <| lG_cons (by kernel_rfl) spRCalls15_ok <| lG_cons (by kernel_rfl) spNum15_ok <| lG_cons (by kernel_rfl) spRNum15_ok <| lG_cons (by kernel_rfl) spInts15_ok <| lG_cons (by kernel_rfl) spStrs15_ok <| lG_cons (by kernel_rfl) spSameX_ok lG_nil
theorem namV_len (l : List Nd) (q : Int) : (namV l q).length ≤ l.length := by rw [namV, List.length_map]; exact res_len l q
set_option maxRecDepth 100000 in
set_option maxHeartbeats 4000000 in
theorem exprLists_walk (l : List Nd) (hlen : l.length ≤ 9223372036854775807) (hz : zsR l) (f : Int) (A : Option Addr) (c bn on cn ba oa ca : Nat) (h4 : 4 ≤ cn) (h3 : 3 ≤ ca) (w : World) (h : allRd w.heap.size w (odHp l A c bn on cn ba oa ca)) :
    Calls Tryz.prog 8 #[.slice A l.length c, .int .i64 f] w fun e w' => e = .returned (.bool true) ∧ Below w.heap.size w w' := by
  refine calls_go (args := [.g 1000 A l.length c, .v (.int .i64 f)]) (hp := odHp l A c bn on cn ba oa ca) (nx := 1001) (n := 1000) (U := [(1000000, 18)]) (V := []) (tl := tlSt) (gl := glLs) (post := fun s ys => ys = [.v (.bool true)])
    followP tlSt_ok glLs_ok Tryz.func8 rfl (by kernel_rfl) (Nat.le_of_ble_eq_true (by kernel_rfl)) (by kernel_rfl) (by kernel_rfl) (hh_list h) (free_list (by simp [allLt, odHp, gHu, gHp])) ?_ ?_
  · rintro s ys w' rfl H
    exact ⟨rfl, H.below⟩
  intro L F T G nd va hE
  obtain ⟨hL, hF, hs, hv, hT, hG, hR, hI, hJ, hW⟩ := hE
  rw [Tryz.results8] at hF
  simp (maxSteps := 1000000) only [En.nN, En.E, En.evsC, List.map_cons, List.map_nil, Nat.reduceBEq, Nat.reduceAdd, Nat.reduceMul, Nat.reduceEqDiff, Nat.reduceLeDiff, Nat.reduceLT, ne_eq, reduceCtorEq, Int.reduceBEq, Int.reduceBNe, Int.reduceAdd, Int.reduceSub, Int.reduceMul, Int.reduceNeg, Nat.reduceBNe, Int.reduceToNat, Nat.reduceSub, Int.reduceLE, Int.reduceLT] at hv
  simp only [En.at_nil, En.at_cons, En.ag_nil, En.ag_cons, and_true, tlSt, glLs, tlRe, tyStrs, tyInt, tyI64, tyBool, tyStr, tyErr, tyNode, tyNodes, tyInts] at hT hG
  cases hf : far15V l with
  | true =>
    simp (maxSteps := 10000000) only [En.E, En.evsC, List.map_cons, List.map_nil, Nat.reduceBEq, Nat.reduceAdd, Nat.reduceMul, Nat.reduceEqDiff, Nat.reduceLeDiff, Nat.reduceLT, ne_eq, reduceCtorEq, Int.reduceBEq, Int.reduceBNe, Int.reduceAdd, Int.reduceSub, Int.reduceMul, Int.reduceNeg, Nat.reduceBNe, Int.reduceToNat, Nat.reduceSub, Int.reduceLE, Int.reduceLT, En.vV, hs, hv, hT, hG, hF, odHp, gHu, gHp, spFar15_q, NdR_q, chL_q, hlen, hz, hf, spShown15_q, globR_q, globU_q, h4, h3]
  | false =>
    obtain ⟨f1, f2, f3, f4⟩ := far15_no hf
    have nl4 : (namV l 4).length ≤ 9223372036854775807 := Nat.le_trans (namV_len l 4) hlen
    have nl6 : (namV l 6).length ≤ 9223372036854775807 := Nat.le_trans (namV_len l 6) hlen
    have nxl : (nuX l f).length = l.length := nuL_len l f l.length
    have nx9 : (nuX l f).length ≤ 9223372036854775807 := by omega
    have x1 : decide (ordI l 0 = ordI l 0) = true := decide_eq_true rfl
    have x2 : decide (namV l 4 = namV l 4) = true := decide_eq_true rfl
    have x3 : decide (namV l 6 = namV l 6) = true := decide_eq_true rfl
    have x4 : ((chkV l).2 != (chkV l).2) = false := by simp
    have x5 : ((chkV l).2 == (chkV l).2) = true := by simp
    have x6 := sameV_self l
    have x7 := sameV_self (nuX l f)
    have x8 : (nuF l f == nuF l f) = true := by simp
    have x9 : (nuE l f == nuE l f) = true := by simp
    have y0 : decide (([] : List Int) = []) = true := rfl
    have y1 : decide (([] : List ByteArray) = []) = true := rfl
    have y2 : ([] : List Int).length ≤ 9223372036854775807 := by decide
    have y3 : ([] : List ByteArray).length ≤ 9223372036854775807 := by decide
    have fl : lenS ((List.range l.length).flatMap fun i => ndC (ndAt l i)) = l.length * 7 := by rw [flat_range, flat_lenS]
    have fo : allOne ((List.range l.length).flatMap fun i => ndC (ndAt l i)) = true := by rw [flat_range]; exact flat_one _
    by_cases h1 : (chkV l).2 = 0
    · have e0 : ((chkV l).2 == 0) = true := by rw [h1]; rfl
      obtain ⟨h0, h40, hg, _⟩ := chk_ok h1
      have hol : (ordI l 0).length ≤ 9223372036854775807 := Nat.le_trans (ordI_len hg (chk_tree h1).1) hlen
      by_cases n0 : nuE l f = 0
      · have e1 : (nuE l f == 0) = true := by rw [n0]; rfl
        simp (maxSteps := 10000000) only [En.E, En.evsC, List.map_cons, List.map_nil, Nat.reduceBEq, Nat.reduceAdd, Nat.reduceMul, Nat.reduceEqDiff, Nat.reduceLeDiff, Nat.reduceLT, ne_eq, reduceCtorEq, Int.reduceBEq, Int.reduceBNe, Int.reduceAdd, Int.reduceSub, Int.reduceMul, Int.reduceNeg, Nat.reduceBNe, Int.reduceToNat, Nat.reduceSub, Int.reduceLE, Int.reduceLT, En.vV, hs, hv, hT, hG, hF, odHp, gHu, gHp, spFar15_q, NdR_q, chL_q, hlen, hz, hf, spShown15_q, globR_q, globU_q, h4, h3, ckR, f3, f4, fl, fo, spOrder_q, spROrder_q, lsR, e0, spNames15_q, spRNames15_q, spCalls15_q, spRCalls15_q, stR, spNum15_q, spRNum15_q, nuRs, e1, if_true, spInts15_q, getN_q, getNC_i, intsR_q, hol, x1, spStrs15_q, getS_g, strsR_q, nl4, nl6, x2, x3, x4, x5, x6, x7, x8, x9, spSameX_q, NdX_q, NdX_r, chX_q, chX_r, nx9]
        omega
      · have e1 : (nuE l f == 0) = false := by simpa using n0
        simp (maxSteps := 10000000) only [En.E, En.evsC, List.map_cons, List.map_nil, Nat.reduceBEq, Nat.reduceAdd, Nat.reduceMul, Nat.reduceEqDiff, Nat.reduceLeDiff, Nat.reduceLT, ne_eq, reduceCtorEq, Int.reduceBEq, Int.reduceBNe, Int.reduceAdd, Int.reduceSub, Int.reduceMul, Int.reduceNeg, Nat.reduceBNe, Int.reduceToNat, Nat.reduceSub, Int.reduceLE, Int.reduceLT, En.vV, hs, hv, hT, hG, hF, odHp, gHu, gHp, spFar15_q, NdR_q, chL_q, hlen, hz, hf, spShown15_q, globR_q, globU_q, h4, h3, ckR, f3, f4, fl, fo, spOrder_q, spROrder_q, lsR, e0, spNames15_q, spRNames15_q, spCalls15_q, spRCalls15_q, stR, spNum15_q, spRNum15_q, nuRs, e1, if_true, spInts15_q, getN_q, getNC_i, intsR_q, hol, x1, spStrs15_q, getS_g, strsR_q, nl4, nl6, x2, x3, x4, x5, x6, x7, x8, x9, spSameX_q, spSameX_n, NdX_q, NdX_r, chX_q, chX_r, nx9]
        omega
    · have e0 : ((chkV l).2 == 0) = false := by simpa using h1
      have ne : nuE l f = (chkV l).2 := by rw [nuE, if_pos h1]
      have e1 : (nuE l f == 0) = false := by rw [ne]; exact e0
      simp (maxSteps := 10000000) only [En.E, En.evsC, List.map_cons, List.map_nil, Nat.reduceBEq, Nat.reduceAdd, Nat.reduceMul, Nat.reduceEqDiff, Nat.reduceLeDiff, Nat.reduceLT, ne_eq, reduceCtorEq, Int.reduceBEq, Int.reduceBNe, Int.reduceAdd, Int.reduceSub, Int.reduceMul, Int.reduceNeg, Nat.reduceBNe, Int.reduceToNat, Nat.reduceSub, Int.reduceLE, Int.reduceLT, En.vV, hs, hv, hT, hG, hF, odHp, gHu, gHp, spFar15_q, NdR_q, chL_q, hlen, hz, hf, spShown15_q, globR_q, globU_q, h4, h3, ckR, f3, f4, fl, fo, spOrder_q, spROrder_q, lsR, e0, spNames15_q, spRNames15_q, spCalls15_q, spRCalls15_q, stR, spNum15_q, spRNum15_q, nuRs, e1, if_true, spInts15_q, getN_nil, intsR_q, y0, y1, y2, y3, spStrs15_q, getS_nil, strsR_q, x4, x5, x6, x7, x8, x9, spSameX_q, spSameX_n, NdX_q, NdX_r, chX_q, chX_r, nx9]
      omega
end Pr
end Go.Proofs.YtpkldfkmokeamaaGreatDoor
