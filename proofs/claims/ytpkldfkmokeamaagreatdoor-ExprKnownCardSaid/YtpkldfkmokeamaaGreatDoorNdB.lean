/-
A node's error, the reference's (chapter 15).
-/
import Derived.Test.YtpkldfkmokeamaaGreatDoorNb1
set_option linter.unusedSimpArgs false
set_option linter.unusedVariables false
namespace Go.Proofs.YtpkldfkmokeamaaGreatDoor
namespace Pr
open Go Go.RowKit En
def glSu : List (FuncId × Spc) := [(70, spRAr), (16, spRName), (69, spCount)]
theorem glSu_ok : GOk Tryz.prog (lookG glSu) := lG_cons (by kernel_rfl) spRAr_ok <| lG_cons (by kernel_rfl) spRName_ok <| lG_cons (by kernel_rfl) spCount_ok lG_nil
set_option maxRecDepth 100000 in
set_option maxHeartbeats 4000000 in
theorem surplus_any (d : Nd) (w : World) :
    Calls Tryz.prog 68 #[den (.agg (ndC d))] w fun e w' => e = .returned (.bool (decide (surp d))) ∧ Below w.heap.size w w' := by
  obtain ⟨k, p, c, nm, tx, n, s⟩ := d
  obtain ⟨q, hq⟩ : ∃ q, q = decide (surp ⟨k, p, c, nm, tx, n, s⟩) := ⟨_, rfl⟩
  rw [← hq]
  refine calls_go (args := [.agg (ndC ⟨k, p, c, nm, tx, n, s⟩)]) (hp := []) (nx := 1000) (n := 800) (U := []) (V := []) (tl := tlNd) (gl := glSu) (post := fun s ys => ys = [.v (.bool q)])
    followP tlNd_ok glSu_ok Tryz.func68 rfl (by kernel_rfl) (Nat.le_of_ble_eq_true (by kernel_rfl)) (by kernel_rfl) (by kernel_rfl) (hh_list trivial) (fun _ _ => rfl) ?_ ?_
  · rintro s ys w' rfl H
    exact ⟨rfl, H.below⟩
  intro L F T G nd va hE
  obtain ⟨hL, hF, hs, hv, hT, hG, hR, hI, hJ, hW⟩ := hE
  rw [Tryz.results68] at hF
  simp (maxSteps := 1000000) only [En.nN, En.E, En.evsC, List.map_cons, List.map_nil, Nat.reduceBEq, Nat.reduceAdd, Nat.reduceMul, Nat.reduceEqDiff, Nat.reduceLeDiff, Nat.reduceLT, ne_eq, reduceCtorEq, Int.reduceBEq, Int.reduceBNe, Int.reduceAdd, Int.reduceSub, Int.reduceMul, Int.reduceTDiv, Int.reduceTMod, Int.reduceNeg, En.bitN, Nat.testBit, Nat.reduceShiftRight, Nat.reduceShiftLeft, Nat.reduceAnd, Nat.reduceOr, Nat.reduceBNe, Int.reduceToNat, Nat.reduceSub, Int.reduceLE, Int.reduceLT] at hv
  simp only [En.at_nil, En.at_cons, En.ag_nil, En.ag_cons, and_true, tlNd, glSu, tyInt, tyI64, tyBool, tyStr, tyErr, tyNode] at hT hG
  have key : k = 1 ∨ k = 2 ∨ k = 4 ∨ k = 5 ∨ k = 6 ∨ (k ≠ 1 ∧ k ≠ 2 ∧ k ≠ 4 ∧ k ≠ 5 ∧ k ≠ 6) := by omega
  simp (maxSteps := 10000000) only [En.E, En.evsC, List.map_cons, List.map_nil, Nat.reduceBEq, Nat.reduceAdd, Nat.reduceMul, Nat.reduceEqDiff, Nat.reduceLeDiff, Nat.reduceLT, ne_eq, reduceCtorEq, Int.reduceBEq, Int.reduceBNe, Int.reduceAdd, Int.reduceSub, Int.reduceMul, Int.reduceTDiv, Int.reduceTMod, Int.reduceNeg, En.bitN, Nat.testBit, Nat.reduceShiftRight, Nat.reduceShiftLeft, Nat.reduceAnd, Nat.reduceOr, Nat.reduceBNe, Int.reduceToNat, Nat.reduceSub, Int.reduceLE, Int.reduceLT, En.vV, hs, hv, hT, hG, hF, ndC, spRAr_q, emp_iff]
  clear hL hF hs hR hI hJ hW hv hT hG
  simp only [hq, surp]
  rcases key with rfl | rfl | rfl | rfl | rfl | ⟨k1, k2, k4, k5, k6⟩
  · simp <;> grind
  · simp <;> grind
  · simp <;> grind
  · simp <;> grind
  · simp <;> grind
  · simp [k1, k2, k4, k5, k6] <;> grind
def spSurplus : Spc
  | [.agg [.v (.int .i64 k), .v (.int .i64 p), .v (.int .i64 c), .v (.string nm), .v (.string tx), .v (.int .i64 n), .v (.int .i64 s)]], _, _ => .is True (.v (.bool (decide (surp ⟨k, p, c, nm, tx, n, s⟩))))
  | _, _, _ => .bad
theorem spSurplus_q {k p c n s : Int} {nm tx : ByteArray} {H : Nat → Ch} {nx : Nat} : spSurplus [.agg [.v (.int .i64 k), .v (.int .i64 p), .v (.int .i64 c), .v (.string nm), .v (.string tx), .v (.int .i64 n), .v (.int .i64 s)]] H nx = .is True (.v (.bool (decide (surp ⟨k, p, c, nm, tx, n, s⟩)))) := (rfl)
theorem spSurplus_ok : SpecOk Tryz.prog 68 spSurplus := specOk_is fun args H nx => by
  unfold spSurplus; split
  · next k p c nm tx n s => exact fun _ w => surplus_any ⟨k, p, c, nm, tx, n, s⟩ w
  · trivial
def glWr : List (FuncId × Spc) := (68, spSurplus) :: glSu
theorem glWr_ok : GOk Tryz.prog (lookG glWr) := lG_cons (by kernel_rfl) spSurplus_ok glSu_ok
set_option maxRecDepth 100000 in
set_option maxHeartbeats 4000000 in
theorem wrong_any (d : Nd) (hz : d.nm.size ≤ 2305843009213693952 ∧ d.tx.size ≤ 2305843009213693952) (w : World) :
    Calls Tryz.prog 40 #[den (.agg (ndC d))] w fun e w' => e = .returned (.int .i64 (faultV d)) ∧ Below w.heap.size w w' := by
  obtain ⟨k, p, c, nm, tx, n, s⟩ := d
  obtain ⟨q, hq⟩ : ∃ q, q = faultV ⟨k, p, c, nm, tx, n, s⟩ := ⟨_, rfl⟩
  rw [← hq]
  refine calls_go (args := [.agg (ndC ⟨k, p, c, nm, tx, n, s⟩)]) (hp := []) (nx := 1000) (n := 800) (U := []) (V := []) (tl := tlNd) (gl := glWr) (post := fun s ys => ys = [.v (.int .i64 q)])
    followP tlNd_ok glWr_ok Tryz.func40 rfl (by kernel_rfl) (Nat.le_of_ble_eq_true (by kernel_rfl)) (by kernel_rfl) (by kernel_rfl) (hh_list trivial) (fun _ _ => rfl) ?_ ?_
  · rintro s ys w' rfl H
    exact ⟨rfl, H.below⟩
  intro L F T G nd va hE
  obtain ⟨hL, hF, hs, hv, hT, hG, hR, hI, hJ, hW⟩ := hE
  rw [Tryz.results40] at hF
  simp (maxSteps := 1000000) only [En.nN, En.E, En.evsC, List.map_cons, List.map_nil, Nat.reduceBEq, Nat.reduceAdd, Nat.reduceMul, Nat.reduceEqDiff, Nat.reduceLeDiff, Nat.reduceLT, ne_eq, reduceCtorEq, Int.reduceBEq, Int.reduceBNe, Int.reduceAdd, Int.reduceSub, Int.reduceMul, Int.reduceTDiv, Int.reduceTMod, Int.reduceNeg, En.bitN, Nat.testBit, Nat.reduceShiftRight, Nat.reduceShiftLeft, Nat.reduceAnd, Nat.reduceOr, Nat.reduceBNe, Int.reduceToNat, Nat.reduceSub, Int.reduceLE, Int.reduceLT] at hv
  simp only [En.at_nil, En.at_cons, En.ag_nil, En.ag_cons, and_true, tlNd, glWr, glSu, tyInt, tyI64, tyBool, tyStr, tyErr, tyNode] at hT hG
  have hz1 : nm.size ≤ 4611686018427387904 := by have := hz.1; simp only at this; omega
  have hz2 : tx.size ≤ 2305843009213693952 := hz.2
  simp (maxSteps := 10000000) only [En.E, En.evsC, List.map_cons, List.map_nil, Nat.reduceBEq, Nat.reduceAdd, Nat.reduceMul, Nat.reduceEqDiff, Nat.reduceLeDiff, Nat.reduceLT, ne_eq, reduceCtorEq, Int.reduceBEq, Int.reduceBNe, Int.reduceAdd, Int.reduceSub, Int.reduceMul, Int.reduceTDiv, Int.reduceTMod, Int.reduceNeg, En.bitN, Nat.testBit, Nat.reduceShiftRight, Nat.reduceShiftLeft, Nat.reduceAnd, Nat.reduceOr, Nat.reduceBNe, Int.reduceToNat, Nat.reduceSub, Int.reduceLE, Int.reduceLT, En.vV, hs, hv, hT, hG, hF, ndC, spRAr_q, spRName_q, spCount_q, spSurplus_q, emp_iff, hz1, hz2]
  clear hL hF hs hR hI hJ hW hv hT hG
  have key : k = 3 ∨ k = 4 ∨ k = 5 ∨ k = 6 ∨ (k ≠ 3 ∧ k ≠ 4 ∧ k ≠ 5 ∧ k ≠ 6) := by omega
  unfold faultV at hq
  simp only at hq
  generalize hS : decide (surp ⟨k, p, c, nm, tx, n, s⟩) = B
  have hB : surp ⟨k, p, c, nm, tx, n, s⟩ ↔ B = true := by rw [← hS]; simp
  simp only [hB] at hq
  clear hS hB
  generalize nameV nm = V at hq ⊢
  generalize arE p = R at hq ⊢
  cases hD : Lib.validD tx.data.toList
  · have hc : cntV tx = -1 := by rw [cntV, hD]; rfl
    rw [hD] at hq
    rw [hc]
    rcases key with rfl | rfl | rfl | rfl | ⟨k3, k4, k5, k6⟩
    · simp <;> grind
    · simp <;> grind
    · simp <;> grind
    · simp <;> grind
    · simp [k3, k4, k5, k6] at hq ⊢ <;> grind
  · have hc : cntV tx = (Lib.runeCount tx : Int) := by rw [cntV, hD]; rfl
    rw [hD] at hq
    rw [hc]
    have hC : (0 : Int) ≤ Lib.runeCount tx := by omega
    have hC2 : (400 < Lib.runeCount tx) ↔ (400 < (Lib.runeCount tx : Int)) := by omega
    simp only [hC2] at hq
    generalize (Lib.runeCount tx : Int) = C at hq hC ⊢
    rcases key with rfl | rfl | rfl | rfl | ⟨k3, k4, k5, k6⟩
    · simp <;> grind
    · simp <;> grind
    · simp <;> grind
    · simp <;> grind
    · simp [k3, k4, k5, k6] at hq ⊢ <;> grind
def spWrong : Spc
  | [.agg [.v (.int .i64 k), .v (.int .i64 p), .v (.int .i64 c), .v (.string nm), .v (.string tx), .v (.int .i64 n), .v (.int .i64 s)]], _, _ => .is (nm.size ≤ 2305843009213693952 ∧ tx.size ≤ 2305843009213693952) (.v (.int .i64 (faultV ⟨k, p, c, nm, tx, n, s⟩)))
  | _, _, _ => .bad
theorem spWrong_q {k p c n s : Int} {nm tx : ByteArray} {H : Nat → Ch} {nx : Nat} : spWrong [.agg [.v (.int .i64 k), .v (.int .i64 p), .v (.int .i64 c), .v (.string nm), .v (.string tx), .v (.int .i64 n), .v (.int .i64 s)]] H nx = .is (nm.size ≤ 2305843009213693952 ∧ tx.size ≤ 2305843009213693952) (.v (.int .i64 (faultV ⟨k, p, c, nm, tx, n, s⟩))) := (rfl)
theorem spWrong_ok : SpecOk Tryz.prog 40 spWrong := specOk_is fun args H nx => by
  unfold spWrong; split
  · next k p c nm tx n s => exact fun h w => wrong_any ⟨k, p, c, nm, tx, n, s⟩ h w
  · trivial
end Pr
end Go.Proofs.YtpkldfkmokeamaaGreatDoor
