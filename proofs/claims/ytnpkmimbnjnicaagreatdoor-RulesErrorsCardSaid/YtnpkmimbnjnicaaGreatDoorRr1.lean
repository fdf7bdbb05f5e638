/-
The references of chapters 20 and 21: Good, Check, join, After; Large.
-/
import Derived.Test.YtnpkmimbnjnicaaGreatDoorRl2
set_option linter.unusedSimpArgs false
set_option linter.unusedVariables false
namespace Go.Proofs.YtnpkmimbnjnicaaGreatDoor
namespace Pr
open Go Go.RowKit En
open Lt
end Pr
end Go.Proofs.YtnpkmimbnjnicaaGreatDoor
/-
The reference of chapter 21: one, extends, shape, extended.
-/
set_option linter.unusedSimpArgs false
set_option linter.unusedVariables false
namespace Go.Proofs.YtnpkmimbnjnicaaGreatDoor
namespace Pr
open Go Go.RowKit En
open Lt
def memI (xs : List Int) (p : Int) : Bool := xs.any fun x => x == p
def oneI (p : Int) (A : Option Addr) (c : Nat) (xs : List Int) (i : Nat) : SS :=
  ⟨[(0, .v (.int .i64 p)), (1, .g 1001 A xs.length c), (5, .v (.int .i64 i))], [(1001, .ints A c .i64 xs)], 12000⟩
theorem memI_yes {xs : List Int} {p : Int} {i : Nat} (hi : i < xs.length) (h : (xs.getD i 0 == p) = true) : memI xs p = true := by
  refine List.any_eq_true.2 ⟨xs[i], List.getElem_mem hi, ?_⟩
  simpa [List.getD_eq_getElem?_getD, hi] using h
theorem memI_no {xs : List Int} {p : Int} (h : ∀ i, i < xs.length → (xs.getD i 0 == p) = false) : memI xs p = false := by
  refine List.any_eq_false.2 fun x hx => ?_
  obtain ⟨i, hi, rfl⟩ := List.mem_iff_getElem.1 hx
  have := h i hi
  rw [List.getD_eq_getElem?_getD, List.getElem?_eq_getElem hi] at this
  simpa using this
set_option maxRecDepth 100000 in
set_option maxHeartbeats 4000000 in
theorem one_any (p : Int) (xs : List Int) (hn : xs.length ≤ 1000) (A : Option Addr) (c : Nat) (w : World) (h : Hold w.heap.size w (.ints A c .i64 xs)) :
    Calls Tryz.prog 25 #[.int .i64 p, .slice A xs.length c] w fun e w' => e = .returned (.bool (memI xs p)) ∧ Below w.heap.size w w' := by
  obtain ⟨q, hq⟩ : ∃ q, q = memI xs p := ⟨_, rfl⟩
  rw [← hq]
  refine calls_go (args := [.v (.int .i64 p), .g 1001 A xs.length c]) (hp := [(1001, .ints A c .i64 xs)]) (nx := 2000) (n := 400) (U := [(1000000, 6)]) (V := []) (tl := tlRu) (gl := gl0) (post := fun s' ys => ys = [.v (.bool q)])
    followP tlRu_ok gl0_ok Tryz.func25 rfl (by kernel_rfl) (Nat.le_of_ble_eq_true (by kernel_rfl)) (by kernel_rfl) (by kernel_rfl) (hh_list ⟨⟨h, rfl⟩, trivial⟩) (free_list (by simp [allLt])) ?_ ?_
  · rintro s ys w' rfl H
    exact ⟨rfl, H.below⟩
  intro L F T G nd va hE
  obtain ⟨hL, hF, hs, hv, hT, hG, hR, hI, hJ, hW⟩ := hE
  rw [Tryz.results25] at hF
  simp (maxSteps := 1000000) only [En.nN, En.E, En.evsC, List.map_cons, List.map_nil, Nat.reduceBEq, Nat.reduceAdd, Nat.reduceMul, Nat.reduceEqDiff, Nat.reduceLeDiff, Nat.reduceLT, ne_eq, reduceCtorEq, Int.reduceBEq, Int.reduceBNe, Int.reduceAdd, Int.reduceSub, Int.reduceMul, Int.reduceTDiv, Int.reduceTMod, Int.reduceNeg, En.bitN, Nat.testBit, Nat.reduceShiftRight, Nat.reduceShiftLeft, Nat.reduceAnd, Nat.reduceOr, Nat.reduceBNe, Int.reduceToNat, Nat.reduceSub, Int.reduceLE, Int.reduceLT] at hv
  simp only [En.at_nil, En.at_cons, En.ag_nil, En.ag_cons, and_true, tlRu, gl0, tyInt, tyU8, tyBool, tyErr, tyStrs, tyBytes, tyInts, tyLat, tyI2, tyTy, tyTys, tyRule, tyTwo, tyLook, tyTab, tyRFn] at hT hG
  simp (maxSteps := 10000000) only [En.E, En.evsC, List.map_cons, List.map_nil, Nat.reduceBEq, Nat.reduceAdd, Nat.reduceMul, Nat.reduceEqDiff, Nat.reduceLeDiff, Nat.reduceLT, ne_eq, reduceCtorEq, Int.reduceBEq, Int.reduceBNe, Int.reduceAdd, Int.reduceSub, Int.reduceMul, Int.reduceTDiv, Int.reduceTMod, Int.reduceNeg, En.bitN, Nat.testBit, Nat.reduceShiftRight, Nat.reduceShiftLeft, Nat.reduceAnd, Nat.reduceOr, Nat.reduceBNe, Int.reduceToNat, Nat.reduceSub, Int.reduceLE, Int.reduceLT, En.vV, hs, hv, hT, hG, hF, ]
  refine hI {i : Nat // i ≤ xs.length ∧ ∀ j, j < i → (xs.getD j 0 == p) = false} (fun y => oneI p A c xs y.1) (fun x => xs.length - x.1) _ _ _ ⟨0, Nat.zero_le _, fun j hj => absurd hj (Nat.not_lt_zero j)⟩ (sle_all [1001] (by decide) (by simp only [En.E, En.evsC, List.map_cons, List.map_nil, Nat.reduceBEq, Nat.reduceAdd, Nat.reduceMul, Nat.reduceEqDiff, Nat.reduceLeDiff, Nat.reduceLT, ne_eq, reduceCtorEq, Int.reduceBEq, Int.reduceBNe, Int.reduceAdd, Int.reduceSub, Int.reduceMul, Int.reduceTDiv, Int.reduceTMod, Int.reduceNeg, En.bitN, Nat.testBit, Nat.reduceShiftRight, Nat.reduceShiftLeft, Nat.reduceAnd, Nat.reduceOr, Nat.reduceBNe, Int.reduceToNat, Nat.reduceSub, Int.reduceLE, Int.reduceLT, En.slLe, En.hpLe, En.chE, En.allLt, oneI, Int.cast_ofNat_Int])) ?_
  rintro ⟨i, hi, hp⟩
  refine hR 400 _ _ ?_
  by_cases hlt : i < xs.length
  · have d0 : decide ((i : Int) < (xs.length : Int)) = true := decide_eq_true (by omega)
    have i1 : inr .i64 ((i : Int) + 1) := by simp only [En.inr, En.lo, En.hi]; omega
    cases d1 : (xs.getD i 0 == p) with
    | true =>
      have hq' : q = true := hq.trans (memI_yes hlt d1)
      simp (maxSteps := 10000000) only [En.E, En.evsC, List.map_cons, List.map_nil, Nat.reduceBEq, Nat.reduceAdd, Nat.reduceMul, Nat.reduceEqDiff, Nat.reduceLeDiff, Nat.reduceLT, ne_eq, reduceCtorEq, Int.reduceBEq, Int.reduceBNe, Int.reduceAdd, Int.reduceSub, Int.reduceMul, Int.reduceTDiv, Int.reduceTMod, Int.reduceNeg, En.bitN, Nat.testBit, Nat.reduceShiftRight, Nat.reduceShiftLeft, Nat.reduceAnd, Nat.reduceOr, Nat.reduceBNe, Int.reduceToNat, Nat.reduceSub, Int.reduceLE, Int.reduceLT, En.vV, hs, hv, hT, hG, hF, oneI, d0, Int.toNat_natCast, d1, hq']
      refine ⟨?_, ?_⟩ <;> omega
    | false =>
      simp (maxSteps := 10000000) only [En.E, En.evsC, List.map_cons, List.map_nil, Nat.reduceBEq, Nat.reduceAdd, Nat.reduceMul, Nat.reduceEqDiff, Nat.reduceLeDiff, Nat.reduceLT, ne_eq, reduceCtorEq, Int.reduceBEq, Int.reduceBNe, Int.reduceAdd, Int.reduceSub, Int.reduceMul, Int.reduceTDiv, Int.reduceTMod, Int.reduceNeg, En.bitN, Nat.testBit, Nat.reduceShiftRight, Nat.reduceShiftLeft, Nat.reduceAnd, Nat.reduceOr, Nat.reduceBNe, Int.reduceToNat, Nat.reduceSub, Int.reduceLE, Int.reduceLT, En.vV, hs, hv, hT, hG, hF, oneI, d0, Int.toNat_natCast, d1, i1]
      refine ⟨by omega, by omega, ⟨i + 1, by omega, fun j hj => ?_⟩, (sle_all [1001] (by decide) (by simp only [En.E, En.evsC, List.map_cons, List.map_nil, Nat.reduceBEq, Nat.reduceAdd, Nat.reduceMul, Nat.reduceEqDiff, Nat.reduceLeDiff, Nat.reduceLT, ne_eq, reduceCtorEq, Int.reduceBEq, Int.reduceBNe, Int.reduceAdd, Int.reduceSub, Int.reduceMul, Int.reduceTDiv, Int.reduceTMod, Int.reduceNeg, En.bitN, Nat.testBit, Nat.reduceShiftRight, Nat.reduceShiftLeft, Nat.reduceAnd, Nat.reduceOr, Nat.reduceBNe, Int.reduceToNat, Nat.reduceSub, Int.reduceLE, Int.reduceLT, En.slLe, En.hpLe, En.chE, En.allLt, oneI, Int.natCast_add, Int.cast_ofNat_Int])), by simp only; omega⟩
      by_cases e : j = i
      · rw [e]; exact d1
      · exact hp j (by omega)
  · have d0 : decide ((i : Int) < (xs.length : Int)) = false := decide_eq_false (by omega)
    have hq' : q = false := hq.trans (memI_no fun j hj => hp j (by omega))
    simp (maxSteps := 10000000) only [En.E, En.evsC, List.map_cons, List.map_nil, Nat.reduceBEq, Nat.reduceAdd, Nat.reduceMul, Nat.reduceEqDiff, Nat.reduceLeDiff, Nat.reduceLT, ne_eq, reduceCtorEq, Int.reduceBEq, Int.reduceBNe, Int.reduceAdd, Int.reduceSub, Int.reduceMul, Int.reduceTDiv, Int.reduceTMod, Int.reduceNeg, En.bitN, Nat.testBit, Nat.reduceShiftRight, Nat.reduceShiftLeft, Nat.reduceAnd, Nat.reduceOr, Nat.reduceBNe, Int.reduceToNat, Nat.reduceSub, Int.reduceLE, Int.reduceLT, En.vV, hs, hv, hT, hG, hF, oneI, d0, Int.toNat_natCast, hq']
def oneR (p : Int) : Option (List Int) → Res
  | some xs => .is (xs.length ≤ 1000) (.v (.bool (memI xs p)))
  | none => .bad
theorem oneR_q {p : Int} {xs : List Int} : oneR p (some xs) = .is (xs.length ≤ 1000) (.v (.bool (memI xs p))) := (rfl)
def spOne : Spc
  | [.v (.int .i64 p), X], H, _ => oneR p (getN H X)
  | _, _, _ => .bad
theorem spOne_q {p : Int} {X : SV} {H : Nat → Ch} {nx : Nat} : spOne [.v (.int .i64 p), X] H nx = oneR p (getN H X) := (rfl)
theorem spOne_ok : SpecOk Tryz.prog 25 spOne := by
  intro args hp nx w0 O w H hv
  unfold spOne at hv ⊢
  split at hv
  · next p x =>
    cases hx : getN (lookH hp) x with
    | some xs =>
      rw [hx] at hv
      obtain ⟨A, c, e, hsl, _⟩ := getN_ok H hx
      have : (dens [.v (.int .i64 p), x]).toArray = #[.int .i64 p, .slice A xs.length c] := by rw [← e]; rfl
      rw [this]
      refine (one_any p xs hv A c w hsl).mono ?_
      rintro e w' ⟨rfl, hb⟩
      exact ⟨⟨0, none, 0, none, 0, mz⟩, rfl, .still hb⟩
    | none => rw [hx] at hv; exact hv.elim
  · exact hv.elim
theorem sh1 {b : Nat} {x0 : Int} {t : TypeId} : (showC b 0 1 (.blk b [.v (.int .i64 x0)] t)).bind intsOf = some [x0] := by
  rw [showC, if_pos ⟨rfl, Nat.le_refl 1⟩]; rfl
theorem sh2 {b : Nat} {x0 x1 : Int} {t : TypeId} : (showC b 0 2 (.blk b [.v (.int .i64 x0), .v (.int .i64 x1)] t)).bind intsOf = some [x0, x1] := by
  rw [showC, if_pos ⟨rfl, Nat.le_refl 2⟩]; rfl
theorem sh3 {b : Nat} {x0 x1 x2 : Int} {t : TypeId} : (showC b 0 3 (.blk b [.v (.int .i64 x0), .v (.int .i64 x1), .v (.int .i64 x2)] t)).bind intsOf = some [x0, x1, x2] := by
  rw [showC, if_pos ⟨rfl, Nat.le_refl 3⟩]; rfl
theorem sh4 {b : Nat} {x0 x1 x2 x3 : Int} {t : TypeId} : (showC b 0 4 (.blk b [.v (.int .i64 x0), .v (.int .i64 x1), .v (.int .i64 x2), .v (.int .i64 x3)] t)).bind intsOf = some [x0, x1, x2, x3] := by
  rw [showC, if_pos ⟨rfl, Nat.le_refl 4⟩]; rfl
theorem ln1 {x0 : Int} : ([x0].length ≤ 1000) = True := eq_true (show 1 ≤ 1000 by decide)
theorem ln2 {x0 x1 : Int} : ([x0, x1].length ≤ 1000) = True := eq_true (show 2 ≤ 1000 by decide)
theorem ln3 {x0 x1 x2 : Int} : ([x0, x1, x2].length ≤ 1000) = True := eq_true (show 3 ≤ 1000 by decide)
theorem ln4 {x0 x1 x2 x3 : Int} : ([x0, x1, x2, x3].length ≤ 1000) = True := eq_true (show 4 ≤ 1000 by decide)
def extB (p : Int) : Bool := bif decide (15 ≤ p) then decide (p ≤ 32) else false
theorem ext_any (p : Int) (w : World) : Calls Tryz.prog 26 #[.int .i64 p] w fun e w' => e = .returned (.bool (extB p)) ∧ Below w.heap.size w w' := by
  obtain ⟨q, hq⟩ : ∃ q, q = extB p := ⟨_, rfl⟩
  rw [← hq]
  refine calls_go (args := [.v (.int .i64 p)]) (hp := []) (nx := 1000) (n := 200) (U := []) (V := []) (tl := tlRu) (gl := gl0) (post := fun s ys => ys = [.v (.bool q)])
    followP tlRu_ok gl0_ok Tryz.func26 rfl (by kernel_rfl) (Nat.le_of_ble_eq_true (by kernel_rfl)) (by kernel_rfl) (by kernel_rfl) (hh_list trivial) (fun _ _ => rfl) ?_ ?_
  · rintro s ys w' rfl H
    exact ⟨rfl, H.below⟩
  intro L F T G nd va hE
  obtain ⟨hL, hF, hs, hv, hT, hG, hR, hI, hJ, hW⟩ := hE
  rw [Tryz.results26] at hF
  simp (maxSteps := 1000000) only [En.nN, En.E, En.evsC, List.map_cons, List.map_nil, Nat.reduceBEq, Nat.reduceAdd, Nat.reduceMul, Nat.reduceEqDiff, Nat.reduceLeDiff, Nat.reduceLT, ne_eq, reduceCtorEq, Int.reduceBEq, Int.reduceBNe, Int.reduceAdd, Int.reduceSub, Int.reduceMul, Int.reduceTDiv, Int.reduceTMod, Int.reduceNeg, En.bitN, Nat.testBit, Nat.reduceShiftRight, Nat.reduceShiftLeft, Nat.reduceAnd, Nat.reduceOr, Nat.reduceBNe, Int.reduceToNat, Nat.reduceSub, Int.reduceLE, Int.reduceLT] at hv
  simp only [En.at_nil, En.at_cons, En.ag_nil, En.ag_cons, and_true, tlRu, gl0, tyInt, tyU8, tyBool, tyErr, tyStrs, tyBytes, tyInts, tyLat, tyI2, tyTy, tyTys, tyRule, tyTwo, tyLook, tyTab, tyRFn] at hT hG
  unfold extB at hq
  cases h1 : decide (15 ≤ p) <;> rw [h1] at hq
  · simp (maxSteps := 10000000) only [En.E, En.evsC, List.map_cons, List.map_nil, Nat.reduceBEq, Nat.reduceAdd, Nat.reduceMul, Nat.reduceEqDiff, Nat.reduceLeDiff, Nat.reduceLT, ne_eq, reduceCtorEq, Int.reduceBEq, Int.reduceBNe, Int.reduceAdd, Int.reduceSub, Int.reduceMul, Int.reduceTDiv, Int.reduceTMod, Int.reduceNeg, En.bitN, Nat.testBit, Nat.reduceShiftRight, Nat.reduceShiftLeft, Nat.reduceAnd, Nat.reduceOr, Nat.reduceBNe, Int.reduceToNat, Nat.reduceSub, Int.reduceLE, Int.reduceLT, En.vV, hs, hv, hT, hG, hF, h1, hq]
  · simp (maxSteps := 10000000) only [En.E, En.evsC, List.map_cons, List.map_nil, Nat.reduceBEq, Nat.reduceAdd, Nat.reduceMul, Nat.reduceEqDiff, Nat.reduceLeDiff, Nat.reduceLT, ne_eq, reduceCtorEq, Int.reduceBEq, Int.reduceBNe, Int.reduceAdd, Int.reduceSub, Int.reduceMul, Int.reduceTDiv, Int.reduceTMod, Int.reduceNeg, En.bitN, Nat.testBit, Nat.reduceShiftRight, Nat.reduceShiftLeft, Nat.reduceAnd, Nat.reduceOr, Nat.reduceBNe, Int.reduceToNat, Nat.reduceSub, Int.reduceLE, Int.reduceLT, En.vV, hs, hv, hT, hG, hF, h1, hq]
def spExt : Spc
  | [.v (.int .i64 p)], _, _ => .is (True) (.v (.bool (extB p)))
  | _, _, _ => .bad
theorem spExt_q {p : Int} {H : Nat → Ch} {nx : Nat} : spExt [.v (.int .i64 p)] H nx = .is (True) (.v (.bool (extB p))) := (rfl)
theorem spExt_ok : SpecOk Tryz.prog 26 spExt := specOk_is fun args H nx => by
  unfold spExt; split
  · exact fun _ w => ext_any _ w
  · trivial
end Pr
end Go.Proofs.YtnpkmimbnjnicaaGreatDoor
