/-
Chapter 25: cells of operands, their sum, and what is made of them.
-/
import Derived.Test.YtapgddiocdcaeaaGreatDoorCh1
import Derived.Test.YtapgddiocdcaeaaGreatDoorTyB
set_option linter.unusedSimpArgs false
set_option linter.unusedVariables false
namespace Go.Proofs.YtapgddiocdcaeaaGreatDoor
namespace Pr
open Go Go.RowKit En
/-- a number that is none of cells -/
def badX (x : Int) : Bool := bif decide (x < 0) then true else decide (x > 400)
def rightV (xs : List Int) : Bool := !xs.any badX
def tlCo25 : List (TypeId × TI) := [tyInt, tyI64, tyBool, tyErr, tyInts]
theorem tlCo25_ok : TyAll Tryz.prog (lookT tlCo25) := tyAll_p tyInt_ok <| tyAll_p tyI64_ok <| tyAll_p tyBool_ok <| tyAll_p tyErr_ok <| tyAll_p tyInts_ok tyAll_nil
def riI (xs : List Int) (A : Option Addr) (c i : Nat) : SS := ⟨[(0, .g 1000 A xs.length c), (5, .g 1000 A xs.length c), (6, .v (.int .i64 xs.length)), (7, .v (.int .i64 i))], [(1000, .ints A c .i64 xs)], 3000⟩
theorem any_at {xs : List Int} {i : Nat} (hi : i < xs.length) (h : badX (xs.getD i 0) = true) : xs.any badX = true := by
  rw [List.any_eq_true]
  exact ⟨xs[i], List.getElem_mem hi, by rw [List.getD_eq_getElem?_getD, List.getElem?_eq_getElem hi] at h; exact h⟩
theorem any_no {xs : List Int} (h : ∀ i, i < xs.length → badX (xs.getD i 0) = false) : xs.any badX = false := by
  rw [List.any_eq_false]
  intro x hx
  obtain ⟨i, hi, rfl⟩ := List.getElem_of_mem hx
  have := h i hi
  rw [List.getD_eq_getElem?_getD, List.getElem?_eq_getElem hi] at this
  simpa using this
theorem right_any (xs : List Int) (hn : xs.length ≤ 1000) (A : Option Addr) (c : Nat) (w : World) (h : Hold w.heap.size w (.ints A c .i64 xs)) :
    Calls Tryz.prog 40 #[.slice A xs.length c] w fun e w' => e = .returned (.bool (rightV xs)) ∧ Below w.heap.size w w' := by
  obtain ⟨q, hq⟩ : ∃ q, q = rightV xs := ⟨_, rfl⟩
  rw [← hq]
  refine calls_go (args := [.g 1000 A xs.length c]) (hp := [(1000, .ints A c .i64 xs)]) (nx := 1001) (n := 400) (U := [(1000000, 17)]) (V := []) (tl := tlCo25) (gl := gl0) (post := fun s ys => ys = [.v (.bool q)])
    followP tlCo25_ok gl0_ok Tryz.func40 rfl (by kernel_rfl) (Nat.le_of_ble_eq_true (by kernel_rfl)) (by kernel_rfl) (by kernel_rfl) (hh_list ⟨⟨h, rfl⟩, trivial⟩) (free_list (by simp [allLt])) ?_ ?_
  · rintro s ys w' rfl H
    exact ⟨rfl, H.below⟩
  intro L F T G nd va hE
  obtain ⟨hL, hF, hs, hv, hT, hG, hR, hI, hJ, hW⟩ := hE
  rw [Tryz.results40] at hF
  simp (maxSteps := 1000000) only [En.nN, En.E, En.evsC, List.map_cons, List.map_nil, Nat.reduceBEq, Nat.reduceAdd, Nat.reduceMul, Nat.reduceEqDiff, Nat.reduceLeDiff, Nat.reduceLT, ne_eq, reduceCtorEq, Int.reduceBEq, Int.reduceBNe, Int.reduceAdd, Int.reduceSub, Int.reduceMul, Int.reduceTDiv, Int.reduceTMod, Int.reduceNeg, En.bitN, Nat.testBit, Nat.reduceShiftRight, Nat.reduceShiftLeft, Nat.reduceAnd, Nat.reduceOr, Nat.reduceBNe, Int.reduceToNat, Nat.reduceSub, Int.reduceLE, Int.reduceLT] at hv
  simp only [En.at_nil, En.at_cons, En.ag_nil, En.ag_cons, and_true, tlCo25, gl0, tyInt, tyI64, tyBool, tyErr, tyInts] at hT hG
  simp (maxSteps := 10000000) only [En.E, En.evsC, List.map_cons, List.map_nil, Nat.reduceBEq, Nat.reduceAdd, Nat.reduceMul, Nat.reduceEqDiff, Nat.reduceLeDiff, Nat.reduceLT, ne_eq, reduceCtorEq, Int.reduceBEq, Int.reduceBNe, Int.reduceAdd, Int.reduceSub, Int.reduceMul, Int.reduceTDiv, Int.reduceTMod, Int.reduceNeg, En.bitN, Nat.testBit, Nat.reduceShiftRight, Nat.reduceShiftLeft, Nat.reduceAnd, Nat.reduceOr, Nat.reduceBNe, Int.reduceToNat, Nat.reduceSub, Int.reduceLE, Int.reduceLT, En.vV, hs, hv, hT, hG, hF, ]
  refine hI {i : Nat // i ≤ xs.length ∧ ∀ j, j < i → badX (xs.getD j 0) = false} (fun x => riI xs A c x.1) (fun x => xs.length - x.1) _ _ _ ⟨0, Nat.zero_le _, fun j hj => absurd hj (Nat.not_lt_zero j)⟩ (sle_all [1000] (by decide) (by simp only [En.E, En.evsC, List.map_cons, List.map_nil, Nat.reduceBEq, Nat.reduceAdd, Nat.reduceMul, Nat.reduceEqDiff, Nat.reduceLeDiff, Nat.reduceLT, ne_eq, reduceCtorEq, Int.reduceBEq, Int.reduceBNe, Int.reduceAdd, Int.reduceSub, Int.reduceMul, Int.reduceTDiv, Int.reduceTMod, Int.reduceNeg, En.bitN, Nat.testBit, Nat.reduceShiftRight, Nat.reduceShiftLeft, Nat.reduceAnd, Nat.reduceOr, Nat.reduceBNe, Int.reduceToNat, Nat.reduceSub, Int.reduceLE, Int.reduceLT, En.slLe, En.hpLe, En.chE, En.allLt, riI, Int.cast_ofNat_Int])) ?_
  rintro ⟨i, hi, hp⟩
  refine hR 400 _ _ ?_
  by_cases hlt : i < xs.length
  · have d0 : decide ((i : Int) < (xs.length : Int)) = true := decide_eq_true (by omega)
    have i1 : inr .i64 ((i : Int) + 1) := by simp only [En.inr, En.lo, En.hi]; omega
    cases hb : badX (xs.getD i 0) with
    | true =>
      have hq' : q = false := by rw [hq, rightV, any_at hlt hb]; rfl
      have hb' := hb
      simp only [badX] at hb'
      simp (maxSteps := 10000000) only [En.E, En.evsC, List.map_cons, List.map_nil, Nat.reduceBEq, Nat.reduceAdd, Nat.reduceMul, Nat.reduceEqDiff, Nat.reduceLeDiff, Nat.reduceLT, ne_eq, reduceCtorEq, Int.reduceBEq, Int.reduceBNe, Int.reduceAdd, Int.reduceSub, Int.reduceMul, Int.reduceTDiv, Int.reduceTMod, Int.reduceNeg, En.bitN, Nat.testBit, Nat.reduceShiftRight, Nat.reduceShiftLeft, Nat.reduceAnd, Nat.reduceOr, Nat.reduceBNe, Int.reduceToNat, Nat.reduceSub, Int.reduceLE, Int.reduceLT, En.vV, hs, hv, hT, hG, hF, riI, d0, Int.toNat_natCast, hb', hq']
      exact ⟨by omega, by omega, fun h => by rw [h]; rfl⟩
    | false =>
      have hb' := hb
      simp only [badX] at hb'
      simp (maxSteps := 10000000) only [En.E, En.evsC, List.map_cons, List.map_nil, Nat.reduceBEq, Nat.reduceAdd, Nat.reduceMul, Nat.reduceEqDiff, Nat.reduceLeDiff, Nat.reduceLT, ne_eq, reduceCtorEq, Int.reduceBEq, Int.reduceBNe, Int.reduceAdd, Int.reduceSub, Int.reduceMul, Int.reduceTDiv, Int.reduceTMod, Int.reduceNeg, En.bitN, Nat.testBit, Nat.reduceShiftRight, Nat.reduceShiftLeft, Nat.reduceAnd, Nat.reduceOr, Nat.reduceBNe, Int.reduceToNat, Nat.reduceSub, Int.reduceLE, Int.reduceLT, En.vV, hs, hv, hT, hG, hF, riI, d0, i1, Int.toNat_natCast, hb']
      refine ⟨by omega, by omega, fun h => by rw [h]; rfl, ⟨i + 1, by omega, fun j hj => ?_⟩, (sle_all [1000] (by decide) (by simp only [En.E, En.evsC, List.map_cons, List.map_nil, Nat.reduceBEq, Nat.reduceAdd, Nat.reduceMul, Nat.reduceEqDiff, Nat.reduceLeDiff, Nat.reduceLT, ne_eq, reduceCtorEq, Int.reduceBEq, Int.reduceBNe, Int.reduceAdd, Int.reduceSub, Int.reduceMul, Int.reduceTDiv, Int.reduceTMod, Int.reduceNeg, En.bitN, Nat.testBit, Nat.reduceShiftRight, Nat.reduceShiftLeft, Nat.reduceAnd, Nat.reduceOr, Nat.reduceBNe, Int.reduceToNat, Nat.reduceSub, Int.reduceLE, Int.reduceLT, En.slLe, En.hpLe, En.chE, En.allLt, riI, Int.natCast_add, Int.cast_ofNat_Int])), by simp only; omega⟩
      by_cases e : j = i
      · rw [e]; exact hb
      · exact hp j (by omega)
  · have d0 : decide ((i : Int) < (xs.length : Int)) = false := decide_eq_false (by omega)
    have hq' : q = true := by rw [hq, rightV, any_no fun j hj => hp j (by omega)]; rfl
    simp (maxSteps := 10000000) only [En.E, En.evsC, List.map_cons, List.map_nil, Nat.reduceBEq, Nat.reduceAdd, Nat.reduceMul, Nat.reduceEqDiff, Nat.reduceLeDiff, Nat.reduceLT, ne_eq, reduceCtorEq, Int.reduceBEq, Int.reduceBNe, Int.reduceAdd, Int.reduceSub, Int.reduceMul, Int.reduceTDiv, Int.reduceTMod, Int.reduceNeg, En.bitN, Nat.testBit, Nat.reduceShiftRight, Nat.reduceShiftLeft, Nat.reduceAnd, Nat.reduceOr, Nat.reduceBNe, Int.reduceToNat, Nat.reduceSub, Int.reduceLE, Int.reduceLT, En.vV, hs, hv, hT, hG, hF, riI, d0, hq']
/-- the sum of the first numbers -/
def smT (xs : List Int) : Nat → Int
  | 0 => 0
  | i + 1 => smT xs i + xs.getD i 0
def sumV (xs : List Int) : Int := smT xs xs.length
theorem right_in {xs : List Int} (h : rightV xs = true) : ∀ i, 0 ≤ xs.getD i 0 ∧ xs.getD i 0 ≤ 400 := by
  intro i
  by_cases hi : i < xs.length
  · cases hb : badX (xs.getD i 0) with
    | true => rw [rightV, any_at hi hb] at h; cases h
    | false =>
      simp only [badX] at hb
      cases h1 : decide (xs.getD i 0 < 0) with
      | true => rw [h1] at hb; cases hb
      | false =>
        rw [h1] at hb
        have h2 := of_decide_eq_false h1
        have h3 : decide (xs.getD i 0 > 400) = false := hb
        have := of_decide_eq_false h3
        omega
  · have : xs.getD i 0 = 0 := by rw [List.getD_eq_getElem?_getD, List.getElem?_eq_none (by omega)]; rfl
    omega
theorem smT_in {xs : List Int} (h : rightV xs = true) : ∀ i, 0 ≤ smT xs i ∧ smT xs i ≤ 400 * i := by
  intro i
  induction i with
  | zero => exact ⟨Int.le_refl 0, Int.le_refl 0⟩
  | succ i ih =>
    have := right_in h i
    simp only [smT]
    omega
def smI (xs : List Int) (A : Option Addr) (c i : Nat) : SS := ⟨[(0, .g 1000 A xs.length c), (2, .v (.int .i64 (smT xs i))), (5, .g 1000 A xs.length c), (6, .v (.int .i64 xs.length)), (7, .v (.int .i64 i))], [(1000, .ints A c .i64 xs)], 3000⟩
theorem sum_any (xs : List Int) (hn : xs.length ≤ 1000) (hr : rightV xs = true) (A : Option Addr) (c : Nat) (w : World) (h : Hold w.heap.size w (.ints A c .i64 xs)) :
    Calls Tryz.prog 41 #[.slice A xs.length c] w fun e w' => e = .returned (.int .i64 (sumV xs)) ∧ Below w.heap.size w w' := by
  obtain ⟨q, hq⟩ : ∃ q, q = sumV xs := ⟨_, rfl⟩
  rw [← hq]
  refine calls_go (args := [.g 1000 A xs.length c]) (hp := [(1000, .ints A c .i64 xs)]) (nx := 1001) (n := 400) (U := [(1000000, 15)]) (V := []) (tl := tlCo25) (gl := gl0) (post := fun s ys => ys = [.v (.int .i64 q)])
    followP tlCo25_ok gl0_ok Tryz.func41 rfl (by kernel_rfl) (Nat.le_of_ble_eq_true (by kernel_rfl)) (by kernel_rfl) (by kernel_rfl) (hh_list ⟨⟨h, rfl⟩, trivial⟩) (free_list (by simp [allLt])) ?_ ?_
  · rintro s ys w' rfl H
    exact ⟨rfl, H.below⟩
  intro L F T G nd va hE
  obtain ⟨hL, hF, hs, hv, hT, hG, hR, hI, hJ, hW⟩ := hE
  rw [Tryz.results41] at hF
  simp (maxSteps := 1000000) only [En.nN, En.E, En.evsC, List.map_cons, List.map_nil, Nat.reduceBEq, Nat.reduceAdd, Nat.reduceMul, Nat.reduceEqDiff, Nat.reduceLeDiff, Nat.reduceLT, ne_eq, reduceCtorEq, Int.reduceBEq, Int.reduceBNe, Int.reduceAdd, Int.reduceSub, Int.reduceMul, Int.reduceTDiv, Int.reduceTMod, Int.reduceNeg, En.bitN, Nat.testBit, Nat.reduceShiftRight, Nat.reduceShiftLeft, Nat.reduceAnd, Nat.reduceOr, Nat.reduceBNe, Int.reduceToNat, Nat.reduceSub, Int.reduceLE, Int.reduceLT] at hv
  simp only [En.at_nil, En.at_cons, En.ag_nil, En.ag_cons, and_true, tlCo25, gl0, tyInt, tyI64, tyBool, tyErr, tyInts] at hT hG
  simp (maxSteps := 10000000) only [En.E, En.evsC, List.map_cons, List.map_nil, Nat.reduceBEq, Nat.reduceAdd, Nat.reduceMul, Nat.reduceEqDiff, Nat.reduceLeDiff, Nat.reduceLT, ne_eq, reduceCtorEq, Int.reduceBEq, Int.reduceBNe, Int.reduceAdd, Int.reduceSub, Int.reduceMul, Int.reduceTDiv, Int.reduceTMod, Int.reduceNeg, En.bitN, Nat.testBit, Nat.reduceShiftRight, Nat.reduceShiftLeft, Nat.reduceAnd, Nat.reduceOr, Nat.reduceBNe, Int.reduceToNat, Nat.reduceSub, Int.reduceLE, Int.reduceLT, En.vV, hs, hv, hT, hG, hF, ]
  refine hI {i : Nat // i ≤ xs.length} (fun x => smI xs A c x.1) (fun x => xs.length - x.1) _ _ _ ⟨0, Nat.zero_le _⟩ (sle_all [1000] (by decide) (by simp only [En.E, En.evsC, List.map_cons, List.map_nil, Nat.reduceBEq, Nat.reduceAdd, Nat.reduceMul, Nat.reduceEqDiff, Nat.reduceLeDiff, Nat.reduceLT, ne_eq, reduceCtorEq, Int.reduceBEq, Int.reduceBNe, Int.reduceAdd, Int.reduceSub, Int.reduceMul, Int.reduceTDiv, Int.reduceTMod, Int.reduceNeg, En.bitN, Nat.testBit, Nat.reduceShiftRight, Nat.reduceShiftLeft, Nat.reduceAnd, Nat.reduceOr, Nat.reduceBNe, Int.reduceToNat, Nat.reduceSub, Int.reduceLE, Int.reduceLT, En.slLe, En.hpLe, En.chE, En.allLt, smI, smT, Int.cast_ofNat_Int])) ?_
  rintro ⟨i, hi⟩
  refine hR 400 _ _ ?_
  have hb := smT_in hr i
  have hb2 := right_in hr i
  by_cases hlt : i < xs.length
  · have d0 : decide ((i : Int) < (xs.length : Int)) = true := decide_eq_true (by omega)
    have i1 : inr .i64 ((i : Int) + 1) := by simp only [En.inr, En.lo, En.hi]; omega
    have i2 : inr .i64 (smT xs i + xs.getD i 0) := by simp only [En.inr, En.lo, En.hi]; omega
    simp (maxSteps := 10000000) only [En.E, En.evsC, List.map_cons, List.map_nil, Nat.reduceBEq, Nat.reduceAdd, Nat.reduceMul, Nat.reduceEqDiff, Nat.reduceLeDiff, Nat.reduceLT, ne_eq, reduceCtorEq, Int.reduceBEq, Int.reduceBNe, Int.reduceAdd, Int.reduceSub, Int.reduceMul, Int.reduceTDiv, Int.reduceTMod, Int.reduceNeg, En.bitN, Nat.testBit, Nat.reduceShiftRight, Nat.reduceShiftLeft, Nat.reduceAnd, Nat.reduceOr, Nat.reduceBNe, Int.reduceToNat, Nat.reduceSub, Int.reduceLE, Int.reduceLT, En.vV, hs, hv, hT, hG, hF, smI, d0, i1, i2, Int.toNat_natCast]
    exact ⟨by omega, by omega, ⟨i + 1, by omega⟩, (sle_all [1000] (by decide) (by simp only [En.E, En.evsC, List.map_cons, List.map_nil, Nat.reduceBEq, Nat.reduceAdd, Nat.reduceMul, Nat.reduceEqDiff, Nat.reduceLeDiff, Nat.reduceLT, ne_eq, reduceCtorEq, Int.reduceBEq, Int.reduceBNe, Int.reduceAdd, Int.reduceSub, Int.reduceMul, Int.reduceTDiv, Int.reduceTMod, Int.reduceNeg, En.bitN, Nat.testBit, Nat.reduceShiftRight, Nat.reduceShiftLeft, Nat.reduceAnd, Nat.reduceOr, Nat.reduceBNe, Int.reduceToNat, Nat.reduceSub, Int.reduceLE, Int.reduceLT, En.slLe, En.hpLe, En.chE, En.allLt, smI, smT, Int.natCast_add, Int.cast_ofNat_Int])), by simp only; omega⟩
  · have d0 : decide ((i : Int) < (xs.length : Int)) = false := decide_eq_false (by omega)
    obtain rfl : i = xs.length := by omega
    have hq' : q = smT xs xs.length := hq
    simp (maxSteps := 10000000) only [En.E, En.evsC, List.map_cons, List.map_nil, Nat.reduceBEq, Nat.reduceAdd, Nat.reduceMul, Nat.reduceEqDiff, Nat.reduceLeDiff, Nat.reduceLT, ne_eq, reduceCtorEq, Int.reduceBEq, Int.reduceBNe, Int.reduceAdd, Int.reduceSub, Int.reduceMul, Int.reduceTDiv, Int.reduceTMod, Int.reduceNeg, En.bitN, Nat.testBit, Nat.reduceShiftRight, Nat.reduceShiftLeft, Nat.reduceAnd, Nat.reduceOr, Nat.reduceBNe, Int.reduceToNat, Nat.reduceSub, Int.reduceLE, Int.reduceLT, En.vV, hs, hv, hT, hG, hF, smI, d0, hq']
def spRight : Spc
  | [x], H, _ => (match getN H x with
    | some xs => .is (xs.length ≤ 1000) (.v (.bool (rightV xs)))
    | none => .bad)
  | _, _, _ => .bad
def riR : Option (List Int) → Res
  | some xs => .is (xs.length ≤ 1000) (.v (.bool (rightV xs)))
  | none => .bad
theorem spRight_q {x : SV} {H : Nat → Ch} {nx : Nat} : spRight [x] H nx = riR (getN H x) := rfl
theorem riR_q {xs : List Int} : riR (some xs) = .is (xs.length ≤ 1000) (.v (.bool (rightV xs))) := rfl
theorem spRight_ok : SpecOk Tryz.prog 40 spRight := by
  intro args hp nx w0 O w H hv
  unfold spRight at hv ⊢
  split at hv
  · next x =>
    split at hv
    · next xs hx =>
      obtain ⟨A, c, e, hsl, _⟩ := getN_ok H hx
      have : (dens [x]).toArray = #[.slice A xs.length c] := by rw [← e]; rfl
      rw [this]
      refine (right_any xs hv A c w hsl).mono ?_
      rintro e w' ⟨rfl, hb⟩
      exact ⟨⟨0, none, 0, none, 0, mz⟩, rfl, .still hb⟩
    · exact hv.elim
  · exact hv.elim
def smR : Option (List Int) → Res
  | some xs => .is (xs.length ≤ 1000 ∧ rightV xs = true) (.v (.int .i64 (sumV xs)))
  | none => .bad
def spSum : Spc
  | [x], H, _ => smR (getN H x)
  | _, _, _ => .bad
theorem spSum_q {x : SV} {H : Nat → Ch} {nx : Nat} : spSum [x] H nx = smR (getN H x) := rfl
theorem smR_q {xs : List Int} : smR (some xs) = .is (xs.length ≤ 1000 ∧ rightV xs = true) (.v (.int .i64 (sumV xs))) := rfl
theorem spSum_ok : SpecOk Tryz.prog 41 spSum := by
  intro args hp nx w0 O w H hv
  unfold spSum at hv ⊢
  split at hv
  · next x =>
    cases hx : getN (lookH hp) x with
    | some xs =>
      rw [hx] at hv
      obtain ⟨A, c, e, hsl, _⟩ := getN_ok H hx
      have : (dens [x]).toArray = #[.slice A xs.length c] := by rw [← e]; rfl
      rw [this]
      refine (sum_any xs hv.1 hv.2 A c w hsl).mono ?_
      rintro e w' ⟨rfl, hb⟩
      exact ⟨⟨0, none, 0, none, 0, mz⟩, rfl, .still hb⟩
    | none => rw [hx] at hv; exact hv.elim
  · exact hv.elim
end Pr
end Go.Proofs.YtapgddiocdcaeaaGreatDoor
/-
Chapter 25: Prim, Result and Charge, of the program and of the reference.
-/
set_option linter.unusedSimpArgs false
set_option linter.unusedVariables false
namespace Go.Proofs.YtapgddiocdcaeaaGreatDoor
namespace Pr
open Go Go.RowKit En
def primV (p : Int) (xs : List Int) : Int × Int :=
  if findE p ≠ 0 then (0, findE p) else if (xs.length : Int) ≠ arE p then (0, 23) else if rightV xs = false then (0, 7) else (sumV xs + 1, 0)
def resV25 (p n : Int) : Int × Int :=
  if findE p ≠ 0 then (0, findE p) else if badX n = true then (0, 7) else if p = 8 ∨ p = 35 ∨ p = 36 then (n, 0) else (0, 0)
def chgV (m k f : Int) : Int × Int :=
  if m < 0 ∨ k < 0 ∨ f < m ∨ 100000 < f then (0, 7) else if f - m < k then (0, 16) else (m + k, 0)
def glCoP : List (FuncId × Spc) := [(39, spArityF), (40, spRight), (41, spSum)]
theorem glCoP_ok : GOk Tryz.prog (lookG glCoP) := lG_cons (by kernel_rfl) spArityF_ok <| lG_cons (by kernel_rfl) spRight_ok <| lG_cons (by kernel_rfl) spSum_ok lG_nil
theorem prim_any (p : Int) (xs : List Int) (hn : xs.length ≤ 1000) (A : Option Addr) (c : Nat) (bn on cn ba oa ca : Nat) (h4 : 4 ≤ cn) (h3 : 3 ≤ ca) (w : World) (h : Hold w.heap.size w (.ints A c .i64 xs)) (hg : allRd w.heap.size w (gHp bn on cn ba oa ca)) :
    Calls Tryz.prog 13 #[.int .i64 p, .slice A xs.length c] w fun e w' => e = .returned (.tuple #[.int .i64 (primV p xs).1, .int .i64 (primV p xs).2]) ∧ Below w.heap.size w w' := by
  obtain ⟨q, hq⟩ : ∃ q, q = primV p xs := ⟨_, rfl⟩
  rw [← hq]
  refine calls_go (args := [.v (.int .i64 p), .g 1000 A xs.length c]) (hp := (1000, .ints A c .i64 xs) :: gHp bn on cn ba oa ca) (nx := 1001) (n := 400) (U := []) (V := []) (tl := tlCo25) (gl := glCoP) (post := fun s ys => ys = [.v (.int .i64 q.1), .v (.int .i64 q.2)])
    followP tlCo25_ok glCoP_ok Tryz.func13 rfl (by kernel_rfl) (Nat.le_of_ble_eq_true (by kernel_rfl)) (by kernel_rfl) (by kernel_rfl) (hh_list ⟨⟨h, rfl⟩, hg⟩) (free_list (by simp [allLt, gHp])) ?_ ?_
  · rintro s ys w' rfl H
    exact ⟨rfl, H.below⟩
  intro L F T G nd va hE
  obtain ⟨hL, hF, hs, hv, hT, hG, hR, hI, hJ, hW⟩ := hE
  rw [Tryz.results13] at hF
  simp (maxSteps := 1000000) only [En.nN, En.E, En.evsC, List.map_cons, List.map_nil, Nat.reduceBEq, Nat.reduceAdd, Nat.reduceMul, Nat.reduceEqDiff, Nat.reduceLeDiff, Nat.reduceLT, ne_eq, reduceCtorEq, Int.reduceBEq, Int.reduceBNe, Int.reduceAdd, Int.reduceSub, Int.reduceMul, Int.reduceTDiv, Int.reduceTMod, Int.reduceNeg, En.bitN, Nat.testBit, Nat.reduceShiftRight, Nat.reduceShiftLeft, Nat.reduceAnd, Nat.reduceOr, Nat.reduceBNe, Int.reduceToNat, Nat.reduceSub, Int.reduceLE, Int.reduceLT] at hv
  simp only [En.at_nil, En.at_cons, En.ag_nil, En.ag_cons, and_true, tlCo25, glCoP, tyInt, tyI64, tyBool, tyErr, tyInts] at hT hG
  rw [primV] at hq
  by_cases hf : findE p = 0
  · have f0 : (findE p != 0) = false := by simp [hf]
    rw [if_neg (by simp [hf])] at hq
    by_cases hl : (xs.length : Int) = arE p
    · have f1 : ((xs.length : Int) != arE p) = false := by simp [hl]
      rw [if_neg (by simp [hl])] at hq
      cases hr : rightV xs with
      | true =>
        rw [hr, if_neg (by simp)] at hq
        have i1 : inr .i64 (sumV xs + 1) := by
          have := smT_in hr xs.length
          simp only [En.inr, En.lo, En.hi, sumV]; omega
        simp (maxSteps := 10000000) only [En.E, En.evsC, List.map_cons, List.map_nil, Nat.reduceBEq, Nat.reduceAdd, Nat.reduceMul, Nat.reduceEqDiff, Nat.reduceLeDiff, Nat.reduceLT, ne_eq, reduceCtorEq, Int.reduceBEq, Int.reduceBNe, Int.reduceAdd, Int.reduceSub, Int.reduceMul, Int.reduceTDiv, Int.reduceTMod, Int.reduceNeg, En.bitN, Nat.testBit, Nat.reduceShiftRight, Nat.reduceShiftLeft, Nat.reduceAnd, Nat.reduceOr, Nat.reduceBNe, Int.reduceToNat, Nat.reduceSub, Int.reduceLE, Int.reduceLT, En.vV, hs, hv, hT, hG, hF, gHp, spArityF_q, globR_q, h4, h3, f0, f1, spRight_q, spSum_q, getN_q, getNC_i, if_true, riR_q, smR_q, hr, hn, i1, hq]
      | false =>
        rw [hr, if_pos rfl] at hq
        simp (maxSteps := 10000000) only [En.E, En.evsC, List.map_cons, List.map_nil, Nat.reduceBEq, Nat.reduceAdd, Nat.reduceMul, Nat.reduceEqDiff, Nat.reduceLeDiff, Nat.reduceLT, ne_eq, reduceCtorEq, Int.reduceBEq, Int.reduceBNe, Int.reduceAdd, Int.reduceSub, Int.reduceMul, Int.reduceTDiv, Int.reduceTMod, Int.reduceNeg, En.bitN, Nat.testBit, Nat.reduceShiftRight, Nat.reduceShiftLeft, Nat.reduceAnd, Nat.reduceOr, Nat.reduceBNe, Int.reduceToNat, Nat.reduceSub, Int.reduceLE, Int.reduceLT, En.vV, hs, hv, hT, hG, hF, gHp, spArityF_q, globR_q, h4, h3, f0, f1, spRight_q, spSum_q, getN_q, getNC_i, if_true, riR_q, smR_q, hr, hn, hq]
    · have f1 : ((xs.length : Int) != arE p) = true := by simp [hl]
      rw [if_pos hl] at hq
      simp (maxSteps := 10000000) only [En.E, En.evsC, List.map_cons, List.map_nil, Nat.reduceBEq, Nat.reduceAdd, Nat.reduceMul, Nat.reduceEqDiff, Nat.reduceLeDiff, Nat.reduceLT, ne_eq, reduceCtorEq, Int.reduceBEq, Int.reduceBNe, Int.reduceAdd, Int.reduceSub, Int.reduceMul, Int.reduceTDiv, Int.reduceTMod, Int.reduceNeg, En.bitN, Nat.testBit, Nat.reduceShiftRight, Nat.reduceShiftLeft, Nat.reduceAnd, Nat.reduceOr, Nat.reduceBNe, Int.reduceToNat, Nat.reduceSub, Int.reduceLE, Int.reduceLT, En.vV, hs, hv, hT, hG, hF, gHp, spArityF_q, globR_q, h4, h3, f0, f1, hq]
  · have f0 : (findE p != 0) = true := by simp [hf]
    rw [if_pos hf] at hq
    simp (maxSteps := 10000000) only [En.E, En.evsC, List.map_cons, List.map_nil, Nat.reduceBEq, Nat.reduceAdd, Nat.reduceMul, Nat.reduceEqDiff, Nat.reduceLeDiff, Nat.reduceLT, ne_eq, reduceCtorEq, Int.reduceBEq, Int.reduceBNe, Int.reduceAdd, Int.reduceSub, Int.reduceMul, Int.reduceTDiv, Int.reduceTMod, Int.reduceNeg, En.bitN, Nat.testBit, Nat.reduceShiftRight, Nat.reduceShiftLeft, Nat.reduceAnd, Nat.reduceOr, Nat.reduceBNe, Int.reduceToNat, Nat.reduceSub, Int.reduceLE, Int.reduceLT, En.vV, hs, hv, hT, hG, hF, gHp, spArityF_q, globR_q, h4, h3, f0, hq]
theorem res25_any (p n : Int) (bn on cn ba oa ca : Nat) (h4 : 4 ≤ cn) (h3 : 3 ≤ ca) (w : World) (hg : allRd w.heap.size w (gHp bn on cn ba oa ca)) :
    Calls Tryz.prog 15 #[.int .i64 p, .int .i64 n] w fun e w' => e = .returned (.tuple #[.int .i64 (resV25 p n).1, .int .i64 (resV25 p n).2]) ∧ Below w.heap.size w w' := by
  obtain ⟨q, hq⟩ : ∃ q, q = resV25 p n := ⟨_, rfl⟩
  rw [← hq]
  refine calls_go (args := [.v (.int .i64 p), .v (.int .i64 n)]) (hp := gHp bn on cn ba oa ca) (nx := 1001) (n := 400) (U := []) (V := []) (tl := tlCo25) (gl := glCoP) (post := fun s ys => ys = [.v (.int .i64 q.1), .v (.int .i64 q.2)])
    followP tlCo25_ok glCoP_ok Tryz.func15 rfl (by kernel_rfl) (Nat.le_of_ble_eq_true (by kernel_rfl)) (by kernel_rfl) (by kernel_rfl) (hh_list hg) (free_list (by simp [allLt, gHp])) ?_ ?_
  · rintro s ys w' rfl H
    exact ⟨rfl, H.below⟩
  intro L F T G nd va hE
  obtain ⟨hL, hF, hs, hv, hT, hG, hR, hI, hJ, hW⟩ := hE
  rw [Tryz.results15] at hF
  simp (maxSteps := 1000000) only [En.nN, En.E, En.evsC, List.map_cons, List.map_nil, Nat.reduceBEq, Nat.reduceAdd, Nat.reduceMul, Nat.reduceEqDiff, Nat.reduceLeDiff, Nat.reduceLT, ne_eq, reduceCtorEq, Int.reduceBEq, Int.reduceBNe, Int.reduceAdd, Int.reduceSub, Int.reduceMul, Int.reduceTDiv, Int.reduceTMod, Int.reduceNeg, En.bitN, Nat.testBit, Nat.reduceShiftRight, Nat.reduceShiftLeft, Nat.reduceAnd, Nat.reduceOr, Nat.reduceBNe, Int.reduceToNat, Nat.reduceSub, Int.reduceLE, Int.reduceLT] at hv
  simp only [En.at_nil, En.at_cons, En.ag_nil, En.ag_cons, and_true, tlCo25, glCoP, tyInt, tyI64, tyBool, tyErr, tyInts] at hT hG
  rw [resV25] at hq
  have hrn : rightV [n] = !badX n := by simp [rightV]
  have gs : ∀ b, (showC b 0 1 (.blk b [.v (.int .i64 n)] 3)).bind intsOf = some [n] := fun b => by
    rw [showC, if_pos ⟨rfl, Nat.le_refl 1⟩]; rfl
  have hl1 : [n].length ≤ 1000 := (by simp)
  by_cases hf : findE p = 0
  · have f0 : (findE p != 0) = false := by simp [hf]
    rw [if_neg (by simp [hf])] at hq
    cases hb : badX n with
    | true =>
      rw [hb, if_pos rfl] at hq
      simp (maxSteps := 10000000) only [En.E, En.evsC, List.map_cons, List.map_nil, Nat.reduceBEq, Nat.reduceAdd, Nat.reduceMul, Nat.reduceEqDiff, Nat.reduceLeDiff, Nat.reduceLT, ne_eq, reduceCtorEq, Int.reduceBEq, Int.reduceBNe, Int.reduceAdd, Int.reduceSub, Int.reduceMul, Int.reduceTDiv, Int.reduceTMod, Int.reduceNeg, En.bitN, Nat.testBit, Nat.reduceShiftRight, Nat.reduceShiftLeft, Nat.reduceAnd, Nat.reduceOr, Nat.reduceBNe, Int.reduceToNat, Nat.reduceSub, Int.reduceLE, Int.reduceLT, En.vV, hs, hv, hT, hG, hF, gHp, spArityF_q, globR_q, h4, h3, f0, spRight_q, getN_gp, if_true, gs, riR_q, hrn, hb, hl1, hq]
    | false =>
      rw [hb, if_neg (by simp)] at hq
      simp (maxSteps := 10000000) only [En.E, En.evsC, List.map_cons, List.map_nil, Nat.reduceBEq, Nat.reduceAdd, Nat.reduceMul, Nat.reduceEqDiff, Nat.reduceLeDiff, Nat.reduceLT, ne_eq, reduceCtorEq, Int.reduceBEq, Int.reduceBNe, Int.reduceAdd, Int.reduceSub, Int.reduceMul, Int.reduceTDiv, Int.reduceTMod, Int.reduceNeg, En.bitN, Nat.testBit, Nat.reduceShiftRight, Nat.reduceShiftLeft, Nat.reduceAnd, Nat.reduceOr, Nat.reduceBNe, Int.reduceToNat, Nat.reduceSub, Int.reduceLE, Int.reduceLT, En.vV, hs, hv, hT, hG, hF, gHp, spArityF_q, globR_q, h4, h3, f0, spRight_q, getN_gp, if_true, gs, riR_q, hrn, hb, hl1]
      clear hL hs hv hT hG hF hR hI hJ hW
      by_cases p1 : p = 8 <;> by_cases p2 : p = 35 <;> by_cases p3 : p = 36 <;> simp_all
  · have f0 : (findE p != 0) = true := by simp [hf]
    rw [if_pos hf] at hq
    simp (maxSteps := 10000000) only [En.E, En.evsC, List.map_cons, List.map_nil, Nat.reduceBEq, Nat.reduceAdd, Nat.reduceMul, Nat.reduceEqDiff, Nat.reduceLeDiff, Nat.reduceLT, ne_eq, reduceCtorEq, Int.reduceBEq, Int.reduceBNe, Int.reduceAdd, Int.reduceSub, Int.reduceMul, Int.reduceTDiv, Int.reduceTMod, Int.reduceNeg, En.bitN, Nat.testBit, Nat.reduceShiftRight, Nat.reduceShiftLeft, Nat.reduceAnd, Nat.reduceOr, Nat.reduceBNe, Int.reduceToNat, Nat.reduceSub, Int.reduceLE, Int.reduceLT, En.vV, hs, hv, hT, hG, hF, gHp, spArityF_q, globR_q, h4, h3, f0, hq]
theorem chg_any (m k f : Int) (hm : inr .i64 m) (hk : inr .i64 k) (hf : inr .i64 f) (w : World) :
    Calls Tryz.prog 27 #[.int .i64 m, .int .i64 k, .int .i64 f] w fun e w' => e = .returned (.tuple #[.int .i64 (chgV m k f).1, .int .i64 (chgV m k f).2]) ∧ Below w.heap.size w w' := by
  obtain ⟨q, hq⟩ : ∃ q, q = chgV m k f := ⟨_, rfl⟩
  rw [← hq]
  refine calls_go (args := [.v (.int .i64 m), .v (.int .i64 k), .v (.int .i64 f)]) (hp := []) (nx := 1000) (n := 400) (U := []) (V := []) (tl := tlCo25) (gl := gl0) (post := fun s ys => ys = [.v (.int .i64 q.1), .v (.int .i64 q.2)])
    followP tlCo25_ok gl0_ok Tryz.func27 rfl (by kernel_rfl) (Nat.le_of_ble_eq_true (by kernel_rfl)) (by kernel_rfl) (by kernel_rfl) (hh_list trivial) (fun _ _ => rfl) ?_ ?_
  · rintro s ys w' rfl H
    exact ⟨rfl, H.below⟩
  intro L F T G nd va hE
  obtain ⟨hL, hF, hs, hv, hT, hG, hR, hI, hJ, hW⟩ := hE
  rw [Tryz.results27] at hF
  simp (maxSteps := 1000000) only [En.nN, En.E, En.evsC, List.map_cons, List.map_nil, Nat.reduceBEq, Nat.reduceAdd, Nat.reduceMul, Nat.reduceEqDiff, Nat.reduceLeDiff, Nat.reduceLT, ne_eq, reduceCtorEq, Int.reduceBEq, Int.reduceBNe, Int.reduceAdd, Int.reduceSub, Int.reduceMul, Int.reduceTDiv, Int.reduceTMod, Int.reduceNeg, En.bitN, Nat.testBit, Nat.reduceShiftRight, Nat.reduceShiftLeft, Nat.reduceAnd, Nat.reduceOr, Nat.reduceBNe, Int.reduceToNat, Nat.reduceSub, Int.reduceLE, Int.reduceLT] at hv
  simp only [En.at_nil, En.at_cons, En.ag_nil, En.ag_cons, and_true, tlCo25, gl0, tyInt, tyI64, tyBool, tyErr, tyInts] at hT hG
  simp (maxSteps := 10000000) only [En.E, En.evsC, List.map_cons, List.map_nil, Nat.reduceBEq, Nat.reduceAdd, Nat.reduceMul, Nat.reduceEqDiff, Nat.reduceLeDiff, Nat.reduceLT, ne_eq, reduceCtorEq, Int.reduceBEq, Int.reduceBNe, Int.reduceAdd, Int.reduceSub, Int.reduceMul, Int.reduceTDiv, Int.reduceTMod, Int.reduceNeg, En.bitN, Nat.testBit, Nat.reduceShiftRight, Nat.reduceShiftLeft, Nat.reduceAnd, Nat.reduceOr, Nat.reduceBNe, Int.reduceToNat, Nat.reduceSub, Int.reduceLE, Int.reduceLT, En.vV, hs, hv, hT, hG, hF, ]
  clear hL hs hv hT hG hF hR hI hJ hW
  rw [chgV] at hq
  simp only [En.inr, En.lo, En.hi] at hm hk hf
  by_cases a1 : m < 0 <;> by_cases a2 : k < 0 <;> by_cases a3 : f < m <;> by_cases a4 : 100000 < f <;> by_cases a5 : f - m < k <;> simp [a1, a2, a3, a4, a5, hq, En.inr, En.lo, En.hi] <;> omega
end Pr
end Go.Proofs.YtapgddiocdcaeaaGreatDoor
/-
Chapter 25: the reference's Prim; Node and Stmt, of the program and of the reference.
-/
set_option linter.unusedSimpArgs false
set_option linter.unusedVariables false
namespace Go.Proofs.YtapgddiocdcaeaaGreatDoor
namespace Pr
open Go Go.RowKit En
/-- the steps of a statement -/
def stmtV (k x : Int) : Int × Int :=
  if k < 1 ∨ 5 < k then (0, 2) else if (k = 5 ∧ (x < 2 ∨ 400 < x)) ∨ (k ≠ 5 ∧ x ≠ 0) then (0, 7) else (1 + x, 0)
end Pr
end Go.Proofs.YtapgddiocdcaeaaGreatDoor
/-
Chapter 25: Stmt of the program.
-/
set_option linter.unusedSimpArgs false
set_option linter.unusedVariables false
namespace Go.Proofs.YtapgddiocdcaeaaGreatDoor
namespace Pr
open Go Go.RowKit En
def tlSt : List (TypeId × TI) := [tyInt, tyI64, tyBool, tyErr, tyCost, tyCosts, tyStep]
theorem tlSt_ok : TyAll Tryz.prog (lookT tlSt) := tyAll_p tyInt_ok <| tyAll_p tyI64_ok <| tyAll_p tyBool_ok <| tyAll_p tyErr_ok <| tyAll_p tyCost_ok <| tyAll_p tyCosts_ok <| tyAll_p tyStep_ok tyAll_nil
def fOne : Value := .func (.func 96) #[] #[]
def fRel : Value := .func (.func 97) #[] #[]
theorem one_any (k : Int) (w : World) : Calls Tryz.prog 96 #[.int .i64 k] w fun e w' => e = .returned (.int .i64 1) ∧ Below w.heap.size w w' := by
  refine calls_go (args := [.v (.int .i64 k)]) (hp := []) (nx := 1000) (n := 100) (U := []) (V := []) (tl := tlSt) (gl := gl0) (post := fun s ys => ys = [.v (.int .i64 1)])
    followP tlSt_ok gl0_ok Tryz.func96 rfl (by kernel_rfl) (Nat.le_of_ble_eq_true (by kernel_rfl)) (by kernel_rfl) (by kernel_rfl) (hh_list trivial) (fun _ _ => rfl) ?_ ?_
  · rintro s ys w' rfl H
    exact ⟨rfl, H.below⟩
  intro L F T G nd va hE
  obtain ⟨hL, hF, hs, hv, hT, hG, hR, hI, hJ, hW⟩ := hE
  rw [Tryz.results96] at hF
  simp (maxSteps := 1000000) only [En.nN, En.E, En.evsC, List.map_cons, List.map_nil, Nat.reduceBEq, Nat.reduceAdd, Nat.reduceMul, Nat.reduceEqDiff, Nat.reduceLeDiff, Nat.reduceLT, ne_eq, reduceCtorEq, Int.reduceBEq, Int.reduceBNe, Int.reduceAdd, Int.reduceSub, Int.reduceMul, Int.reduceTDiv, Int.reduceTMod, Int.reduceNeg, En.bitN, Nat.testBit, Nat.reduceShiftRight, Nat.reduceShiftLeft, Nat.reduceAnd, Nat.reduceOr, Nat.reduceBNe, Int.reduceToNat, Nat.reduceSub, Int.reduceLE, Int.reduceLT] at hv
  simp only [En.at_nil, En.at_cons, En.ag_nil, En.ag_cons, and_true, tlSt, gl0, tyInt, tyI64, tyBool, tyErr, tyCost, tyCosts, tyStep] at hT hG
  simp (maxSteps := 10000000) only [En.E, En.evsC, List.map_cons, List.map_nil, Nat.reduceBEq, Nat.reduceAdd, Nat.reduceMul, Nat.reduceEqDiff, Nat.reduceLeDiff, Nat.reduceLT, ne_eq, reduceCtorEq, Int.reduceBEq, Int.reduceBNe, Int.reduceAdd, Int.reduceSub, Int.reduceMul, Int.reduceTDiv, Int.reduceTMod, Int.reduceNeg, En.bitN, Nat.testBit, Nat.reduceShiftRight, Nat.reduceShiftLeft, Nat.reduceAnd, Nat.reduceOr, Nat.reduceBNe, Int.reduceToNat, Nat.reduceSub, Int.reduceLE, Int.reduceLT, En.vV, hs, hv, hT, hG, hF, ]
theorem rel_any (k : Int) (hk : inr .i64 (1 + k)) (w : World) : Calls Tryz.prog 97 #[.int .i64 k] w fun e w' => e = .returned (.int .i64 (1 + k)) ∧ Below w.heap.size w w' := by
  refine calls_go (args := [.v (.int .i64 k)]) (hp := []) (nx := 1000) (n := 100) (U := []) (V := []) (tl := tlSt) (gl := gl0) (post := fun s ys => ys = [.v (.int .i64 (1 + k))])
    followP tlSt_ok gl0_ok Tryz.func97 rfl (by kernel_rfl) (Nat.le_of_ble_eq_true (by kernel_rfl)) (by kernel_rfl) (by kernel_rfl) (hh_list trivial) (fun _ _ => rfl) ?_ ?_
  · rintro s ys w' rfl H
    exact ⟨rfl, H.below⟩
  intro L F T G nd va hE
  obtain ⟨hL, hF, hs, hv, hT, hG, hR, hI, hJ, hW⟩ := hE
  rw [Tryz.results97] at hF
  simp (maxSteps := 1000000) only [En.nN, En.E, En.evsC, List.map_cons, List.map_nil, Nat.reduceBEq, Nat.reduceAdd, Nat.reduceMul, Nat.reduceEqDiff, Nat.reduceLeDiff, Nat.reduceLT, ne_eq, reduceCtorEq, Int.reduceBEq, Int.reduceBNe, Int.reduceAdd, Int.reduceSub, Int.reduceMul, Int.reduceTDiv, Int.reduceTMod, Int.reduceNeg, En.bitN, Nat.testBit, Nat.reduceShiftRight, Nat.reduceShiftLeft, Nat.reduceAnd, Nat.reduceOr, Nat.reduceBNe, Int.reduceToNat, Nat.reduceSub, Int.reduceLE, Int.reduceLT] at hv
  simp only [En.at_nil, En.at_cons, En.ag_nil, En.ag_cons, and_true, tlSt, gl0, tyInt, tyI64, tyBool, tyErr, tyCost, tyCosts, tyStep] at hT hG
  simp (maxSteps := 10000000) only [En.E, En.evsC, List.map_cons, List.map_nil, Nat.reduceBEq, Nat.reduceAdd, Nat.reduceMul, Nat.reduceEqDiff, Nat.reduceLeDiff, Nat.reduceLT, ne_eq, reduceCtorEq, Int.reduceBEq, Int.reduceBNe, Int.reduceAdd, Int.reduceSub, Int.reduceMul, Int.reduceTDiv, Int.reduceTMod, Int.reduceNeg, En.bitN, Nat.testBit, Nat.reduceShiftRight, Nat.reduceShiftLeft, Nat.reduceAnd, Nat.reduceOr, Nat.reduceBNe, Int.reduceToNat, Nat.reduceSub, Int.reduceLE, Int.reduceLT, En.vV, hs, hv, hT, hG, hF, hk]
def spOne : Spc
  | [.v (.int .i64 k)], _, _ => .is (True) (.v (.int .i64 1))
  | _, _, _ => .bad
theorem spOne_q {k : Int} {H : Nat → Ch} {nx : Nat} : spOne [.v (.int .i64 k)] H nx = .is (True) (.v (.int .i64 1)) := (rfl)
theorem spOne_ok : SpecOk Tryz.prog 96 spOne := specOk_is fun args H nx => by
  unfold spOne; split
  · exact fun _ w => one_any _ w
  · trivial
def spRel : Spc
  | [.v (.int .i64 k)], _, _ => .is (inr .i64 (1 + k)) (.v (.int .i64 (1 + k)))
  | _, _, _ => .bad
theorem spRel_q {k : Int} {H : Nat → Ch} {nx : Nat} : spRel [.v (.int .i64 k)] H nx = .is (inr .i64 (1 + k)) (.v (.int .i64 (1 + k))) := (rfl)
theorem spRel_ok : SpecOk Tryz.prog 97 spRel := specOk_is fun args H nx => by
  unfold spRel; split
  · exact fun h w => rel_any _ h w
  · trivial
def costC : Nat → List SV
  | 0 => [.v (.int .i64 1), .v (.int .i64 0), .v (.int .i64 0), .v fOne]
  | 1 => [.v (.int .i64 2), .v (.int .i64 0), .v (.int .i64 0), .v fOne]
  | 2 => [.v (.int .i64 3), .v (.int .i64 0), .v (.int .i64 0), .v fOne]
  | 3 => [.v (.int .i64 4), .v (.int .i64 0), .v (.int .i64 0), .v fOne]
  | _ => [.v (.int .i64 5), .v (.int .i64 2), .v (.int .i64 400), .v fRel]
def costL : List SV := costC 0 ++ costC 1 ++ costC 2 ++ costC 3 ++ costC 4
theorem costs_any (w : World) : Calls Tryz.prog 57 #[] w fun e w' => ∃ b, e = .returned (.slice (some ⟨b, 0, none⟩) 5 5) ∧ Below w.heap.size w w' ∧ Hold w.heap.size w' (.blk b costL 92) := by
  refine calls_go (args := []) (hp := []) (nx := 1000) (n := 200) (U := []) (V := []) (tl := tlSt) (gl := gl0) (post := fun s ys => ∃ k b, ys = [.gp k b 0 5 5] ∧ lookH s.hp k = .blk b costL 92)
    followP tlSt_ok gl0_ok Tryz.func57 rfl (by kernel_rfl) (Nat.le_of_ble_eq_true (by kernel_rfl)) (by kernel_rfl) (by kernel_rfl) (hh_list trivial) (fun _ _ => rfl) ?_ ?_
  · rintro s ys w' ⟨k, b, rfl, hk⟩ H
    exact ⟨b, rfl, H.below, hk ▸ H.hold k⟩
  intro L F T G nd va hE
  obtain ⟨hL, hF, hs, hv, hT, hG, hR, hI, hJ, hW⟩ := hE
  rw [Tryz.results57] at hF
  simp (maxSteps := 1000000) only [En.nN, En.E, En.evsC, List.map_cons, List.map_nil, Nat.reduceBEq, Nat.reduceAdd, Nat.reduceMul, Nat.reduceEqDiff, Nat.reduceLeDiff, Nat.reduceLT, ne_eq, reduceCtorEq, Int.reduceBEq, Int.reduceBNe, Int.reduceAdd, Int.reduceSub, Int.reduceMul, Int.reduceTDiv, Int.reduceTMod, Int.reduceNeg, En.bitN, Nat.testBit, Nat.reduceShiftRight, Nat.reduceShiftLeft, Nat.reduceAnd, Nat.reduceOr, Nat.reduceBNe, Int.reduceToNat, Nat.reduceSub, Int.reduceLE, Int.reduceLT] at hv
  simp only [En.at_nil, En.at_cons, En.ag_nil, En.ag_cons, and_true, tlSt, gl0, tyInt, tyI64, tyBool, tyErr, tyCost, tyCosts, tyStep] at hT hG
  simp (maxSteps := 10000000) only [En.E, En.evsC, List.map_cons, List.map_nil, Nat.reduceBEq, Nat.reduceAdd, Nat.reduceMul, Nat.reduceEqDiff, Nat.reduceLeDiff, Nat.reduceLT, ne_eq, reduceCtorEq, Int.reduceBEq, Int.reduceBNe, Int.reduceAdd, Int.reduceSub, Int.reduceMul, Int.reduceTDiv, Int.reduceTMod, Int.reduceNeg, En.bitN, Nat.testBit, Nat.reduceShiftRight, Nat.reduceShiftLeft, Nat.reduceAnd, Nat.reduceOr, Nat.reduceBNe, Int.reduceToNat, Nat.reduceSub, Int.reduceLE, Int.reduceLT, En.vV, hs, hv, hT, hG, hF, ]
  exact fun b => ⟨1000, b, rfl, rfl⟩
theorem costs_recs {B : Nat} {w : World} {b : Nat} {t : TypeId} (h : Hold B w (.blk b costL t)) : Hold B w (.recs (some ⟨b, 0, none⟩) 5 4 5 costC) := by
  obtain ⟨h1, h2⟩ := h
  refine ⟨⟨Nat.le_refl 5, fun _ => ⟨b, 0, rfl, (Array.getElem?_eq_some_iff.1 h2).1, fun i hi j hj => ?_⟩⟩, fun i hi => ?_⟩
  · have key : (dens costL)[i * 4 + j]? = some ((dens (costC i)).getD j undef) := by
      have hi' : i = 0 ∨ i = 1 ∨ i = 2 ∨ i = 3 ∨ i = 4 := by omega
      have hj' : j = 0 ∨ j = 1 ∨ j = 2 ∨ j = 3 := by omega
      rcases hi' with rfl | rfl | rfl | rfl | rfl <;> rcases hj' with rfl | rfl | rfl | rfl <;> rfl
    simp [World.cell?, h2, key]
  · have hi' : i = 0 ∨ i = 1 ∨ i = 2 ∨ i = 3 ∨ i = 4 := by omega
    rcases hi' with rfl | rfl | rfl | rfl | rfl <;> rfl
def spCosts : Spc
  | [], _, nx => .val True fun A c => (.g nx A 5 c, [(nx, .recs A c 4 5 costC)])
  | _, _, _ => .bad
theorem spCosts_q {H : Nat → Ch} {nx : Nat} : spCosts [] H nx = .val True fun A c => (.g nx A 5 c, [(nx, .recs A c 4 5 costC)]) := rfl
theorem spCosts_ok : SpecOk Tryz.prog 57 spCosts := by
  intro args hp nx w0 O w H hv
  unfold spCosts at hv ⊢
  split at hv
  · refine (costs_any w).mono ?_
    rintro e w' ⟨b, rfl, hb, hh⟩
    refine ⟨⟨0, some ⟨b, 0, none⟩, 5, none, 0, mz⟩, rfl, Stp.rd hb ⟨⟨costs_recs (B := w0.heap.size) ⟨Nat.le_trans H.below.size hh.1, hh.2⟩, rfl⟩, trivial⟩ fun k b' hf => .inl ?_⟩
    refine foot_look (Q := fun b => w.heap.size ≤ b) (l := [(_, _)]) ⟨?_, trivial⟩ hf
    rintro _ ⟨_, a, h, rfl⟩; cases h; exact hh.1
  · exact hv.elim
def glSt : List (FuncId × Spc) := [(57, spCosts), (96, spOne), (97, spRel)]
theorem glSt_ok : GOk Tryz.prog (lookG glSt) := lG_cons (by kernel_rfl) spCosts_ok <| lG_cons (by kernel_rfl) spOne_ok <| lG_cons (by kernel_rfl) spRel_ok lG_nil
set_option maxRecDepth 100000 in
set_option maxHeartbeats 4000000 in
theorem stmt_any (k x : Int) (hx : inr .i64 x) (w : World) : Calls Tryz.prog 30 #[.int .i64 k, .int .i64 x] w fun e w' => e = .returned (.tuple #[.int .i64 (stmtV k x).1, .int .i64 (stmtV k x).2]) ∧ Below w.heap.size w w' := by
  obtain ⟨q, hq⟩ : ∃ q, q = stmtV k x := ⟨_, rfl⟩
  rw [← hq]
  refine calls_go (args := [.v (.int .i64 k), .v (.int .i64 x)]) (hp := []) (nx := 1000) (n := 900) (U := [(2, 7), (1000000, 35)]) (V := []) (tl := tlSt) (gl := glSt) (post := fun s ys => ys = [.v (.int .i64 q.1), .v (.int .i64 q.2)])
    followP tlSt_ok glSt_ok Tryz.func30 rfl (by kernel_rfl) (Nat.le_of_ble_eq_true (by kernel_rfl)) (by kernel_rfl) (by kernel_rfl) (hh_list trivial) (fun _ _ => rfl) ?_ ?_
  · rintro s ys w' rfl H
    exact ⟨rfl, H.below⟩
  intro L F T G nd va hE
  obtain ⟨hL, hF, hs, hv, hT, hG, hR, hI, hJ, hW⟩ := hE
  rw [Tryz.results30] at hF
  simp (maxSteps := 1000000) only [En.nN, En.E, En.evsC, List.map_cons, List.map_nil, Nat.reduceBEq, Nat.reduceAdd, Nat.reduceMul, Nat.reduceEqDiff, Nat.reduceLeDiff, Nat.reduceLT, ne_eq, reduceCtorEq, Int.reduceBEq, Int.reduceBNe, Int.reduceAdd, Int.reduceSub, Int.reduceMul, Int.reduceTDiv, Int.reduceTMod, Int.reduceNeg, En.bitN, Nat.testBit, Nat.reduceShiftRight, Nat.reduceShiftLeft, Nat.reduceAnd, Nat.reduceOr, Nat.reduceBNe, Int.reduceToNat, Nat.reduceSub, Int.reduceLE, Int.reduceLT] at hv
  simp only [En.at_nil, En.at_cons, En.ag_nil, En.ag_cons, and_true, tlSt, glSt, tyInt, tyI64, tyBool, tyErr, tyCost, tyCosts, tyStep] at hT hG
  rw [stmtV] at hq
  have j1 : inr .i64 (1 : Int) := by simp only [En.inr, En.lo, En.hi]; omega
  have j2 : inr .i64 (2 : Int) := by simp only [En.inr, En.lo, En.hi]; omega
  have j3 : inr .i64 (3 : Int) := by simp only [En.inr, En.lo, En.hi]; omega
  have j4 : inr .i64 (4 : Int) := by simp only [En.inr, En.lo, En.hi]; omega
  have j5 : inr .i64 (5 : Int) := by simp only [En.inr, En.lo, En.hi]; omega
  by_cases hk : k < 1 ∨ 5 < k
  · have b1 : ((1 : Int) != k) = true := by simp; omega
    have b2 : ((2 : Int) != k) = true := by simp; omega
    have b3 : ((3 : Int) != k) = true := by simp; omega
    have b4 : ((4 : Int) != k) = true := by simp; omega
    have b5 : ((5 : Int) != k) = true := by simp; omega
    rw [if_pos hk] at hq
    simp (maxSteps := 10000000) only [En.E, En.evsC, List.map_cons, List.map_nil, Nat.reduceBEq, Nat.reduceAdd, Nat.reduceMul, Nat.reduceEqDiff, Nat.reduceLeDiff, Nat.reduceLT, ne_eq, reduceCtorEq, Int.reduceBEq, Int.reduceBNe, Int.reduceAdd, Int.reduceSub, Int.reduceMul, Int.reduceTDiv, Int.reduceTMod, Int.reduceNeg, En.bitN, Nat.testBit, Nat.reduceShiftRight, Nat.reduceShiftLeft, Nat.reduceAnd, Nat.reduceOr, Nat.reduceBNe, Int.reduceToNat, Nat.reduceSub, Int.reduceLE, Int.reduceLT, En.vV, hs, hv, hT, hG, hF, spCosts_q, costC, fOne, fRel, spOne_q, spRel_q, j1, j2, j3, j4, j5, b1, b2, b3, b4, b5, hq]
  · have hk' : k = 1 ∨ k = 2 ∨ k = 3 ∨ k = 4 ∨ k = 5 := by omega
    rw [if_neg hk] at hq
    by_cases h5 : k = 5
    · subst h5
      by_cases hb : x < 2 ∨ 400 < x
      · rw [if_pos (by omega)] at hq
        have hd : (bif decide (x < 2) then true else decide (x > 400)) = true := by
          rcases hb with h | h
          · rw [decide_eq_true h]; rfl
          · rw [decide_eq_true (show x > 400 from h)]; cases decide (x < 2) <;> rfl
        simp (maxSteps := 10000000) only [En.E, En.evsC, List.map_cons, List.map_nil, Nat.reduceBEq, Nat.reduceAdd, Nat.reduceMul, Nat.reduceEqDiff, Nat.reduceLeDiff, Nat.reduceLT, ne_eq, reduceCtorEq, Int.reduceBEq, Int.reduceBNe, Int.reduceAdd, Int.reduceSub, Int.reduceMul, Int.reduceTDiv, Int.reduceTMod, Int.reduceNeg, En.bitN, Nat.testBit, Nat.reduceShiftRight, Nat.reduceShiftLeft, Nat.reduceAnd, Nat.reduceOr, Nat.reduceBNe, Int.reduceToNat, Nat.reduceSub, Int.reduceLE, Int.reduceLT, En.vV, hs, hv, hT, hG, hF, spCosts_q, costC, fOne, fRel, spOne_q, spRel_q, j1, j2, j3, j4, j5, hd, hq]
        exact fun h => by rw [h]; rfl
      · rw [if_neg (by omega)] at hq
        have hd1 : decide (x < 2) = false := decide_eq_false (by omega)
        have hd2 : decide (x > 400) = false := decide_eq_false (by omega)
        have i1 : inr .i64 (1 + x) := by simp only [En.inr, En.lo, En.hi]; omega
        simp (maxSteps := 10000000) only [En.E, En.evsC, List.map_cons, List.map_nil, Nat.reduceBEq, Nat.reduceAdd, Nat.reduceMul, Nat.reduceEqDiff, Nat.reduceLeDiff, Nat.reduceLT, ne_eq, reduceCtorEq, Int.reduceBEq, Int.reduceBNe, Int.reduceAdd, Int.reduceSub, Int.reduceMul, Int.reduceTDiv, Int.reduceTMod, Int.reduceNeg, En.bitN, Nat.testBit, Nat.reduceShiftRight, Nat.reduceShiftLeft, Nat.reduceAnd, Nat.reduceOr, Nat.reduceBNe, Int.reduceToNat, Nat.reduceSub, Int.reduceLE, Int.reduceLT, En.vV, hs, hv, hT, hG, hF, spCosts_q, costC, fOne, fRel, spOne_q, spRel_q, j1, j2, j3, j4, j5, hd1, hd2, i1, hq]
    · by_cases hx0 : x = 0
      · subst hx0
        rw [if_neg (by omega)] at hq
        rcases hk' with rfl | rfl | rfl | rfl | rfl
        · simp (maxSteps := 10000000) only [En.E, En.evsC, List.map_cons, List.map_nil, Nat.reduceBEq, Nat.reduceAdd, Nat.reduceMul, Nat.reduceEqDiff, Nat.reduceLeDiff, Nat.reduceLT, ne_eq, reduceCtorEq, Int.reduceBEq, Int.reduceBNe, Int.reduceAdd, Int.reduceSub, Int.reduceMul, Int.reduceTDiv, Int.reduceTMod, Int.reduceNeg, En.bitN, Nat.testBit, Nat.reduceShiftRight, Nat.reduceShiftLeft, Nat.reduceAnd, Nat.reduceOr, Nat.reduceBNe, Int.reduceToNat, Nat.reduceSub, Int.reduceLE, Int.reduceLT, En.vV, hs, hv, hT, hG, hF, spCosts_q, costC, fOne, fRel, spOne_q, spRel_q, j1, j2, j3, j4, j5, hq]
        · simp (maxSteps := 10000000) only [En.E, En.evsC, List.map_cons, List.map_nil, Nat.reduceBEq, Nat.reduceAdd, Nat.reduceMul, Nat.reduceEqDiff, Nat.reduceLeDiff, Nat.reduceLT, ne_eq, reduceCtorEq, Int.reduceBEq, Int.reduceBNe, Int.reduceAdd, Int.reduceSub, Int.reduceMul, Int.reduceTDiv, Int.reduceTMod, Int.reduceNeg, En.bitN, Nat.testBit, Nat.reduceShiftRight, Nat.reduceShiftLeft, Nat.reduceAnd, Nat.reduceOr, Nat.reduceBNe, Int.reduceToNat, Nat.reduceSub, Int.reduceLE, Int.reduceLT, En.vV, hs, hv, hT, hG, hF, spCosts_q, costC, fOne, fRel, spOne_q, spRel_q, j1, j2, j3, j4, j5, hq]
        · simp (maxSteps := 10000000) only [En.E, En.evsC, List.map_cons, List.map_nil, Nat.reduceBEq, Nat.reduceAdd, Nat.reduceMul, Nat.reduceEqDiff, Nat.reduceLeDiff, Nat.reduceLT, ne_eq, reduceCtorEq, Int.reduceBEq, Int.reduceBNe, Int.reduceAdd, Int.reduceSub, Int.reduceMul, Int.reduceTDiv, Int.reduceTMod, Int.reduceNeg, En.bitN, Nat.testBit, Nat.reduceShiftRight, Nat.reduceShiftLeft, Nat.reduceAnd, Nat.reduceOr, Nat.reduceBNe, Int.reduceToNat, Nat.reduceSub, Int.reduceLE, Int.reduceLT, En.vV, hs, hv, hT, hG, hF, spCosts_q, costC, fOne, fRel, spOne_q, spRel_q, j1, j2, j3, j4, j5, hq]
        · simp (maxSteps := 10000000) only [En.E, En.evsC, List.map_cons, List.map_nil, Nat.reduceBEq, Nat.reduceAdd, Nat.reduceMul, Nat.reduceEqDiff, Nat.reduceLeDiff, Nat.reduceLT, ne_eq, reduceCtorEq, Int.reduceBEq, Int.reduceBNe, Int.reduceAdd, Int.reduceSub, Int.reduceMul, Int.reduceTDiv, Int.reduceTMod, Int.reduceNeg, En.bitN, Nat.testBit, Nat.reduceShiftRight, Nat.reduceShiftLeft, Nat.reduceAnd, Nat.reduceOr, Nat.reduceBNe, Int.reduceToNat, Nat.reduceSub, Int.reduceLE, Int.reduceLT, En.vV, hs, hv, hT, hG, hF, spCosts_q, costC, fOne, fRel, spOne_q, spRel_q, j1, j2, j3, j4, j5, hq]
        · exact absurd rfl h5
      · rw [if_pos (by omega)] at hq
        have hd : (bif decide (x < 0) then true else decide (x > 0)) = true := by
          by_cases h : x < 0
          · rw [decide_eq_true h]; rfl
          · rw [decide_eq_true (show x > 0 by omega)]; cases decide (x < 0) <;> rfl
        rcases hk' with rfl | rfl | rfl | rfl | rfl
        · simp (maxSteps := 10000000) only [En.E, En.evsC, List.map_cons, List.map_nil, Nat.reduceBEq, Nat.reduceAdd, Nat.reduceMul, Nat.reduceEqDiff, Nat.reduceLeDiff, Nat.reduceLT, ne_eq, reduceCtorEq, Int.reduceBEq, Int.reduceBNe, Int.reduceAdd, Int.reduceSub, Int.reduceMul, Int.reduceTDiv, Int.reduceTMod, Int.reduceNeg, En.bitN, Nat.testBit, Nat.reduceShiftRight, Nat.reduceShiftLeft, Nat.reduceAnd, Nat.reduceOr, Nat.reduceBNe, Int.reduceToNat, Nat.reduceSub, Int.reduceLE, Int.reduceLT, En.vV, hs, hv, hT, hG, hF, spCosts_q, costC, fOne, fRel, spOne_q, spRel_q, j1, j2, j3, j4, j5, hd, hq]
          exact fun h => by rw [h]; rfl
        · simp (maxSteps := 10000000) only [En.E, En.evsC, List.map_cons, List.map_nil, Nat.reduceBEq, Nat.reduceAdd, Nat.reduceMul, Nat.reduceEqDiff, Nat.reduceLeDiff, Nat.reduceLT, ne_eq, reduceCtorEq, Int.reduceBEq, Int.reduceBNe, Int.reduceAdd, Int.reduceSub, Int.reduceMul, Int.reduceTDiv, Int.reduceTMod, Int.reduceNeg, En.bitN, Nat.testBit, Nat.reduceShiftRight, Nat.reduceShiftLeft, Nat.reduceAnd, Nat.reduceOr, Nat.reduceBNe, Int.reduceToNat, Nat.reduceSub, Int.reduceLE, Int.reduceLT, En.vV, hs, hv, hT, hG, hF, spCosts_q, costC, fOne, fRel, spOne_q, spRel_q, j1, j2, j3, j4, j5, hd, hq]
          exact fun h => by rw [h]; rfl
        · simp (maxSteps := 10000000) only [En.E, En.evsC, List.map_cons, List.map_nil, Nat.reduceBEq, Nat.reduceAdd, Nat.reduceMul, Nat.reduceEqDiff, Nat.reduceLeDiff, Nat.reduceLT, ne_eq, reduceCtorEq, Int.reduceBEq, Int.reduceBNe, Int.reduceAdd, Int.reduceSub, Int.reduceMul, Int.reduceTDiv, Int.reduceTMod, Int.reduceNeg, En.bitN, Nat.testBit, Nat.reduceShiftRight, Nat.reduceShiftLeft, Nat.reduceAnd, Nat.reduceOr, Nat.reduceBNe, Int.reduceToNat, Nat.reduceSub, Int.reduceLE, Int.reduceLT, En.vV, hs, hv, hT, hG, hF, spCosts_q, costC, fOne, fRel, spOne_q, spRel_q, j1, j2, j3, j4, j5, hd, hq]
          exact fun h => by rw [h]; rfl
        · simp (maxSteps := 10000000) only [En.E, En.evsC, List.map_cons, List.map_nil, Nat.reduceBEq, Nat.reduceAdd, Nat.reduceMul, Nat.reduceEqDiff, Nat.reduceLeDiff, Nat.reduceLT, ne_eq, reduceCtorEq, Int.reduceBEq, Int.reduceBNe, Int.reduceAdd, Int.reduceSub, Int.reduceMul, Int.reduceTDiv, Int.reduceTMod, Int.reduceNeg, En.bitN, Nat.testBit, Nat.reduceShiftRight, Nat.reduceShiftLeft, Nat.reduceAnd, Nat.reduceOr, Nat.reduceBNe, Int.reduceToNat, Nat.reduceSub, Int.reduceLE, Int.reduceLT, En.vV, hs, hv, hT, hG, hF, spCosts_q, costC, fOne, fRel, spOne_q, spRel_q, j1, j2, j3, j4, j5, hd, hq]
          exact fun h => by rw [h]; rfl
        · exact absurd rfl h5
end Pr
end Go.Proofs.YtapgddiocdcaeaaGreatDoor
