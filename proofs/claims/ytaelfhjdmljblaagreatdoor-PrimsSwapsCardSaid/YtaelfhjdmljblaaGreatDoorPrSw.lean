/-
Fits does not mind the order of operands of a primitive of two numbers (chapter 12).
-/
import Derived.Test.YtaelfhjdmljblaaGreatDoorPa8
import Derived.Test.YtaelfhjdmljblaaGreatDoorPrU4
set_option linter.unusedSimpArgs false
set_option linter.unusedVariables false
namespace Go.Proofs.YtaelfhjdmljblaaGreatDoor
namespace Pr
open Go Go.RowKit En
theorem known_in {p : Int} (h1 : 1 ≤ p) (h2 : p ≤ 40) : known40 p = true := by unfold known40; simp; omega
theorem arity2 {p : Int} (h1 : 15 ≤ p) (h2 : p ≤ 40) : arityOf p = 2 := by
  have hk := known_in (p := p) (by omega) h2
  have := arE_val hk
  rw [show arE p = arityOf p from if_pos hk, if_neg (by omega)] at this
  exact this
theorem fitsV2 {p : Int} (h1 : 15 ≤ p) (h2 : p ≤ 40) (k l r s : Int) : fitsV p [k, l] [r, s] = rFitsF p [k, l] [r, s] :=
  (fits_val (known_in (by omega) h2) (by rw [arity2 h1 h2]; rfl) (by rw [arity2 h1 h2]; rfl)).2.2
set_option maxHeartbeats 2000000 in
theorem fits_swap (p : Int) (h : (15 ≤ p ∧ p ≤ 32) ∨ p = 37) (k l r s : Int) : fitsV p [l, k] [s, r] = fitsV p [k, l] [r, s] := by
  rw [fitsV2 (by omega) (by omega), fitsV2 (by omega) (by omega)]
  have hc : p = 15 ∨ p = 16 ∨ p = 17 ∨ p = 18 ∨ p = 19 ∨ p = 20 ∨ p = 21 ∨ p = 22 ∨ p = 23 ∨ p = 24 ∨ p = 25 ∨ p = 26 ∨ p = 27 ∨ p = 28 ∨ p = 29 ∨ p = 30 ∨ p = 31 ∨ p = 32 ∨ p = 37 := by omega
  rcases hc with rfl | rfl | rfl | rfl | rfl | rfl | rfl | rfl | rfl | rfl | rfl | rfl | rfl | rfl | rfl | rfl | rfl | rfl | rfl
  all_goals
    simp [rFitsF, rKinds, rInts, okK, rRanks, rTab2, badR, pickRank, rKind, Bool.cond_eq_ite]
    try grind
theorem take_at (k l r s : Int) : (fitsV 33 [k, l] [r, s]).2.2 ≠ 0 ∨ (fitsV 38 [k, l] [r, s]).2.2 ≠ 0 := by
  rw [fitsV2 (by decide) (by decide), fitsV2 (by decide) (by decide)]
  simp [rFitsF, rKinds, rInts, okK, rRanks, rTab2, badR, pickRank, rKind, Bool.cond_eq_ite]
  grind
def tiSw : List (TypeId × TI) := (45, ⟨true, true, 4, [.v (.int .u8 0), .v (.int .u8 0), .v (.int .u8 0), .v (.int .u8 0)], [], 5, 4, 1, 2, 1⟩) :: (5, ⟨true, false, 1, [.v (.int .u8 0)], [], 0, 0, 0, 14, 0⟩) :: tiAw
theorem tiSw_ok : TyAll Tryz.prog (lookT tiSw) :=
  tyAll_cons (.mk' (by kernel_rfl) (by kernel_rfl) (by decide) (by decide) (by kernel_rfl) (by kernel_rfl)) <|
  tyAll_cons (.mk' (by kernel_rfl) (by kernel_rfl) (by decide) (by decide) (by kernel_rfl) (by kernel_rfl)) tiAw_ok
def gamSw : Gam := gcons 12 spFits (gcons 11 spAwake12 gnil)
theorem gamSw_ok : GOk Tryz.prog gamSw := gOk_cons (by kernel_rfl) spFits_ok <| gOk_cons (by kernel_rfl) spAwake12_ok gOk_nil
set_option maxRecDepth 100000 in
set_option maxHeartbeats 8000000 in
theorem swaps_walk (x0 x1 x2 x3 : Int) (b0 : 0 ≤ x0 ∧ x0 ≤ 255) (b1 : 0 ≤ x1 ∧ x1 ≤ 255) (b2 : 0 ≤ x2 ∧ x2 ≤ 255) (b3 : 0 ≤ x3 ∧ x3 ≤ 255) (bn on cn ba oa ca : Nat) (h4 : 4 ≤ cn) (h3 : 3 ≤ ca) (w : World) (hg : allRd w.heap.size w (gHp bn on cn ba oa ca)) :
    Calls Tryz.prog 8 #[.agg #[.int .u8 x0, .int .u8 x1, .int .u8 x2, .int .u8 x3]] w fun e w' => e = .returned (.bool true) ∧ Below w.heap.size w w' := by
  refine calls_run (args := [.agg [.v (.int .u8 x0), .v (.int .u8 x1), .v (.int .u8 x2), .v (.int .u8 x3)]]) (hp := gHp bn on cn ba oa ca) (nx := 1000) (n := 4000) (U := [(4, 19), (1000000, 26)]) (V := []) (T := lookT tiSw) (G := gamSw) (post := fun s ys => ys = [.v (.bool true)])
    followP tiSw_ok gamSw_ok Tryz.func8 rfl (by kernel_rfl) (by show 1 ≤ 143; decide) (hh_list hg) (free_list (by simp [allLt, gHp])) ?_ ?_
  · rintro s ys w' rfl H
    exact ⟨rfl, H.below⟩
  rw [Tryz.results8]
  have sw : ∀ p : Int, ((15 ≤ p ∧ p ≤ 32) ∨ p = 37) → fitsV p [x1.tmod 2 + 1, x0.tmod 2 + 1] [x3.tmod 3, x2.tmod 3] = fitsV p [x0.tmod 2 + 1, x1.tmod 2 + 1] [x2.tmod 3, x3.tmod 3] := fun p h => fits_swap p h _ _ _ _
  have s15 := sw 15 (by decide)
  have s16 := sw 16 (by decide)
  have s17 := sw 17 (by decide)
  have s18 := sw 18 (by decide)
  have s19 := sw 19 (by decide)
  have s20 := sw 20 (by decide)
  have s21 := sw 21 (by decide)
  have s22 := sw 22 (by decide)
  have s23 := sw 23 (by decide)
  have s24 := sw 24 (by decide)
  have s25 := sw 25 (by decide)
  have s26 := sw 26 (by decide)
  have s27 := sw 27 (by decide)
  have s28 := sw 28 (by decide)
  have s29 := sw 29 (by decide)
  have s30 := sw 30 (by decide)
  have s31 := sw 31 (by decide)
  have s32 := sw 32 (by decide)
  have s37 := sw 37 (by decide)
  have td : ∀ (x m : Int), 0 ≤ x → 0 < m → 0 ≤ x.tmod m ∧ x.tmod m < m := fun x m h1 h2 => ⟨Int.tmod_nonneg _ h1, Int.tmod_lt_of_pos _ h2⟩
  have u0 := td x0 2 b0.1 (by decide)
  have u1 := td x1 2 b1.1 (by decide)
  have u2 := td x2 3 b2.1 (by decide)
  have u3 := td x3 3 b3.1 (by decide)
  have i0 : inr .i64 (x0.tmod 2) := by simp only [En.inr, En.lo, En.hi]; omega
  have i0' : inr .i64 (x0.tmod 2 + 1) := by simp only [En.inr, En.lo, En.hi]; omega
  have i1 : inr .i64 (x1.tmod 2) := by simp only [En.inr, En.lo, En.hi]; omega
  have i1' : inr .i64 (x1.tmod 2 + 1) := by simp only [En.inr, En.lo, En.hi]; omega
  have i2 : inr .i64 (x2.tmod 3) := by simp only [En.inr, En.lo, En.hi]; omega
  have i3 : inr .i64 (x3.tmod 3) := by simp only [En.inr, En.lo, En.hi]; omega
  have ta := take_at (x0.tmod 2 + 1) (x1.tmod 2 + 1) (x2.tmod 3) (x3.tmod 3)
  simp (maxSteps := 10000000) only [En.evs0, En.evs1, En.evs2, En.evs3, En.evs4, En.evs5, En.evs6, En.evs7, En.evs8, En.evs9, En.evx0, List.toList_toArray, cond_true, cond_false, Nat.reduceBEq, Nat.reduceAdd, Nat.reduceMul, Nat.reduceEqDiff, Nat.reduceLeDiff, Nat.reduceLT, Bool.true_and, Bool.and_true, Bool.false_and, Bool.and_false, true_and, and_true, and_self, ne_eq, not_false_eq_true, reduceCtorEq, Bool.not_true, Bool.not_false, true_implies, not_true_eq_false, false_or, or_false, true_or, or_true, List.nil_append, List.cons_append, List.append_nil, List.map_cons, List.map_nil, Nat.le_refl, eq_self, forall_const, decide_true, decide_false, beq_self_eq_true, bne_self_eq_false, beq_true, beq_false, imp_self, Bool.true_beq, Bool.false_beq, Bool.bne_true, Bool.bne_false, Bool.true_bne, Bool.false_bne, Int.cast_ofNat_Int, Int.natCast_zero, Int.natCast_one, Int.reduceBEq, Int.reduceBNe, Int.reduceAdd, Int.reduceSub, Int.reduceMul, Int.reduceTDiv, Int.reduceTMod, Int.reduceNeg, Nat.add_sub_cancel_left, Nat.sub_self, Nat.le_add_right, List.append_eq, List.getD_cons_zero, List.getD_cons_succ, implies_true, false_implies, Bool.not_not, Bool.or_true, Bool.true_or, Bool.or_false, Bool.false_or, En.bitN, Nat.testBit, Nat.reduceShiftRight, Nat.reduceShiftLeft, Nat.reduceAnd, Nat.reduceOr, Nat.reduceBNe, Nat.zero_or, Nat.or_zero, Nat.sub_zero, Int.reduceToNat, Nat.reduceSub, Nat.zero_add, Nat.add_zero, List.length_cons, List.length_nil, Nat.zero_mul, Nat.reduceLeDiff, Int.reduceLE, Int.reduceLT, List.cons_ne_nil, tiSw, tiAw, tiDo, tiFits, tiT, tiP, gamSw, spFits_q, spAwake12_q, fitsR_q, getN_q, getN_gp, getNC_i, globR_q, gHp, h4, h3, if_true, and_self, showC, intsOf, Option.bind_some, Option.map_some, Nat.reduceAdd, Nat.zero_add, true_and, i0, i0', i1, i1', i2, i3, s15, s16, s17, s18, s19, s20, s21, s22, s23, s24, s25, s26, s27, s28, s29, s30, s31, s32, s37]
  have hf : (bif (bif (fitsV 33 [x0.tmod 2 + 1, x1.tmod 2 + 1] [x2.tmod 3, x3.tmod 3]).2.2 != 0 then true else (fitsV 38 [x0.tmod 2 + 1, x1.tmod 2 + 1] [x2.tmod 3, x3.tmod 3]).2.2 != 0) then true else false) = true := by
    rcases ta with h | h
    · rw [show ((fitsV 33 [x0.tmod 2 + 1, x1.tmod 2 + 1] [x2.tmod 3, x3.tmod 3]).2.2 != 0) = true by simpa using h]; rfl
    · rw [show ((fitsV 38 [x0.tmod 2 + 1, x1.tmod 2 + 1] [x2.tmod 3, x3.tmod 3]).2.2 != 0) = true by simpa using h]
      cases (fitsV 33 [x0.tmod 2 + 1, x1.tmod 2 + 1] [x2.tmod 3, x3.tmod 3]).2.2 != 0 <;> rfl
  simp only [hf]
  simp [En.inr, En.lo, En.hi]
end Pr
end Go.Proofs.YtaelfhjdmljblaaGreatDoor
