/-
What Fits finds among lines is what the reference says (chapter 12).
-/
import Derived.Test.YtaelfhjdmljblaaGreatDoorPa6
set_option linter.unusedSimpArgs false
set_option linter.unusedVariables false
namespace Go.Proofs.YtaelfhjdmljblaaGreatDoor
namespace Pr
open Go Go.RowKit En
def rFitsF (p : Int) (ks rs : List Int) : Int × Int × Int := if rKinds p ks = true then (if rRanks p rs < 0 then (0, 0, 22) else (rKind p ks, rRanks p rs, 0)) else (0, 0, 21)
set_option maxRecDepth 10000 in
set_option maxHeartbeats 4000000 in
theorem fitsF1 (p : Int) (hp : 1 ≤ p ∧ p ≤ 14) (k r : Int) : fitsF [k] [r] (linesAt p) 21 = rFitsF p [k] [r] := by
  have hc : p = 1 ∨ p = 2 ∨ p = 3 ∨ p = 4 ∨ p = 5 ∨ p = 6 ∨ p = 7 ∨ p = 8 ∨ p = 9 ∨ p = 10 ∨ p = 11 ∨ p = 12 ∨ p = 13 ∨ p = 14 := by omega
  rcases hc with rfl | rfl | rfl | rfl | rfl | rfl | rfl | rfl | rfl | rfl | rfl | rfl | rfl | rfl
  all_goals
    simp [linesAt, pLines, fitsF, matchM, matchF, stepM, rFitsF, rKinds, rInts, okK, rRanks, rTab1, badR, pickRank, rKind, Bool.cond_eq_ite]
    try grind
set_option maxRecDepth 10000 in
set_option maxHeartbeats 4000000 in
theorem fitsF2 (p : Int) (hp : 15 ≤ p ∧ p ≤ 40) (k l r s : Int) : fitsF [k, l] [r, s] (linesAt p) 21 = rFitsF p [k, l] [r, s] := by
  have hc : p = 15 ∨ p = 16 ∨ p = 17 ∨ p = 18 ∨ p = 19 ∨ p = 20 ∨ p = 21 ∨ p = 22 ∨ p = 23 ∨ p = 24 ∨ p = 25 ∨ p = 26 ∨ p = 27 ∨ p = 28 ∨ p = 29 ∨ p = 30 ∨ p = 31 ∨ p = 32 ∨ p = 33 ∨ p = 34 ∨ p = 35 ∨ p = 36 ∨ p = 37 ∨ p = 38 ∨ p = 39 ∨ p = 40 := by omega
  rcases hc with rfl | rfl | rfl | rfl | rfl | rfl | rfl | rfl | rfl | rfl | rfl | rfl | rfl | rfl | rfl | rfl | rfl | rfl | rfl | rfl | rfl | rfl | rfl | rfl | rfl | rfl
  all_goals
    simp [linesAt, pLines, fitsF, matchM, matchF, stepM, rFitsF, rKinds, rInts, okK, rRanks, rTab2, badR, pickRank, rKind, Bool.cond_eq_ite]
    try grind
end Pr
end Go.Proofs.YtaelfhjdmljblaaGreatDoor
/-
The reference's Fits (chapter 12): its contract; the program's is the same.
-/
set_option linter.unusedSimpArgs false
set_option linter.unusedVariables false
namespace Go.Proofs.YtaelfhjdmljblaaGreatDoor
namespace Pr
open Go Go.RowKit En
def kOk (p : Int) (ks : List Int) : Prop := (1 ≤ p ∧ p ≤ 14 ∧ ks.length = 1) ∨ (15 ≤ p ∧ p ≤ 40 ∧ ks.length = 2)
theorem fits_val {p : Int} {ks rs : List Int} (h : known40 p = true) (h1 : (ks.length : Int) = arityOf p) (h2 : (rs.length : Int) = arityOf p) : kOk p ks ∧ kOk p rs ∧ fitsV p ks rs = rFitsF p ks rs := by
  obtain ⟨_, _, l1, l2⟩ := known_yes h
  have ha := arE_val h
  rw [show arE p = arityOf p from if_pos h] at ha
  unfold fitsV
  rw [if_pos h, if_pos ⟨h1, h2⟩]
  rw [ha] at h1 h2
  by_cases hp : p ≤ 14
  · rw [if_pos hp] at h1 h2
    have h1 : ks.length = 1 := by omega
    have h2 : rs.length = 1 := by omega
    refine ⟨.inl ⟨l1, hp, h1⟩, .inl ⟨l1, hp, h2⟩, ?_⟩
    match ks, rs, h1, h2 with
    | [k], [r], _, _ => exact fitsF1 p ⟨l1, hp⟩ k r
  · rw [if_neg hp] at h1 h2
    have h1 : ks.length = 2 := by omega
    have h2 : rs.length = 2 := by omega
    refine ⟨.inr ⟨by omega, l2, h1⟩, .inr ⟨by omega, l2, h2⟩, ?_⟩
    match ks, rs, h1, h2 with
    | [k, l], [r, s], _, _ => exact fitsF2 p ⟨by omega, l2⟩ k l r s
end Pr
end Go.Proofs.YtaelfhjdmljblaaGreatDoor
/-
The reference's Errors; Same of two lists of errors (chapter 12).
-/
set_option linter.unusedSimpArgs false
set_option linter.unusedVariables false
namespace Go.Proofs.YtaelfhjdmljblaaGreatDoor
namespace Pr
open Go Go.RowKit En
/-- two lists that are the same -/
theorem same12 (xs : List Int) (hl : xs.length ≤ 3) (A B : Option Addr) (c d : Nat) (w : World) (ha : Hold w.heap.size w (.ints A c .i64 xs)) (hb : Hold w.heap.size w (.ints B d .i64 xs)) :
    Calls Tryz.prog 29 #[.slice A xs.length c, .slice B xs.length d] w fun e w' => e = .returned (.bool true) ∧ Below w.heap.size w w' := by
  refine calls_run (args := [.g 1000 A xs.length c, .g 1001 B xs.length d]) (hp := [(1000, .ints A c .i64 xs), (1001, .ints B d .i64 xs)]) (nx := 1002) (n := 400) (U := [(4, 4), (1000000, 6)]) (V := []) (T := lookT tiFits) (G := gnil) (post := fun s ys => ys = [.v (.bool true)])
    followP tiFits_ok gOk_nil Tryz.func29 rfl (by kernel_rfl) (by show 2 ≤ 26; decide) (hh_list ⟨⟨ha, rfl⟩, ⟨hb, rfl⟩, trivial⟩) (free_list (by simp [allLt])) ?_ ?_
  · rintro s ys w' rfl H
    exact ⟨rfl, H.below⟩
  rw [Tryz.results29]
  match xs, hl with
  | [], _ => simp (maxSteps := 1000000) only [En.evs0, En.evs1, En.evs2, En.evs3, En.evs4, En.evs5, En.evs6, En.evs7, En.evs8, En.evs9, En.evs10, En.evs11, En.evx0, List.toList_toArray, cond_true, cond_false, Nat.reduceBEq, Nat.reduceAdd, Nat.reduceMul, Nat.reduceEqDiff, Nat.reduceLeDiff, Nat.reduceLT, Bool.true_and, Bool.and_true, Bool.false_and, Bool.and_false, true_and, and_true, and_self, ne_eq, not_false_eq_true, reduceCtorEq, Bool.not_true, Bool.not_false, true_implies, not_true_eq_false, false_or, or_false, true_or, or_true, List.nil_append, List.cons_append, List.append_nil, List.map_cons, List.map_nil, Nat.le_refl, eq_self, forall_const, decide_true, decide_false, beq_self_eq_true, bne_self_eq_false, beq_true, beq_false, imp_self, Bool.true_beq, Bool.false_beq, Bool.bne_true, Bool.bne_false, Bool.true_bne, Bool.false_bne, Int.cast_ofNat_Int, Int.natCast_zero, Int.natCast_one, Int.reduceBEq, Int.reduceBNe, Int.reduceAdd, Int.reduceSub, Int.reduceMul, Int.reduceTDiv, Int.reduceTMod, Int.reduceNeg, Nat.add_sub_cancel_left, Nat.sub_self, Nat.le_add_right, List.append_eq, List.getD_cons_zero, List.getD_cons_succ, implies_true, false_implies, Bool.not_not, Bool.or_true, Bool.true_or, Bool.or_false, Bool.false_or, En.bitN, Nat.testBit, Nat.reduceShiftRight, Nat.reduceShiftLeft, Nat.reduceAnd, Nat.reduceOr, Nat.reduceBNe, Nat.zero_or, Nat.or_zero, Nat.sub_zero, Int.reduceToNat, Nat.reduceSub, Nat.zero_add, Nat.add_zero, List.length_cons, List.length_nil, Nat.zero_mul, Nat.reduceLeDiff, Int.reduceLE, Int.reduceLT, List.cons_ne_nil, tiFits, tiT, tiP]
  | [x], _ =>
    simp (maxSteps := 1000000) only [En.evs0, En.evs1, En.evs2, En.evs3, En.evs4, En.evs5, En.evs6, En.evs7, En.evs8, En.evs9, En.evs10, En.evs11, En.evx0, List.toList_toArray, cond_true, cond_false, Nat.reduceBEq, Nat.reduceAdd, Nat.reduceMul, Nat.reduceEqDiff, Nat.reduceLeDiff, Nat.reduceLT, Bool.true_and, Bool.and_true, Bool.false_and, Bool.and_false, true_and, and_true, and_self, ne_eq, not_false_eq_true, reduceCtorEq, Bool.not_true, Bool.not_false, true_implies, not_true_eq_false, false_or, or_false, true_or, or_true, List.nil_append, List.cons_append, List.append_nil, List.map_cons, List.map_nil, Nat.le_refl, eq_self, forall_const, decide_true, decide_false, beq_self_eq_true, bne_self_eq_false, beq_true, beq_false, imp_self, Bool.true_beq, Bool.false_beq, Bool.bne_true, Bool.bne_false, Bool.true_bne, Bool.false_bne, Int.cast_ofNat_Int, Int.natCast_zero, Int.natCast_one, Int.reduceBEq, Int.reduceBNe, Int.reduceAdd, Int.reduceSub, Int.reduceMul, Int.reduceTDiv, Int.reduceTMod, Int.reduceNeg, Nat.add_sub_cancel_left, Nat.sub_self, Nat.le_add_right, List.append_eq, List.getD_cons_zero, List.getD_cons_succ, implies_true, false_implies, Bool.not_not, Bool.or_true, Bool.true_or, Bool.or_false, Bool.false_or, En.bitN, Nat.testBit, Nat.reduceShiftRight, Nat.reduceShiftLeft, Nat.reduceAnd, Nat.reduceOr, Nat.reduceBNe, Nat.zero_or, Nat.or_zero, Nat.sub_zero, Int.reduceToNat, Nat.reduceSub, Nat.zero_add, Nat.add_zero, List.length_cons, List.length_nil, Nat.zero_mul, Nat.reduceLeDiff, Int.reduceLE, Int.reduceLT, List.cons_ne_nil, tiFits, tiT, tiP]
    simp [En.inr, En.lo, En.hi]
  | [x, y], _ =>
    simp (maxSteps := 1000000) only [En.evs0, En.evs1, En.evs2, En.evs3, En.evs4, En.evs5, En.evs6, En.evs7, En.evs8, En.evs9, En.evs10, En.evs11, En.evx0, List.toList_toArray, cond_true, cond_false, Nat.reduceBEq, Nat.reduceAdd, Nat.reduceMul, Nat.reduceEqDiff, Nat.reduceLeDiff, Nat.reduceLT, Bool.true_and, Bool.and_true, Bool.false_and, Bool.and_false, true_and, and_true, and_self, ne_eq, not_false_eq_true, reduceCtorEq, Bool.not_true, Bool.not_false, true_implies, not_true_eq_false, false_or, or_false, true_or, or_true, List.nil_append, List.cons_append, List.append_nil, List.map_cons, List.map_nil, Nat.le_refl, eq_self, forall_const, decide_true, decide_false, beq_self_eq_true, bne_self_eq_false, beq_true, beq_false, imp_self, Bool.true_beq, Bool.false_beq, Bool.bne_true, Bool.bne_false, Bool.true_bne, Bool.false_bne, Int.cast_ofNat_Int, Int.natCast_zero, Int.natCast_one, Int.reduceBEq, Int.reduceBNe, Int.reduceAdd, Int.reduceSub, Int.reduceMul, Int.reduceTDiv, Int.reduceTMod, Int.reduceNeg, Nat.add_sub_cancel_left, Nat.sub_self, Nat.le_add_right, List.append_eq, List.getD_cons_zero, List.getD_cons_succ, implies_true, false_implies, Bool.not_not, Bool.or_true, Bool.true_or, Bool.or_false, Bool.false_or, En.bitN, Nat.testBit, Nat.reduceShiftRight, Nat.reduceShiftLeft, Nat.reduceAnd, Nat.reduceOr, Nat.reduceBNe, Nat.zero_or, Nat.or_zero, Nat.sub_zero, Int.reduceToNat, Nat.reduceSub, Nat.zero_add, Nat.add_zero, List.length_cons, List.length_nil, Nat.zero_mul, Nat.reduceLeDiff, Int.reduceLE, Int.reduceLT, List.cons_ne_nil, tiFits, tiT, tiP]
    simp [En.inr, En.lo, En.hi]
  | [x, y, z], _ =>
    simp (maxSteps := 1000000) only [En.evs0, En.evs1, En.evs2, En.evs3, En.evs4, En.evs5, En.evs6, En.evs7, En.evs8, En.evs9, En.evs10, En.evs11, En.evx0, List.toList_toArray, cond_true, cond_false, Nat.reduceBEq, Nat.reduceAdd, Nat.reduceMul, Nat.reduceEqDiff, Nat.reduceLeDiff, Nat.reduceLT, Bool.true_and, Bool.and_true, Bool.false_and, Bool.and_false, true_and, and_true, and_self, ne_eq, not_false_eq_true, reduceCtorEq, Bool.not_true, Bool.not_false, true_implies, not_true_eq_false, false_or, or_false, true_or, or_true, List.nil_append, List.cons_append, List.append_nil, List.map_cons, List.map_nil, Nat.le_refl, eq_self, forall_const, decide_true, decide_false, beq_self_eq_true, bne_self_eq_false, beq_true, beq_false, imp_self, Bool.true_beq, Bool.false_beq, Bool.bne_true, Bool.bne_false, Bool.true_bne, Bool.false_bne, Int.cast_ofNat_Int, Int.natCast_zero, Int.natCast_one, Int.reduceBEq, Int.reduceBNe, Int.reduceAdd, Int.reduceSub, Int.reduceMul, Int.reduceTDiv, Int.reduceTMod, Int.reduceNeg, Nat.add_sub_cancel_left, Nat.sub_self, Nat.le_add_right, List.append_eq, List.getD_cons_zero, List.getD_cons_succ, implies_true, false_implies, Bool.not_not, Bool.or_true, Bool.true_or, Bool.or_false, Bool.false_or, En.bitN, Nat.testBit, Nat.reduceShiftRight, Nat.reduceShiftLeft, Nat.reduceAnd, Nat.reduceOr, Nat.reduceBNe, Nat.zero_or, Nat.or_zero, Nat.sub_zero, Int.reduceToNat, Nat.reduceSub, Nat.zero_add, Nat.add_zero, List.length_cons, List.length_nil, Nat.zero_mul, Nat.reduceLeDiff, Int.reduceLE, Int.reduceLT, List.cons_ne_nil, tiFits, tiT, tiP]
    simp [En.inr, En.lo, En.hi]
def sameRR : Option (List Int) → Option (List Int) → Res
  | some xs, some ys => .is (xs = ys ∧ xs.length ≤ 3) (.v (.bool true))
  | _, _ => .bad
def spSame12 : Spc
  | [x, y], H, _ => sameRR (getN H x) (getN H y)
  | _, _, _ => .bad
theorem spSame12_q {x y : SV} {H : Nat → Ch} {nx : Nat} : spSame12 [x, y] H nx = sameRR (getN H x) (getN H y) := (rfl)
theorem sameRR_q {xs ys : List Int} : sameRR (some xs) (some ys) = .is (xs = ys ∧ xs.length ≤ 3) (.v (.bool true)) := (rfl)
theorem spSame12_ok : SpecOk Tryz.prog 29 spSame12 := by
  intro args hp nx w0 O w H hv
  match args, hv with
  | [x, y], hv =>
    rw [spSame12_q] at hv ⊢
    cases hX : getN (lookH hp) x with
    | none => rw [hX] at hv; exact hv.elim
    | some xs =>
      cases hY : getN (lookH hp) y with
      | none => rw [hX, hY] at hv; exact hv.elim
      | some ys =>
        rw [hX, hY] at hv
        obtain ⟨rfl, hl⟩ := hv
        obtain ⟨A, c, e1, s1, _⟩ := getN_ok H hX
        obtain ⟨B, d, e2, s2, _⟩ := getN_ok H hY
        rw [show dens [x, y] = [Value.slice A xs.length c, .slice B xs.length d] by simp [dens, e1, e2]]
        refine (same12 xs hl A B c d w s1 s2).mono ?_
        rintro e w' ⟨rfl, hb⟩
        exact ⟨⟨0, none, 0, none, 0, mz⟩, rfl, .still hb⟩
end Pr
end Go.Proofs.YtaelfhjdmljblaaGreatDoor
