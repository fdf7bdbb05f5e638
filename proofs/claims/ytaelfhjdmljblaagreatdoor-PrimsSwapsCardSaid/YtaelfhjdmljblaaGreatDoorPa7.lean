/-
What Fits finds among lines is what the reference says (chapter 12).
-/
import Derived.Test.YtaelfhjdmljblaaGreatDoorPa6
set_option linter.unusedSimpArgs false
set_option linter.unusedVariables false
namespace Go.Proofs.YtaelfhjdmljblaaGreatDoor
namespace Pr
open Go Go.RowKit En
def rFitsF (p : Int) (ks rs : List Int) : Int × Int × Int := if rKinds p ks = true then (if rRanks p rs < 0 then (0, 0, 22) else (rKind p ks, rRanks p rs, 0)) else (0, 0, 21)
set_option maxRecDepth 10000 in
set_option maxHeartbeats 4000000 in
theorem fitsF1 (p : Int) (hp : 1 ≤ p ∧ p ≤ 14) (k r : Int) : fitsF [k] [r] (linesAt p) 21 = rFitsF p [k] [r] := by
  have hc : p = 1 ∨ p = 2 ∨ p = 3 ∨ p = 4 ∨ p = 5 ∨ p = 6 ∨ p = 7 ∨ p = 8 ∨ p = 9 ∨ p = 10 ∨ p = 11 ∨ p = 12 ∨ p = 13 ∨ p = 14 := by omega
  rcases hc with rfl | rfl | rfl | rfl | rfl | rfl | rfl | rfl | rfl | rfl | rfl | rfl | rfl | rfl
  all_goals
    simp [linesAt, pLines, fitsF, matchM, matchF, stepM, rFitsF, rKinds, rInts, okK, rRanks, rTab1, badR, pickRank, rKind, Bool.cond_eq_ite]
    try grind
set_option maxRecDepth 10000 in
set_option maxHeartbeats 4000000 in
theorem fitsF2 (p : Int) (hp : 15 ≤ p ∧ p ≤ 40) (k l r s : Int) : fitsF [k, l] [r, s] (linesAt p) 21 = rFitsF p [k, l] [r, s] := by
  have hc : p = 15 ∨ p = 16 ∨ p = 17 ∨ p = 18 ∨ p = 19 ∨ p = 20 ∨ p = 21 ∨ p = 22 ∨ p = 23 ∨ p = 24 ∨ p = 25 ∨ p = 26 ∨ p = 27 ∨ p = 28 ∨ p = 29 ∨ p = 30 ∨ p = 31 ∨ p = 32 ∨ p = 33 ∨ p = 34 ∨ p = 35 ∨ p = 36 ∨ p = 37 ∨ p = 38 ∨ p = 39 ∨ p = 40 := by omega
  rcases hc with rfl | rfl | rfl | rfl | rfl | rfl | rfl | rfl | rfl | rfl | rfl | rfl | rfl | rfl | rfl | rfl | rfl | rfl | rfl | rfl | rfl | rfl | rfl | rfl | rfl | rfl
  all_goals
    simp [linesAt, pLines, fitsF, matchM, matchF, stepM, rFitsF, rKinds, rInts, okK, rRanks, rTab2, badR, pickRank, rKind, Bool.cond_eq_ite]
    try grind
end Pr
end Go.Proofs.YtaelfhjdmljblaaGreatDoor
/-
The reference's Fits (chapter 12): its contract; the program's is the same.
-/
set_option linter.unusedSimpArgs false
set_option linter.unusedVariables false
namespace Go.Proofs.YtaelfhjdmljblaaGreatDoor
namespace Pr
open Go Go.RowKit En
def kOk (p : Int) (ks : List Int) : Prop := (1 ≤ p ∧ p ≤ 14 ∧ ks.length = 1) ∨ (15 ≤ p ∧ p ≤ 40 ∧ ks.length = 2)
def RKsR (p : Int) : Option (List Int) → Res
  | some ks => .is (kOk p ks) (.v (.bool (rKinds p ks)))
  | none => .bad
def spRKs : Spc
  | [.v (.int .i64 p), K], H, _ => RKsR p (getN H K)
  | _, _, _ => .bad
theorem spRKs_q {p : Int} {K : SV} {H : Nat → Ch} {nx : Nat} : spRKs [.v (.int .i64 p), K] H nx = RKsR p (getN H K) := (rfl)
theorem RKsR_q {p : Int} {ks : List Int} : RKsR p (some ks) = .is (kOk p ks) (.v (.bool (rKinds p ks))) := (rfl)
theorem spRKs_ok : SpecOk Tryz.prog 34 spRKs := by
  intro args hp nx w0 O w H hv
  unfold spRKs at hv ⊢
  split at hv
  · next p K =>
    cases hK : getN (lookH hp) K with
    | none => rw [hK] at hv; exact hv.elim
    | some ks =>
      rw [hK] at hv
      obtain ⟨A, c, e1, s1, _⟩ := getN_ok H hK
      rw [show dens [.v (.int .i64 p), K] = [Value.int .i64 p, .slice A ks.length c] by simp [dens, den, e1]]
      have key : Calls Tryz.prog 34 #[.int .i64 p, .slice A ks.length c] w fun e w' => e = .returned (.bool (rKinds p ks)) ∧ Below w.heap.size w w' := by
        rcases hv with ⟨h1, h2, h3⟩ | ⟨h1, h2, h3⟩
        · match ks, h3, s1 with
          | [k], _, s1 => exact rkinds1 p k ⟨h1, h2⟩ A c w s1
        · match ks, h3, s1 with
          | [k, l], _, s1 => exact rkinds2 p k l ⟨h1, h2⟩ A c w s1
      refine key.mono ?_
      rintro e w' ⟨rfl, hb⟩
      exact ⟨⟨0, none, 0, none, 0, mz⟩, rfl, .still hb⟩
  · exact hv.elim
def RRsR (p : Int) : Option (List Int) → Res
  | some ks => .is (kOk p ks) (.v (.int .i64 (rRanks p ks)))
  | none => .bad
def spRRs : Spc
  | [.v (.int .i64 p), K], H, _ => RRsR p (getN H K)
  | _, _, _ => .bad
theorem spRRs_q {p : Int} {K : SV} {H : Nat → Ch} {nx : Nat} : spRRs [.v (.int .i64 p), K] H nx = RRsR p (getN H K) := (rfl)
theorem RRsR_q {p : Int} {ks : List Int} : RRsR p (some ks) = .is (kOk p ks) (.v (.int .i64 (rRanks p ks))) := (rfl)
theorem spRRs_ok : SpecOk Tryz.prog 35 spRRs := by
  intro args hp nx w0 O w H hv
  unfold spRRs at hv ⊢
  split at hv
  · next p K =>
    cases hK : getN (lookH hp) K with
    | none => rw [hK] at hv; exact hv.elim
    | some ks =>
      rw [hK] at hv
      obtain ⟨A, c, e1, s1, _⟩ := getN_ok H hK
      rw [show dens [.v (.int .i64 p), K] = [Value.int .i64 p, .slice A ks.length c] by simp [dens, den, e1]]
      have key : Calls Tryz.prog 35 #[.int .i64 p, .slice A ks.length c] w fun e w' => e = .returned (.int .i64 (rRanks p ks)) ∧ Below w.heap.size w w' := by
        rcases hv with ⟨h1, h2, h3⟩ | ⟨h1, h2, h3⟩
        · match ks, h3, s1 with
          | [k], _, s1 => exact rranks1 p k ⟨h1, h2⟩ A c w s1
        · match ks, h3, s1 with
          | [k, l], _, s1 => exact rranks2 p k l ⟨h1, h2⟩ A c w s1
      refine key.mono ?_
      rintro e w' ⟨rfl, hb⟩
      exact ⟨⟨0, none, 0, none, 0, mz⟩, rfl, .still hb⟩
  · exact hv.elim
def RKdR (p : Int) : Option (List Int) → Res
  | some ks => .is (kOk p ks) (.v (.int .i64 (rKind p ks)))
  | none => .bad
def spRKd : Spc
  | [.v (.int .i64 p), K], H, _ => RKdR p (getN H K)
  | _, _, _ => .bad
theorem spRKd_q {p : Int} {K : SV} {H : Nat → Ch} {nx : Nat} : spRKd [.v (.int .i64 p), K] H nx = RKdR p (getN H K) := (rfl)
theorem RKdR_q {p : Int} {ks : List Int} : RKdR p (some ks) = .is (kOk p ks) (.v (.int .i64 (rKind p ks))) := (rfl)
theorem spRKd_ok : SpecOk Tryz.prog 36 spRKd := by
  intro args hp nx w0 O w H hv
  unfold spRKd at hv ⊢
  split at hv
  · next p K =>
    cases hK : getN (lookH hp) K with
    | none => rw [hK] at hv; exact hv.elim
    | some ks =>
      rw [hK] at hv
      obtain ⟨A, c, e1, s1, _⟩ := getN_ok H hK
      rw [show dens [.v (.int .i64 p), K] = [Value.int .i64 p, .slice A ks.length c] by simp [dens, den, e1]]
      have key : Calls Tryz.prog 36 #[.int .i64 p, .slice A ks.length c] w fun e w' => e = .returned (.int .i64 (rKind p ks)) ∧ Below w.heap.size w w' := by
        rcases hv with ⟨h1, h2, h3⟩ | ⟨h1, h2, h3⟩
        · match ks, h3, s1 with
          | [k], _, s1 => exact rkind1 p k ⟨h1, h2⟩ A c w s1
        · match ks, h3, s1 with
          | [k, l], _, s1 => exact rkind2 p k l ⟨h1, h2⟩ A c w s1
      refine key.mono ?_
      rintro e w' ⟨rfl, hb⟩
      exact ⟨⟨0, none, 0, none, 0, mz⟩, rfl, .still hb⟩
  · exact hv.elim
def spRAr : Spc
  | [.v (.int .i64 p)], _, _ => .is True (.tup [.v (.int .i64 (arE p)), .v (.int .i64 (findE p))])
  | _, _, _ => .bad
theorem spRAr_q {p : Int} {H : Nat → Ch} {nx : Nat} : spRAr [.v (.int .i64 p)] H nx = .is True (.tup [.v (.int .i64 (arE p)), .v (.int .i64 (findE p))]) := (rfl)
theorem spRAr_ok : SpecOk Tryz.prog 27 spRAr := by
  intro args hp nx w0 O w H hv
  unfold spRAr at hv ⊢
  split at hv
  · next p =>
    refine (rArity_any p w).mono ?_
    rintro e w' ⟨rfl, hb⟩
    exact ⟨⟨0, none, 0, none, 0, mz⟩, rfl, .still hb⟩
  · exact hv.elim
def gamRF : Gam := gcons 27 spRAr (gcons 34 spRKs (gcons 35 spRRs (gcons 36 spRKd gnil)))
theorem gamRF_ok : GOk Tryz.prog gamRF := gOk_cons (by kernel_rfl) spRAr_ok <| gOk_cons (by kernel_rfl) spRKs_ok <| gOk_cons (by kernel_rfl) spRRs_ok <| gOk_cons (by kernel_rfl) spRKd_ok gOk_nil
theorem fits_val {p : Int} {ks rs : List Int} (h : known40 p = true) (h1 : (ks.length : Int) = arityOf p) (h2 : (rs.length : Int) = arityOf p) : kOk p ks ∧ kOk p rs ∧ fitsV p ks rs = rFitsF p ks rs := by
  obtain ⟨_, _, l1, l2⟩ := known_yes h
  have ha := arE_val h
  rw [show arE p = arityOf p from if_pos h] at ha
  unfold fitsV
  rw [if_pos h, if_pos ⟨h1, h2⟩]
  rw [ha] at h1 h2
  by_cases hp : p ≤ 14
  · rw [if_pos hp] at h1 h2
    have h1 : ks.length = 1 := by omega
    have h2 : rs.length = 1 := by omega
    refine ⟨.inl ⟨l1, hp, h1⟩, .inl ⟨l1, hp, h2⟩, ?_⟩
    match ks, rs, h1, h2 with
    | [k], [r], _, _ => exact fitsF1 p ⟨l1, hp⟩ k r
  · rw [if_neg hp] at h1 h2
    have h1 : ks.length = 2 := by omega
    have h2 : rs.length = 2 := by omega
    refine ⟨.inr ⟨by omega, l2, h1⟩, .inr ⟨by omega, l2, h2⟩, ?_⟩
    match ks, rs, h1, h2 with
    | [k, l], [r, s], _, _ => exact fitsF2 p ⟨by omega, l2⟩ k l r s
set_option maxRecDepth 100000 in
set_option maxHeartbeats 4000000 in
theorem rFits_any (p : Int) (ks rs : List Int) (A B : Option Addr) (c d : Nat) (w : World) (ha : Hold w.heap.size w (.ints A c .i64 ks)) (hb : Hold w.heap.size w (.ints B d .i64 rs)) :
    Calls Tryz.prog 13 #[.int .i64 p, .slice A ks.length c, .slice B rs.length d] w fun e w' => e = .returned (.tuple #[.int .i64 (fitsV p ks rs).1, .int .i64 (fitsV p ks rs).2.1, .int .i64 (fitsV p ks rs).2.2]) ∧ Below w.heap.size w w' := by
  obtain ⟨r, hr⟩ : ∃ r, r = fitsV p ks rs := ⟨_, rfl⟩
  rw [← hr]
  refine calls_run (args := [.v (.int .i64 p), .g 1000 A ks.length c, .g 1001 B rs.length d]) (hp := [(1000, .ints A c .i64 ks), (1001, .ints B d .i64 rs)]) (nx := 1002) (n := 400) (U := []) (V := []) (T := lookT tiFits) (G := gamRF) (post := fun s ys => ys = [.v (.int .i64 r.1), .v (.int .i64 r.2.1), .v (.int .i64 r.2.2)])
    followP tiFits_ok gamRF_ok Tryz.func13 rfl (by kernel_rfl) (by show 3 ≤ 43; decide) (hh_list ⟨⟨ha, rfl⟩, ⟨hb, rfl⟩, trivial⟩) (free_list (by simp [allLt])) ?_ ?_
  · rintro s ys w' rfl H
    exact ⟨rfl, H.below⟩
  rw [Tryz.results13]
  cases hk : known40 p
  · have hf := findE_no hk
    unfold fitsV at hr
    rw [hk, if_neg (by decide)] at hr
    simp (maxSteps := 1000000) only [En.evs0, En.evs1, En.evs2, En.evs3, En.evs4, En.evs5, En.evs6, En.evs7, En.evs8, En.evs9, En.evx0, List.toList_toArray, cond_true, cond_false, Nat.reduceBEq, Nat.reduceAdd, Nat.reduceMul, Nat.reduceEqDiff, Nat.reduceLeDiff, Nat.reduceLT, Bool.true_and, Bool.and_true, Bool.false_and, Bool.and_false, true_and, and_true, and_self, ne_eq, not_false_eq_true, reduceCtorEq, Bool.not_true, Bool.not_false, true_implies, not_true_eq_false, false_or, or_false, true_or, or_true, List.nil_append, List.cons_append, List.append_nil, List.map_cons, List.map_nil, Nat.le_refl, eq_self, forall_const, decide_true, decide_false, beq_self_eq_true, bne_self_eq_false, beq_true, beq_false, imp_self, Bool.true_beq, Bool.false_beq, Bool.bne_true, Bool.bne_false, Bool.true_bne, Bool.false_bne, Int.cast_ofNat_Int, Int.natCast_zero, Int.natCast_one, Int.reduceBEq, Int.reduceBNe, Int.reduceAdd, Int.reduceSub, Int.reduceMul, Int.reduceTDiv, Int.reduceTMod, Int.reduceNeg, Nat.add_sub_cancel_left, Nat.sub_self, Nat.le_add_right, List.append_eq, List.getD_cons_zero, List.getD_cons_succ, implies_true, false_implies, Bool.not_not, Bool.or_true, Bool.true_or, Bool.or_false, Bool.false_or, En.bitN, Nat.testBit, Nat.reduceShiftRight, Nat.reduceShiftLeft, Nat.reduceAnd, Nat.reduceOr, Nat.reduceBNe, Nat.zero_or, Nat.or_zero, Nat.sub_zero, Int.reduceToNat, Nat.reduceSub, Nat.zero_add, Nat.add_zero, List.length_cons, List.length_nil, Nat.zero_mul, Nat.reduceLeDiff, Int.reduceLE, Int.reduceLT, List.cons_ne_nil, tiFits, tiT, tiP, gamRF, spRAr_q, hf, hr]
  · have hf := findE_yes hk
    have hE : arE p = arityOf p := if_pos hk
    by_cases e1 : (ks.length : Int) = arityOf p
    · have d1 : ((ks.length : Int) != arityOf p) = false := by simpa using e1
      by_cases e2 : (rs.length : Int) = arityOf p
      · have d2 : ((rs.length : Int) != arityOf p) = false := by simpa using e2
        obtain ⟨k1, k2, hv⟩ := fits_val hk e1 e2
        rw [hv] at hr
        unfold rFitsF at hr
        cases hK : rKinds p ks
        · rw [hK, if_neg (by decide)] at hr
          simp (maxSteps := 1000000) only [En.evs0, En.evs1, En.evs2, En.evs3, En.evs4, En.evs5, En.evs6, En.evs7, En.evs8, En.evs9, En.evx0, List.toList_toArray, cond_true, cond_false, Nat.reduceBEq, Nat.reduceAdd, Nat.reduceMul, Nat.reduceEqDiff, Nat.reduceLeDiff, Nat.reduceLT, Bool.true_and, Bool.and_true, Bool.false_and, Bool.and_false, true_and, and_true, and_self, ne_eq, not_false_eq_true, reduceCtorEq, Bool.not_true, Bool.not_false, true_implies, not_true_eq_false, false_or, or_false, true_or, or_true, List.nil_append, List.cons_append, List.append_nil, List.map_cons, List.map_nil, Nat.le_refl, eq_self, forall_const, decide_true, decide_false, beq_self_eq_true, bne_self_eq_false, beq_true, beq_false, imp_self, Bool.true_beq, Bool.false_beq, Bool.bne_true, Bool.bne_false, Bool.true_bne, Bool.false_bne, Int.cast_ofNat_Int, Int.natCast_zero, Int.natCast_one, Int.reduceBEq, Int.reduceBNe, Int.reduceAdd, Int.reduceSub, Int.reduceMul, Int.reduceTDiv, Int.reduceTMod, Int.reduceNeg, Nat.add_sub_cancel_left, Nat.sub_self, Nat.le_add_right, List.append_eq, List.getD_cons_zero, List.getD_cons_succ, implies_true, false_implies, Bool.not_not, Bool.or_true, Bool.true_or, Bool.or_false, Bool.false_or, En.bitN, Nat.testBit, Nat.reduceShiftRight, Nat.reduceShiftLeft, Nat.reduceAnd, Nat.reduceOr, Nat.reduceBNe, Nat.zero_or, Nat.or_zero, Nat.sub_zero, Int.reduceToNat, Nat.reduceSub, Nat.zero_add, Nat.add_zero, List.length_cons, List.length_nil, Nat.zero_mul, Nat.reduceLeDiff, Int.reduceLE, Int.reduceLT, List.cons_ne_nil, tiFits, tiT, tiP, gamRF, spRAr_q, spRKs_q, RKsR_q, getN_q, getNC_i, if_true, and_self, hf, hE, d1, d2, hK, hr, k1]
        · rw [hK, if_pos rfl] at hr
          by_cases hR : rRanks p rs < 0
          · rw [if_pos hR] at hr
            have hR' : decide (rRanks p rs < 0) = true := by simpa using hR
            simp (maxSteps := 1000000) only [En.evs0, En.evs1, En.evs2, En.evs3, En.evs4, En.evs5, En.evs6, En.evs7, En.evs8, En.evs9, En.evx0, List.toList_toArray, cond_true, cond_false, Nat.reduceBEq, Nat.reduceAdd, Nat.reduceMul, Nat.reduceEqDiff, Nat.reduceLeDiff, Nat.reduceLT, Bool.true_and, Bool.and_true, Bool.false_and, Bool.and_false, true_and, and_true, and_self, ne_eq, not_false_eq_true, reduceCtorEq, Bool.not_true, Bool.not_false, true_implies, not_true_eq_false, false_or, or_false, true_or, or_true, List.nil_append, List.cons_append, List.append_nil, List.map_cons, List.map_nil, Nat.le_refl, eq_self, forall_const, decide_true, decide_false, beq_self_eq_true, bne_self_eq_false, beq_true, beq_false, imp_self, Bool.true_beq, Bool.false_beq, Bool.bne_true, Bool.bne_false, Bool.true_bne, Bool.false_bne, Int.cast_ofNat_Int, Int.natCast_zero, Int.natCast_one, Int.reduceBEq, Int.reduceBNe, Int.reduceAdd, Int.reduceSub, Int.reduceMul, Int.reduceTDiv, Int.reduceTMod, Int.reduceNeg, Nat.add_sub_cancel_left, Nat.sub_self, Nat.le_add_right, List.append_eq, List.getD_cons_zero, List.getD_cons_succ, implies_true, false_implies, Bool.not_not, Bool.or_true, Bool.true_or, Bool.or_false, Bool.false_or, En.bitN, Nat.testBit, Nat.reduceShiftRight, Nat.reduceShiftLeft, Nat.reduceAnd, Nat.reduceOr, Nat.reduceBNe, Nat.zero_or, Nat.or_zero, Nat.sub_zero, Int.reduceToNat, Nat.reduceSub, Nat.zero_add, Nat.add_zero, List.length_cons, List.length_nil, Nat.zero_mul, Nat.reduceLeDiff, Int.reduceLE, Int.reduceLT, List.cons_ne_nil, tiFits, tiT, tiP, gamRF, spRAr_q, spRKs_q, RKsR_q, spRRs_q, RRsR_q, getN_q, getNC_i, if_true, and_self, hf, hE, d1, d2, hK, hR', hr, k1, k2]
          · rw [if_neg hR] at hr
            have hR' : decide (rRanks p rs < 0) = false := by simpa using hR
            simp (maxSteps := 1000000) only [En.evs0, En.evs1, En.evs2, En.evs3, En.evs4, En.evs5, En.evs6, En.evs7, En.evs8, En.evs9, En.evx0, List.toList_toArray, cond_true, cond_false, Nat.reduceBEq, Nat.reduceAdd, Nat.reduceMul, Nat.reduceEqDiff, Nat.reduceLeDiff, Nat.reduceLT, Bool.true_and, Bool.and_true, Bool.false_and, Bool.and_false, true_and, and_true, and_self, ne_eq, not_false_eq_true, reduceCtorEq, Bool.not_true, Bool.not_false, true_implies, not_true_eq_false, false_or, or_false, true_or, or_true, List.nil_append, List.cons_append, List.append_nil, List.map_cons, List.map_nil, Nat.le_refl, eq_self, forall_const, decide_true, decide_false, beq_self_eq_true, bne_self_eq_false, beq_true, beq_false, imp_self, Bool.true_beq, Bool.false_beq, Bool.bne_true, Bool.bne_false, Bool.true_bne, Bool.false_bne, Int.cast_ofNat_Int, Int.natCast_zero, Int.natCast_one, Int.reduceBEq, Int.reduceBNe, Int.reduceAdd, Int.reduceSub, Int.reduceMul, Int.reduceTDiv, Int.reduceTMod, Int.reduceNeg, Nat.add_sub_cancel_left, Nat.sub_self, Nat.le_add_right, List.append_eq, List.getD_cons_zero, List.getD_cons_succ, implies_true, false_implies, Bool.not_not, Bool.or_true, Bool.true_or, Bool.or_false, Bool.false_or, En.bitN, Nat.testBit, Nat.reduceShiftRight, Nat.reduceShiftLeft, Nat.reduceAnd, Nat.reduceOr, Nat.reduceBNe, Nat.zero_or, Nat.or_zero, Nat.sub_zero, Int.reduceToNat, Nat.reduceSub, Nat.zero_add, Nat.add_zero, List.length_cons, List.length_nil, Nat.zero_mul, Nat.reduceLeDiff, Int.reduceLE, Int.reduceLT, List.cons_ne_nil, tiFits, tiT, tiP, gamRF, spRAr_q, spRKs_q, RKsR_q, spRRs_q, RRsR_q, spRKd_q, RKdR_q, getN_q, getNC_i, if_true, and_self, hf, hE, d1, d2, hK, hR', hr, k1, k2]
      · have d2 : ((rs.length : Int) != arityOf p) = true := by simpa using e2
        unfold fitsV at hr
        rw [if_pos hk, if_neg (fun h => e2 h.2)] at hr
        simp (maxSteps := 1000000) only [En.evs0, En.evs1, En.evs2, En.evs3, En.evs4, En.evs5, En.evs6, En.evs7, En.evs8, En.evs9, En.evx0, List.toList_toArray, cond_true, cond_false, Nat.reduceBEq, Nat.reduceAdd, Nat.reduceMul, Nat.reduceEqDiff, Nat.reduceLeDiff, Nat.reduceLT, Bool.true_and, Bool.and_true, Bool.false_and, Bool.and_false, true_and, and_true, and_self, ne_eq, not_false_eq_true, reduceCtorEq, Bool.not_true, Bool.not_false, true_implies, not_true_eq_false, false_or, or_false, true_or, or_true, List.nil_append, List.cons_append, List.append_nil, List.map_cons, List.map_nil, Nat.le_refl, eq_self, forall_const, decide_true, decide_false, beq_self_eq_true, bne_self_eq_false, beq_true, beq_false, imp_self, Bool.true_beq, Bool.false_beq, Bool.bne_true, Bool.bne_false, Bool.true_bne, Bool.false_bne, Int.cast_ofNat_Int, Int.natCast_zero, Int.natCast_one, Int.reduceBEq, Int.reduceBNe, Int.reduceAdd, Int.reduceSub, Int.reduceMul, Int.reduceTDiv, Int.reduceTMod, Int.reduceNeg, Nat.add_sub_cancel_left, Nat.sub_self, Nat.le_add_right, List.append_eq, List.getD_cons_zero, List.getD_cons_succ, implies_true, false_implies, Bool.not_not, Bool.or_true, Bool.true_or, Bool.or_false, Bool.false_or, En.bitN, Nat.testBit, Nat.reduceShiftRight, Nat.reduceShiftLeft, Nat.reduceAnd, Nat.reduceOr, Nat.reduceBNe, Nat.zero_or, Nat.or_zero, Nat.sub_zero, Int.reduceToNat, Nat.reduceSub, Nat.zero_add, Nat.add_zero, List.length_cons, List.length_nil, Nat.zero_mul, Nat.reduceLeDiff, Int.reduceLE, Int.reduceLT, List.cons_ne_nil, tiFits, tiT, tiP, gamRF, spRAr_q, hf, hE, d1, d2, hr]
    · have d1 : ((ks.length : Int) != arityOf p) = true := by simpa using e1
      unfold fitsV at hr
      rw [if_pos hk, if_neg (fun h => e1 h.1)] at hr
      simp (maxSteps := 1000000) only [En.evs0, En.evs1, En.evs2, En.evs3, En.evs4, En.evs5, En.evs6, En.evs7, En.evs8, En.evs9, En.evx0, List.toList_toArray, cond_true, cond_false, Nat.reduceBEq, Nat.reduceAdd, Nat.reduceMul, Nat.reduceEqDiff, Nat.reduceLeDiff, Nat.reduceLT, Bool.true_and, Bool.and_true, Bool.false_and, Bool.and_false, true_and, and_true, and_self, ne_eq, not_false_eq_true, reduceCtorEq, Bool.not_true, Bool.not_false, true_implies, not_true_eq_false, false_or, or_false, true_or, or_true, List.nil_append, List.cons_append, List.append_nil, List.map_cons, List.map_nil, Nat.le_refl, eq_self, forall_const, decide_true, decide_false, beq_self_eq_true, bne_self_eq_false, beq_true, beq_false, imp_self, Bool.true_beq, Bool.false_beq, Bool.bne_true, Bool.bne_false, Bool.true_bne, Bool.false_bne, Int.cast_ofNat_Int, Int.natCast_zero, Int.natCast_one, Int.reduceBEq, Int.reduceBNe, Int.reduceAdd, Int.reduceSub, Int.reduceMul, Int.reduceTDiv, Int.reduceTMod, Int.reduceNeg, Nat.add_sub_cancel_left, Nat.sub_self, Nat.le_add_right, List.append_eq, List.getD_cons_zero, List.getD_cons_succ, implies_true, false_implies, Bool.not_not, Bool.or_true, Bool.true_or, Bool.or_false, Bool.false_or, En.bitN, Nat.testBit, Nat.reduceShiftRight, Nat.reduceShiftLeft, Nat.reduceAnd, Nat.reduceOr, Nat.reduceBNe, Nat.zero_or, Nat.or_zero, Nat.sub_zero, Int.reduceToNat, Nat.reduceSub, Nat.zero_add, Nat.add_zero, List.length_cons, List.length_nil, Nat.zero_mul, Nat.reduceLeDiff, Int.reduceLE, Int.reduceLT, List.cons_ne_nil, tiFits, tiT, tiP, gamRF, spRAr_q, hf, hE, d1, hr]
def rfitsR (p : Int) : Option (List Int) → Option (List Int) → Res
  | some ks, some rs => .is True (.tup [.v (.int .i64 (fitsV p ks rs).1), .v (.int .i64 (fitsV p ks rs).2.1), .v (.int .i64 (fitsV p ks rs).2.2)])
  | _, _ => .bad
def spRFits : Spc
  | [.v (.int .i64 p), K, R], H, _ => rfitsR p (getN H K) (getN H R)
  | _, _, _ => .bad
theorem spRFits_q {p : Int} {K R : SV} {H : Nat → Ch} {nx : Nat} : spRFits [.v (.int .i64 p), K, R] H nx = rfitsR p (getN H K) (getN H R) := (rfl)
theorem rfitsR_q {p : Int} {ks rs : List Int} : rfitsR p (some ks) (some rs) = .is True (.tup [.v (.int .i64 (fitsV p ks rs).1), .v (.int .i64 (fitsV p ks rs).2.1), .v (.int .i64 (fitsV p ks rs).2.2)]) := (rfl)
theorem spRFits_ok : SpecOk Tryz.prog 13 spRFits := by
  intro args hp nx w0 O w H hv
  unfold spRFits at hv ⊢
  split at hv
  · next p K R =>
    cases hK : getN (lookH hp) K with
    | none => rw [hK] at hv; exact hv.elim
    | some ks =>
      cases hR : getN (lookH hp) R with
      | none => rw [hK, hR] at hv; exact hv.elim
      | some rs =>
        rw [hK, hR] at hv
        obtain ⟨A, c, e1, s1, _⟩ := getN_ok H hK
        obtain ⟨B, d, e2, s2, _⟩ := getN_ok H hR
        rw [show dens [.v (.int .i64 p), K, R] = [Value.int .i64 p, .slice A ks.length c, .slice B rs.length d] by simp [dens, den, e1, e2]]
        refine (rFits_any p ks rs A B c d w s1 s2).mono ?_
        rintro e w' ⟨rfl, hb⟩
        exact ⟨⟨0, none, 0, none, 0, mz⟩, rfl, .still hb⟩
  · exact hv.elim
end Pr
end Go.Proofs.YtaelfhjdmljblaaGreatDoor
/-
The reference's Errors; Same of two lists of errors (chapter 12).
-/
set_option linter.unusedSimpArgs false
set_option linter.unusedVariables false
namespace Go.Proofs.YtaelfhjdmljblaaGreatDoor
namespace Pr
open Go Go.RowKit En
def ar9 (p : Int) : Int × Int := bif (bif (bif p == 1 then true else p == 2) then true else p == 3) then (1, 0) else bif (bif decide (15 ≤ p) then decide (p ≤ 32) else false) then (2, 0) else (0, 2)
theorem ar9_any (p : Int) (w : World) : Calls Tryz.prog 49 #[.int .i64 p] w fun e w' => e = .returned (.tuple #[.int .i64 (ar9 p).1, .int .i64 (ar9 p).2]) ∧ Below w.heap.size w w' := by
  obtain ⟨r, hr⟩ : ∃ r, r = ar9 p := ⟨_, rfl⟩
  rw [← hr]
  refine calls_run (args := [.v (.int .i64 p)]) (hp := []) (nx := 1000) (n := 400) (U := []) (V := []) (T := lookT tiFits) (G := gnil) (post := fun s ys => ys = [.v (.int .i64 r.1), .v (.int .i64 r.2)])
    followP tiFits_ok gOk_nil Tryz.func49 rfl (by kernel_rfl) (by show 1 ≤ 22; decide) (hh_list trivial) (fun _ _ => rfl) ?_ ?_
  · rintro s ys w' rfl H
    exact ⟨rfl, H.below⟩
  rw [Tryz.results49]
  simp (maxSteps := 1000000) only [En.evs0, En.evs1, En.evs2, En.evs3, En.evs4, En.evs5, En.evs6, En.evs7, En.evs8, En.evs9, En.evx0, List.toList_toArray, cond_true, cond_false, Nat.reduceBEq, Nat.reduceAdd, Nat.reduceMul, Nat.reduceEqDiff, Nat.reduceLeDiff, Nat.reduceLT, Bool.true_and, Bool.and_true, Bool.false_and, Bool.and_false, true_and, and_true, and_self, ne_eq, not_false_eq_true, reduceCtorEq, Bool.not_true, Bool.not_false, true_implies, not_true_eq_false, false_or, or_false, true_or, or_true, List.nil_append, List.cons_append, List.append_nil, List.map_cons, List.map_nil, Nat.le_refl, eq_self, forall_const, decide_true, decide_false, beq_self_eq_true, bne_self_eq_false, beq_true, beq_false, imp_self, Bool.true_beq, Bool.false_beq, Bool.bne_true, Bool.bne_false, Bool.true_bne, Bool.false_bne, Int.cast_ofNat_Int, Int.natCast_zero, Int.natCast_one, Int.reduceBEq, Int.reduceBNe, Int.reduceAdd, Int.reduceSub, Int.reduceMul, Int.reduceTDiv, Int.reduceTMod, Int.reduceNeg, Nat.add_sub_cancel_left, Nat.sub_self, Nat.le_add_right, List.append_eq, List.getD_cons_zero, List.getD_cons_succ, implies_true, false_implies, Bool.not_not, Bool.or_true, Bool.true_or, Bool.or_false, Bool.false_or, En.bitN, Nat.testBit, Nat.reduceShiftRight, Nat.reduceShiftLeft, Nat.reduceAnd, Nat.reduceOr, Nat.reduceBNe, Nat.zero_or, Nat.or_zero, Nat.sub_zero, Int.reduceToNat, Nat.reduceSub, Nat.zero_add, Nat.add_zero, List.length_cons, List.length_nil, Nat.zero_mul, Nat.reduceLeDiff, Int.reduceLE, Int.reduceLT, List.cons_ne_nil, tiFits, tiT, tiP]
  subst hr
  unfold ar9
  cases h1 : (bif (bif p == 1 then true else p == 2) then true else p == 3) <;> cases h2 : (bif decide (15 ≤ p) then decide (p ≤ 32) else false) <;> simp_all
def spAr9 : Spc
  | [.v (.int .i64 p)], _, _ => .is True (.tup [.v (.int .i64 (ar9 p).1), .v (.int .i64 (ar9 p).2)])
  | _, _, _ => .bad
theorem spAr9_q {p : Int} {H : Nat → Ch} {nx : Nat} : spAr9 [.v (.int .i64 p)] H nx = .is True (.tup [.v (.int .i64 (ar9 p).1), .v (.int .i64 (ar9 p).2)]) := (rfl)
theorem spAr9_ok : SpecOk Tryz.prog 49 spAr9 := by
  intro args hp nx w0 O w H hv
  unfold spAr9 at hv ⊢
  split at hv
  · next p =>
    refine (ar9_any p w).mono ?_
    rintro e w' ⟨rfl, hb⟩
    exact ⟨⟨0, none, 0, none, 0, mz⟩, rfl, .still hb⟩
  · exact hv.elim
def gamRE : Gam := gcons 27 spRAr (gcons 49 spAr9 gnil)
theorem gamRE_ok : GOk Tryz.prog gamRE := gOk_cons (by kernel_rfl) spRAr_ok <| gOk_cons (by kernel_rfl) spAr9_ok gOk_nil
def RErrsPost (p : Int) (s : SS) (ys : List SV) : Prop := ∃ x, ys = [x, .v (.int .i64 (findE p))] ∧ getN (lookH s.hp) x = some (errsAt p) ∧ ownS (lookH s.hp) x = true
theorem errsAt_no {p : Int} (h : known40 p = false) : errsAt p = [] := by
  unfold known40 at h
  simp at h
  unfold errsAt
  by_cases h1 : p < 1
  · rw [show p.toNat = 0 by omega]; rfl
  · have : 41 ≤ p.toNat := by have := h (by omega); omega
    rw [List.getD_eq_getElem?_getD, List.getElem?_eq_none (Nat.le_trans (by decide) this)]; rfl
set_option maxRecDepth 100000 in
set_option maxHeartbeats 8000000 in
theorem rErrors_any (p : Int) (w : World) :
    Calls Tryz.prog 28 #[.int .i64 p] w fun e w' => ∃ s ys, e = .returned (oneV ys) ∧ RErrsPost p s ys ∧ HH w (oldOf []) s.hp w' := by
  refine calls_run (args := [.v (.int .i64 p)]) (hp := []) (nx := 1000) (n := 400) (U := [(1000000, 66)]) (V := []) (T := lookT tiFits) (G := gamRE) (post := RErrsPost p)
    followP tiFits_ok gamRE_ok Tryz.func28 rfl (by kernel_rfl) (by show 1 ≤ 66; decide) (hh_list trivial) (fun _ _ => rfl) ?_ ?_
  · exact fun s xs w' hp H => ⟨s, xs, rfl, hp, H⟩
  rw [Tryz.results28]
  cases hk : known40 p
  · have hf := findE_no hk
    simp (maxSteps := 1000000) only [En.evs0, En.evs1, En.evs2, En.evs3, En.evs4, En.evs5, En.evs6, En.evs7, En.evs8, En.evs9, En.evx0, List.toList_toArray, cond_true, cond_false, Nat.reduceBEq, Nat.reduceAdd, Nat.reduceMul, Nat.reduceEqDiff, Nat.reduceLeDiff, Nat.reduceLT, Bool.true_and, Bool.and_true, Bool.false_and, Bool.and_false, true_and, and_true, and_self, ne_eq, not_false_eq_true, reduceCtorEq, Bool.not_true, Bool.not_false, true_implies, not_true_eq_false, false_or, or_false, true_or, or_true, List.nil_append, List.cons_append, List.append_nil, List.map_cons, List.map_nil, Nat.le_refl, eq_self, forall_const, decide_true, decide_false, beq_self_eq_true, bne_self_eq_false, beq_true, beq_false, imp_self, Bool.true_beq, Bool.false_beq, Bool.bne_true, Bool.bne_false, Bool.true_bne, Bool.false_bne, Int.cast_ofNat_Int, Int.natCast_zero, Int.natCast_one, Int.reduceBEq, Int.reduceBNe, Int.reduceAdd, Int.reduceSub, Int.reduceMul, Int.reduceTDiv, Int.reduceTMod, Int.reduceNeg, Nat.add_sub_cancel_left, Nat.sub_self, Nat.le_add_right, List.append_eq, List.getD_cons_zero, List.getD_cons_succ, implies_true, false_implies, Bool.not_not, Bool.or_true, Bool.true_or, Bool.or_false, Bool.false_or, En.bitN, Nat.testBit, Nat.reduceShiftRight, Nat.reduceShiftLeft, Nat.reduceAnd, Nat.reduceOr, Nat.reduceBNe, Nat.zero_or, Nat.or_zero, Nat.sub_zero, Int.reduceToNat, Nat.reduceSub, Nat.zero_add, Nat.add_zero, List.length_cons, List.length_nil, Nat.zero_mul, Nat.reduceLeDiff, Int.reduceLE, Int.reduceLT, List.cons_ne_nil, tiFits, tiT, tiP, gamRE, spRAr_q, spAr9_q, hf]
    exact ⟨_, by rw [hf], by rw [errsAt_no hk]; rfl, rfl⟩
  · have hf := findE_yes hk
    obtain ⟨_, _, l1, l2⟩ := known_yes hk
    have hc : p = 1 ∨ p = 2 ∨ p = 3 ∨ p = 4 ∨ p = 5 ∨ p = 6 ∨ p = 7 ∨ p = 8 ∨ p = 9 ∨ p = 10 ∨ p = 11 ∨ p = 12 ∨ p = 13 ∨ p = 14 ∨ p = 15 ∨ p = 16 ∨ p = 17 ∨ p = 18 ∨ p = 19 ∨ p = 20 ∨ p = 21 ∨ p = 22 ∨ p = 23 ∨ p = 24 ∨ p = 25 ∨ p = 26 ∨ p = 27 ∨ p = 28 ∨ p = 29 ∨ p = 30 ∨ p = 31 ∨ p = 32 ∨ p = 33 ∨ p = 34 ∨ p = 35 ∨ p = 36 ∨ p = 37 ∨ p = 38 ∨ p = 39 ∨ p = 40 := by omega
    rcases hc with rfl | rfl | rfl | rfl | rfl | rfl | rfl | rfl | rfl | rfl | rfl | rfl | rfl | rfl | rfl | rfl | rfl | rfl | rfl | rfl | rfl | rfl | rfl | rfl | rfl | rfl | rfl | rfl | rfl | rfl | rfl | rfl | rfl | rfl | rfl | rfl | rfl | rfl | rfl | rfl
    all_goals
      simp (maxSteps := 1000000) only [En.evs0, En.evs1, En.evs2, En.evs3, En.evs4, En.evs5, En.evs6, En.evs7, En.evs8, En.evs9, En.evx0, List.toList_toArray, cond_true, cond_false, Nat.reduceBEq, Nat.reduceAdd, Nat.reduceMul, Nat.reduceEqDiff, Nat.reduceLeDiff, Nat.reduceLT, Bool.true_and, Bool.and_true, Bool.false_and, Bool.and_false, true_and, and_true, and_self, ne_eq, not_false_eq_true, reduceCtorEq, Bool.not_true, Bool.not_false, true_implies, not_true_eq_false, false_or, or_false, true_or, or_true, List.nil_append, List.cons_append, List.append_nil, List.map_cons, List.map_nil, Nat.le_refl, eq_self, forall_const, decide_true, decide_false, beq_self_eq_true, bne_self_eq_false, beq_true, beq_false, imp_self, Bool.true_beq, Bool.false_beq, Bool.bne_true, Bool.bne_false, Bool.true_bne, Bool.false_bne, Int.cast_ofNat_Int, Int.natCast_zero, Int.natCast_one, Int.reduceBEq, Int.reduceBNe, Int.reduceAdd, Int.reduceSub, Int.reduceMul, Int.reduceTDiv, Int.reduceTMod, Int.reduceNeg, Nat.add_sub_cancel_left, Nat.sub_self, Nat.le_add_right, List.append_eq, List.getD_cons_zero, List.getD_cons_succ, implies_true, false_implies, Bool.not_not, Bool.or_true, Bool.true_or, Bool.or_false, Bool.false_or, En.bitN, Nat.testBit, Nat.reduceShiftRight, Nat.reduceShiftLeft, Nat.reduceAnd, Nat.reduceOr, Nat.reduceBNe, Nat.zero_or, Nat.or_zero, Nat.sub_zero, Int.reduceToNat, Nat.reduceSub, Nat.zero_add, Nat.add_zero, List.length_cons, List.length_nil, Nat.zero_mul, Nat.reduceLeDiff, Int.reduceLE, Int.reduceLT, List.cons_ne_nil, tiFits, tiT, tiP, gamRE, spRAr_q, spAr9_q, hf, ar9]
      try intros
      refine ⟨_, by rw [hf], ?_, ?_⟩ <;> simp [getN, lookH, showC, lenS, cut, intsOf, errsAt, pErrs, ownS, mutb]
def spRErrors : Spc
  | [.v (.int .i64 p)], H, nx => .val True fun A c => (.tup [.g nx A (errsAt p).length c, .v (.int .i64 (findE p))], [(nx, .ints A c .i64 (errsAt p))])
  | _, _, _ => .bad
theorem spRErrors_q {p : Int} {H : Nat → Ch} {nx : Nat} : spRErrors [.v (.int .i64 p)] H nx = .val True fun A c => (.tup [.g nx A (errsAt p).length c, .v (.int .i64 (findE p))], [(nx, .ints A c .i64 (errsAt p))]) := (rfl)
theorem spRErrors_ok : SpecOk Tryz.prog 28 spRErrors := by
  intro args hp nx w0 O w H hv
  unfold spRErrors at hv ⊢
  split at hv
  · next nx p =>
    refine (rErrors_any p w).mono ?_
    rintro e w' ⟨s, ys, rfl, ⟨x, rfl, hx, ho⟩, HS⟩
    obtain ⟨A, c, e1, s1, f1⟩ := getN_ok HS hx
    refine ⟨⟨0, A, c, none, 0, mz⟩, by simp [oneV, Res.out, den, dens, e1], Stp.one (c := .ints A c .i64 (errsAt p)) HS.below s1 fun b hb => .inl ?_⟩
    exact own_src HS ho e1 (f1 hb.1 b hb.2) hb.2
  · exact hv.elim
/-- two lists that are the same -/
theorem same12 (xs : List Int) (hl : xs.length ≤ 3) (A B : Option Addr) (c d : Nat) (w : World) (ha : Hold w.heap.size w (.ints A c .i64 xs)) (hb : Hold w.heap.size w (.ints B d .i64 xs)) :
    Calls Tryz.prog 29 #[.slice A xs.length c, .slice B xs.length d] w fun e w' => e = .returned (.bool true) ∧ Below w.heap.size w w' := by
  refine calls_run (args := [.g 1000 A xs.length c, .g 1001 B xs.length d]) (hp := [(1000, .ints A c .i64 xs), (1001, .ints B d .i64 xs)]) (nx := 1002) (n := 400) (U := [(4, 4), (1000000, 6)]) (V := []) (T := lookT tiFits) (G := gnil) (post := fun s ys => ys = [.v (.bool true)])
    followP tiFits_ok gOk_nil Tryz.func29 rfl (by kernel_rfl) (by show 2 ≤ 26; decide) (hh_list ⟨⟨ha, rfl⟩, ⟨hb, rfl⟩, trivial⟩) (free_list (by simp [allLt])) ?_ ?_
  · rintro s ys w' rfl H
    exact ⟨rfl, H.below⟩
  rw [Tryz.results29]
  match xs, hl with
  | [], _ => simp (maxSteps := 1000000) only [En.evs0, En.evs1, En.evs2, En.evs3, En.evs4, En.evs5, En.evs6, En.evs7, En.evs8, En.evs9, En.evx0, List.toList_toArray, cond_true, cond_false, Nat.reduceBEq, Nat.reduceAdd, Nat.reduceMul, Nat.reduceEqDiff, Nat.reduceLeDiff, Nat.reduceLT, Bool.true_and, Bool.and_true, Bool.false_and, Bool.and_false, true_and, and_true, and_self, ne_eq, not_false_eq_true, reduceCtorEq, Bool.not_true, Bool.not_false, true_implies, not_true_eq_false, false_or, or_false, true_or, or_true, List.nil_append, List.cons_append, List.append_nil, List.map_cons, List.map_nil, Nat.le_refl, eq_self, forall_const, decide_true, decide_false, beq_self_eq_true, bne_self_eq_false, beq_true, beq_false, imp_self, Bool.true_beq, Bool.false_beq, Bool.bne_true, Bool.bne_false, Bool.true_bne, Bool.false_bne, Int.cast_ofNat_Int, Int.natCast_zero, Int.natCast_one, Int.reduceBEq, Int.reduceBNe, Int.reduceAdd, Int.reduceSub, Int.reduceMul, Int.reduceTDiv, Int.reduceTMod, Int.reduceNeg, Nat.add_sub_cancel_left, Nat.sub_self, Nat.le_add_right, List.append_eq, List.getD_cons_zero, List.getD_cons_succ, implies_true, false_implies, Bool.not_not, Bool.or_true, Bool.true_or, Bool.or_false, Bool.false_or, En.bitN, Nat.testBit, Nat.reduceShiftRight, Nat.reduceShiftLeft, Nat.reduceAnd, Nat.reduceOr, Nat.reduceBNe, Nat.zero_or, Nat.or_zero, Nat.sub_zero, Int.reduceToNat, Nat.reduceSub, Nat.zero_add, Nat.add_zero, List.length_cons, List.length_nil, Nat.zero_mul, Nat.reduceLeDiff, Int.reduceLE, Int.reduceLT, List.cons_ne_nil, tiFits, tiT, tiP]
  | [x], _ =>
    simp (maxSteps := 1000000) only [En.evs0, En.evs1, En.evs2, En.evs3, En.evs4, En.evs5, En.evs6, En.evs7, En.evs8, En.evs9, En.evx0, List.toList_toArray, cond_true, cond_false, Nat.reduceBEq, Nat.reduceAdd, Nat.reduceMul, Nat.reduceEqDiff, Nat.reduceLeDiff, Nat.reduceLT, Bool.true_and, Bool.and_true, Bool.false_and, Bool.and_false, true_and, and_true, and_self, ne_eq, not_false_eq_true, reduceCtorEq, Bool.not_true, Bool.not_false, true_implies, not_true_eq_false, false_or, or_false, true_or, or_true, List.nil_append, List.cons_append, List.append_nil, List.map_cons, List.map_nil, Nat.le_refl, eq_self, forall_const, decide_true, decide_false, beq_self_eq_true, bne_self_eq_false, beq_true, beq_false, imp_self, Bool.true_beq, Bool.false_beq, Bool.bne_true, Bool.bne_false, Bool.true_bne, Bool.false_bne, Int.cast_ofNat_Int, Int.natCast_zero, Int.natCast_one, Int.reduceBEq, Int.reduceBNe, Int.reduceAdd, Int.reduceSub, Int.reduceMul, Int.reduceTDiv, Int.reduceTMod, Int.reduceNeg, Nat.add_sub_cancel_left, Nat.sub_self, Nat.le_add_right, List.append_eq, List.getD_cons_zero, List.getD_cons_succ, implies_true, false_implies, Bool.not_not, Bool.or_true, Bool.true_or, Bool.or_false, Bool.false_or, En.bitN, Nat.testBit, Nat.reduceShiftRight, Nat.reduceShiftLeft, Nat.reduceAnd, Nat.reduceOr, Nat.reduceBNe, Nat.zero_or, Nat.or_zero, Nat.sub_zero, Int.reduceToNat, Nat.reduceSub, Nat.zero_add, Nat.add_zero, List.length_cons, List.length_nil, Nat.zero_mul, Nat.reduceLeDiff, Int.reduceLE, Int.reduceLT, List.cons_ne_nil, tiFits, tiT, tiP]
    simp [En.inr, En.lo, En.hi]
  | [x, y], _ =>
    simp (maxSteps := 1000000) only [En.evs0, En.evs1, En.evs2, En.evs3, En.evs4, En.evs5, En.evs6, En.evs7, En.evs8, En.evs9, En.evx0, List.toList_toArray, cond_true, cond_false, Nat.reduceBEq, Nat.reduceAdd, Nat.reduceMul, Nat.reduceEqDiff, Nat.reduceLeDiff, Nat.reduceLT, Bool.true_and, Bool.and_true, Bool.false_and, Bool.and_false, true_and, and_true, and_self, ne_eq, not_false_eq_true, reduceCtorEq, Bool.not_true, Bool.not_false, true_implies, not_true_eq_false, false_or, or_false, true_or, or_true, List.nil_append, List.cons_append, List.append_nil, List.map_cons, List.map_nil, Nat.le_refl, eq_self, forall_const, decide_true, decide_false, beq_self_eq_true, bne_self_eq_false, beq_true, beq_false, imp_self, Bool.true_beq, Bool.false_beq, Bool.bne_true, Bool.bne_false, Bool.true_bne, Bool.false_bne, Int.cast_ofNat_Int, Int.natCast_zero, Int.natCast_one, Int.reduceBEq, Int.reduceBNe, Int.reduceAdd, Int.reduceSub, Int.reduceMul, Int.reduceTDiv, Int.reduceTMod, Int.reduceNeg, Nat.add_sub_cancel_left, Nat.sub_self, Nat.le_add_right, List.append_eq, List.getD_cons_zero, List.getD_cons_succ, implies_true, false_implies, Bool.not_not, Bool.or_true, Bool.true_or, Bool.or_false, Bool.false_or, En.bitN, Nat.testBit, Nat.reduceShiftRight, Nat.reduceShiftLeft, Nat.reduceAnd, Nat.reduceOr, Nat.reduceBNe, Nat.zero_or, Nat.or_zero, Nat.sub_zero, Int.reduceToNat, Nat.reduceSub, Nat.zero_add, Nat.add_zero, List.length_cons, List.length_nil, Nat.zero_mul, Nat.reduceLeDiff, Int.reduceLE, Int.reduceLT, List.cons_ne_nil, tiFits, tiT, tiP]
    simp [En.inr, En.lo, En.hi]
  | [x, y, z], _ =>
    simp (maxSteps := 1000000) only [En.evs0, En.evs1, En.evs2, En.evs3, En.evs4, En.evs5, En.evs6, En.evs7, En.evs8, En.evs9, En.evx0, List.toList_toArray, cond_true, cond_false, Nat.reduceBEq, Nat.reduceAdd, Nat.reduceMul, Nat.reduceEqDiff, Nat.reduceLeDiff, Nat.reduceLT, Bool.true_and, Bool.and_true, Bool.false_and, Bool.and_false, true_and, and_true, and_self, ne_eq, not_false_eq_true, reduceCtorEq, Bool.not_true, Bool.not_false, true_implies, not_true_eq_false, false_or, or_false, true_or, or_true, List.nil_append, List.cons_append, List.append_nil, List.map_cons, List.map_nil, Nat.le_refl, eq_self, forall_const, decide_true, decide_false, beq_self_eq_true, bne_self_eq_false, beq_true, beq_false, imp_self, Bool.true_beq, Bool.false_beq, Bool.bne_true, Bool.bne_false, Bool.true_bne, Bool.false_bne, Int.cast_ofNat_Int, Int.natCast_zero, Int.natCast_one, Int.reduceBEq, Int.reduceBNe, Int.reduceAdd, Int.reduceSub, Int.reduceMul, Int.reduceTDiv, Int.reduceTMod, Int.reduceNeg, Nat.add_sub_cancel_left, Nat.sub_self, Nat.le_add_right, List.append_eq, List.getD_cons_zero, List.getD_cons_succ, implies_true, false_implies, Bool.not_not, Bool.or_true, Bool.true_or, Bool.or_false, Bool.false_or, En.bitN, Nat.testBit, Nat.reduceShiftRight, Nat.reduceShiftLeft, Nat.reduceAnd, Nat.reduceOr, Nat.reduceBNe, Nat.zero_or, Nat.or_zero, Nat.sub_zero, Int.reduceToNat, Nat.reduceSub, Nat.zero_add, Nat.add_zero, List.length_cons, List.length_nil, Nat.zero_mul, Nat.reduceLeDiff, Int.reduceLE, Int.reduceLT, List.cons_ne_nil, tiFits, tiT, tiP]
    simp [En.inr, En.lo, En.hi]
def sameRR : Option (List Int) → Option (List Int) → Res
  | some xs, some ys => .is (xs = ys ∧ xs.length ≤ 3) (.v (.bool true))
  | _, _ => .bad
def spSame12 : Spc
  | [x, y], H, _ => sameRR (getN H x) (getN H y)
  | _, _, _ => .bad
theorem spSame12_q {x y : SV} {H : Nat → Ch} {nx : Nat} : spSame12 [x, y] H nx = sameRR (getN H x) (getN H y) := (rfl)
theorem sameRR_q {xs ys : List Int} : sameRR (some xs) (some ys) = .is (xs = ys ∧ xs.length ≤ 3) (.v (.bool true)) := (rfl)
theorem spSame12_ok : SpecOk Tryz.prog 29 spSame12 := by
  intro args hp nx w0 O w H hv
  match args, hv with
  | [x, y], hv =>
    rw [spSame12_q] at hv ⊢
    cases hX : getN (lookH hp) x with
    | none => rw [hX] at hv; exact hv.elim
    | some xs =>
      cases hY : getN (lookH hp) y with
      | none => rw [hX, hY] at hv; exact hv.elim
      | some ys =>
        rw [hX, hY] at hv
        obtain ⟨rfl, hl⟩ := hv
        obtain ⟨A, c, e1, s1, _⟩ := getN_ok H hX
        obtain ⟨B, d, e2, s2, _⟩ := getN_ok H hY
        rw [show dens [x, y] = [Value.slice A xs.length c, .slice B xs.length d] by simp [dens, e1, e2]]
        refine (same12 xs hl A B c d w s1 s2).mono ?_
        rintro e w' ⟨rfl, hb⟩
        exact ⟨⟨0, none, 0, none, 0, mz⟩, rfl, .still hb⟩
end Pr
end Go.Proofs.YtaelfhjdmljblaaGreatDoor
