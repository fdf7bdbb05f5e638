/-
What Fits finds among lines is what the reference says (chapter 12).
-/
import Derived.Test.YtnpkmimbnjnicaaGreatDoorPa6
import Derived.Test.YtnpkmimbnjnicaaGreatDoorPa3
set_option linter.unusedSimpArgs false
set_option linter.unusedVariables false
namespace Go.Proofs.YtnpkmimbnjnicaaGreatDoor
namespace Pr
open Go Go.RowKit En
def rFitsF (p : Int) (ks rs : List Int) : Int × Int × Int := if rKinds p ks = true then (if rRanks p rs < 0 then (0, 0, 22) else (rKind p ks, rRanks p rs, 0)) else (0, 0, 21)
set_option maxRecDepth 10000 in
set_option maxHeartbeats 4000000 in
theorem fitsF1 (p : Int) (hp : 1 ≤ p ∧ p ≤ 14) (k r : Int) : fitsF [k] [r] (linesAt p) 21 = rFitsF p [k] [r] := by
  have hc : p = 1 ∨ p = 2 ∨ p = 3 ∨ p = 4 ∨ p = 5 ∨ p = 6 ∨ p = 7 ∨ p = 8 ∨ p = 9 ∨ p = 10 ∨ p = 11 ∨ p = 12 ∨ p = 13 ∨ p = 14 := by omega
  rcases hc with rfl | rfl | rfl | rfl | rfl | rfl | rfl | rfl | rfl | rfl | rfl | rfl | rfl | rfl
  all_goals
    simp [linesAt, pLines, fitsF, matchM, matchF, stepM, rFitsF, rKinds, rInts, okK, rRanks, rTab1, badR, pickRank, rKind, Bool.cond_eq_ite]
    try grind
set_option maxRecDepth 10000 in
set_option maxHeartbeats 4000000 in
theorem fitsF2 (p : Int) (hp : 15 ≤ p ∧ p ≤ 40) (k l r s : Int) : fitsF [k, l] [r, s] (linesAt p) 21 = rFitsF p [k, l] [r, s] := by
  have hc : p = 15 ∨ p = 16 ∨ p = 17 ∨ p = 18 ∨ p = 19 ∨ p = 20 ∨ p = 21 ∨ p = 22 ∨ p = 23 ∨ p = 24 ∨ p = 25 ∨ p = 26 ∨ p = 27 ∨ p = 28 ∨ p = 29 ∨ p = 30 ∨ p = 31 ∨ p = 32 ∨ p = 33 ∨ p = 34 ∨ p = 35 ∨ p = 36 ∨ p = 37 ∨ p = 38 ∨ p = 39 ∨ p = 40 := by omega
  rcases hc with rfl | rfl | rfl | rfl | rfl | rfl | rfl | rfl | rfl | rfl | rfl | rfl | rfl | rfl | rfl | rfl | rfl | rfl | rfl | rfl | rfl | rfl | rfl | rfl | rfl | rfl
  all_goals
    simp [linesAt, pLines, fitsF, matchM, matchF, stepM, rFitsF, rKinds, rInts, okK, rRanks, rTab2, badR, pickRank, rKind, Bool.cond_eq_ite]
    try grind
end Pr
end Go.Proofs.YtnpkmimbnjnicaaGreatDoor
/-
The reference's Fits (chapter 12): its contract; the program's is the same.
-/
set_option linter.unusedSimpArgs false
set_option linter.unusedVariables false
namespace Go.Proofs.YtnpkmimbnjnicaaGreatDoor
namespace Pr
open Go Go.RowKit En
def kOk (p : Int) (ks : List Int) : Prop := (1 ≤ p ∧ p ≤ 14 ∧ ks.length = 1) ∨ (15 ≤ p ∧ p ≤ 40 ∧ ks.length = 2)
def RKsR (p : Int) : Option (List Int) → Res
  | some ks => .is (kOk p ks) (.v (.bool (rKinds p ks)))
  | none => .bad
def spRKs : Spc
  | [.v (.int .i64 p), K], H, _ => RKsR p (getN H K)
  | _, _, _ => .bad
theorem spRKs_q {p : Int} {K : SV} {H : Nat → Ch} {nx : Nat} : spRKs [.v (.int .i64 p), K] H nx = RKsR p (getN H K) := (rfl)
theorem RKsR_q {p : Int} {ks : List Int} : RKsR p (some ks) = .is (kOk p ks) (.v (.bool (rKinds p ks))) := (rfl)
theorem spRKs_ok : SpecOk Tryz.prog 86 spRKs := by
  intro args hp nx w0 O w H hv
  unfold spRKs at hv ⊢
  split at hv
  · next p K =>
    cases hK : getN (lookH hp) K with
    | none => rw [hK] at hv; exact hv.elim
    | some ks =>
      rw [hK] at hv
      obtain ⟨A, c, e1, s1, _⟩ := getN_ok H hK
      rw [show dens [.v (.int .i64 p), K] = [Value.int .i64 p, .slice A ks.length c] by simp [dens, den, e1]]
      have key : Calls Tryz.prog 86 #[.int .i64 p, .slice A ks.length c] w fun e w' => e = .returned (.bool (rKinds p ks)) ∧ Below w.heap.size w w' := by
        rcases hv with ⟨h1, h2, h3⟩ | ⟨h1, h2, h3⟩
        · match ks, h3, s1 with
          | [k], _, s1 => exact rkinds1 p k ⟨h1, h2⟩ A c w s1
        · match ks, h3, s1 with
          | [k, l], _, s1 => exact rkinds2 p k l ⟨h1, h2⟩ A c w s1
      refine key.mono ?_
      rintro e w' ⟨rfl, hb⟩
      exact ⟨⟨0, none, 0, none, 0, mz⟩, rfl, .still hb⟩
  · exact hv.elim
def RRsR (p : Int) : Option (List Int) → Res
  | some ks => .is (kOk p ks) (.v (.int .i64 (rRanks p ks)))
  | none => .bad
def spRRs : Spc
  | [.v (.int .i64 p), K], H, _ => RRsR p (getN H K)
  | _, _, _ => .bad
theorem spRRs_q {p : Int} {K : SV} {H : Nat → Ch} {nx : Nat} : spRRs [.v (.int .i64 p), K] H nx = RRsR p (getN H K) := (rfl)
theorem RRsR_q {p : Int} {ks : List Int} : RRsR p (some ks) = .is (kOk p ks) (.v (.int .i64 (rRanks p ks))) := (rfl)
theorem spRRs_ok : SpecOk Tryz.prog 87 spRRs := by
  intro args hp nx w0 O w H hv
  unfold spRRs at hv ⊢
  split at hv
  · next p K =>
    cases hK : getN (lookH hp) K with
    | none => rw [hK] at hv; exact hv.elim
    | some ks =>
      rw [hK] at hv
      obtain ⟨A, c, e1, s1, _⟩ := getN_ok H hK
      rw [show dens [.v (.int .i64 p), K] = [Value.int .i64 p, .slice A ks.length c] by simp [dens, den, e1]]
      have key : Calls Tryz.prog 87 #[.int .i64 p, .slice A ks.length c] w fun e w' => e = .returned (.int .i64 (rRanks p ks)) ∧ Below w.heap.size w w' := by
        rcases hv with ⟨h1, h2, h3⟩ | ⟨h1, h2, h3⟩
        · match ks, h3, s1 with
          | [k], _, s1 => exact rranks1 p k ⟨h1, h2⟩ A c w s1
        · match ks, h3, s1 with
          | [k, l], _, s1 => exact rranks2 p k l ⟨h1, h2⟩ A c w s1
      refine key.mono ?_
      rintro e w' ⟨rfl, hb⟩
      exact ⟨⟨0, none, 0, none, 0, mz⟩, rfl, .still hb⟩
  · exact hv.elim
def RKdR (p : Int) : Option (List Int) → Res
  | some ks => .is (kOk p ks) (.v (.int .i64 (rKind p ks)))
  | none => .bad
def spRKd : Spc
  | [.v (.int .i64 p), K], H, _ => RKdR p (getN H K)
  | _, _, _ => .bad
theorem spRKd_q {p : Int} {K : SV} {H : Nat → Ch} {nx : Nat} : spRKd [.v (.int .i64 p), K] H nx = RKdR p (getN H K) := (rfl)
theorem RKdR_q {p : Int} {ks : List Int} : RKdR p (some ks) = .is (kOk p ks) (.v (.int .i64 (rKind p ks))) := (rfl)
theorem spRKd_ok : SpecOk Tryz.prog 88 spRKd := by
  intro args hp nx w0 O w H hv
  unfold spRKd at hv ⊢
  split at hv
  · next p K =>
    cases hK : getN (lookH hp) K with
    | none => rw [hK] at hv; exact hv.elim
    | some ks =>
      rw [hK] at hv
      obtain ⟨A, c, e1, s1, _⟩ := getN_ok H hK
      rw [show dens [.v (.int .i64 p), K] = [Value.int .i64 p, .slice A ks.length c] by simp [dens, den, e1]]
      have key : Calls Tryz.prog 88 #[.int .i64 p, .slice A ks.length c] w fun e w' => e = .returned (.int .i64 (rKind p ks)) ∧ Below w.heap.size w w' := by
        rcases hv with ⟨h1, h2, h3⟩ | ⟨h1, h2, h3⟩
        · match ks, h3, s1 with
          | [k], _, s1 => exact rkind1 p k ⟨h1, h2⟩ A c w s1
        · match ks, h3, s1 with
          | [k, l], _, s1 => exact rkind2 p k l ⟨h1, h2⟩ A c w s1
      refine key.mono ?_
      rintro e w' ⟨rfl, hb⟩
      exact ⟨⟨0, none, 0, none, 0, mz⟩, rfl, .still hb⟩
  · exact hv.elim
def gamRF : Gam := gcons 85 spRAr (gcons 86 spRKs (gcons 87 spRRs (gcons 88 spRKd gnil)))
theorem gamRF_ok : GOk Tryz.prog gamRF := gOk_cons (by kernel_rfl) spRAr_ok <| gOk_cons (by kernel_rfl) spRKs_ok <| gOk_cons (by kernel_rfl) spRRs_ok <| gOk_cons (by kernel_rfl) spRKd_ok gOk_nil
theorem fits_val {p : Int} {ks rs : List Int} (h : known40 p = true) (h1 : (ks.length : Int) = arityOf p) (h2 : (rs.length : Int) = arityOf p) : kOk p ks ∧ kOk p rs ∧ fitsV p ks rs = rFitsF p ks rs := by
  obtain ⟨_, _, l1, l2⟩ := known_yes h
  have ha := arE_val h
  rw [show arE p = arityOf p from if_pos h] at ha
  unfold fitsV
  rw [if_pos h, if_pos ⟨h1, h2⟩]
  rw [ha] at h1 h2
  by_cases hp : p ≤ 14
  · rw [if_pos hp] at h1 h2
    have h1 : ks.length = 1 := by omega
    have h2 : rs.length = 1 := by omega
    refine ⟨.inl ⟨l1, hp, h1⟩, .inl ⟨l1, hp, h2⟩, ?_⟩
    match ks, rs, h1, h2 with
    | [k], [r], _, _ => exact fitsF1 p ⟨l1, hp⟩ k r
  · rw [if_neg hp] at h1 h2
    have h1 : ks.length = 2 := by omega
    have h2 : rs.length = 2 := by omega
    refine ⟨.inr ⟨by omega, l2, h1⟩, .inr ⟨by omega, l2, h2⟩, ?_⟩
    match ks, rs, h1, h2 with
    | [k, l], [r, s], _, _ => exact fitsF2 p ⟨by omega, l2⟩ k l r s
set_option maxRecDepth 100000 in
set_option maxHeartbeats 4000000 in
theorem rFits_any (p : Int) (ks rs : List Int) (A B : Option Addr) (c d : Nat) (w : World) (ha : Hold w.heap.size w (.ints A c .i64 ks)) (hb : Hold w.heap.size w (.ints B d .i64 rs)) :
    Calls Tryz.prog 40 #[.int .i64 p, .slice A ks.length c, .slice B rs.length d] w fun e w' => e = .returned (.tuple #[.int .i64 (fitsV p ks rs).1, .int .i64 (fitsV p ks rs).2.1, .int .i64 (fitsV p ks rs).2.2]) ∧ Below w.heap.size w w' := by
  obtain ⟨r, hr⟩ : ∃ r, r = fitsV p ks rs := ⟨_, rfl⟩
  rw [← hr]
  refine calls_run (args := [.v (.int .i64 p), .g 1000 A ks.length c, .g 1001 B rs.length d]) (hp := [(1000, .ints A c .i64 ks), (1001, .ints B d .i64 rs)]) (nx := 1002) (n := 400) (U := []) (V := []) (T := lookT tiFits) (G := gamRF) (post := fun s ys => ys = [.v (.int .i64 r.1), .v (.int .i64 r.2.1), .v (.int .i64 r.2.2)])
    followP tiFits_ok gamRF_ok Tryz.func40 rfl (by kernel_rfl) (by show 3 ≤ 43; decide) (hh_list ⟨⟨ha, rfl⟩, ⟨hb, rfl⟩, trivial⟩) (free_list (by simp [allLt])) ?_ ?_
  · rintro s ys w' rfl H
    exact ⟨rfl, H.below⟩
  rw [Tryz.results40]
  cases hk : known40 p
  · have hf := findE_no hk
    unfold fitsV at hr
    rw [hk, if_neg (by decide)] at hr
    simp (maxSteps := 1000000) only [En.E, En.evsC, List.map_cons, List.map_nil, Nat.reduceBEq, Nat.reduceAdd, Nat.reduceMul, Nat.reduceEqDiff, Nat.reduceLeDiff, Nat.reduceLT, ne_eq, reduceCtorEq, Int.reduceBEq, Int.reduceBNe, Int.reduceAdd, Int.reduceSub, Int.reduceMul, Int.reduceTDiv, Int.reduceTMod, Int.reduceNeg, En.bitN, Nat.testBit, Nat.reduceShiftRight, Nat.reduceShiftLeft, Nat.reduceAnd, Nat.reduceOr, Nat.reduceBNe, Int.reduceToNat, Nat.reduceSub, Int.reduceLE, Int.reduceLT, tiFits, tiT, tiP, gamRF, spRAr_q, hf, hr]
  · have hf := findE_yes hk
    have hE : arE p = arityOf p := if_pos hk
    by_cases e1 : (ks.length : Int) = arityOf p
    · have d1 : ((ks.length : Int) != arityOf p) = false := by simpa using e1
      by_cases e2 : (rs.length : Int) = arityOf p
      · have d2 : ((rs.length : Int) != arityOf p) = false := by simpa using e2
        obtain ⟨k1, k2, hv⟩ := fits_val hk e1 e2
        rw [hv] at hr
        unfold rFitsF at hr
        cases hK : rKinds p ks
        · rw [hK, if_neg (by decide)] at hr
          simp (maxSteps := 1000000) only [En.E, En.evsC, List.map_cons, List.map_nil, Nat.reduceBEq, Nat.reduceAdd, Nat.reduceMul, Nat.reduceEqDiff, Nat.reduceLeDiff, Nat.reduceLT, ne_eq, reduceCtorEq, Int.reduceBEq, Int.reduceBNe, Int.reduceAdd, Int.reduceSub, Int.reduceMul, Int.reduceTDiv, Int.reduceTMod, Int.reduceNeg, En.bitN, Nat.testBit, Nat.reduceShiftRight, Nat.reduceShiftLeft, Nat.reduceAnd, Nat.reduceOr, Nat.reduceBNe, Int.reduceToNat, Nat.reduceSub, Int.reduceLE, Int.reduceLT, tiFits, tiT, tiP, gamRF, spRAr_q, spRKs_q, RKsR_q, getN_q, getNC_i, if_true, and_self, hf, hE, d1, d2, hK, hr, k1]
        · rw [hK, if_pos rfl] at hr
          by_cases hR : rRanks p rs < 0
          · rw [if_pos hR] at hr
            have hR' : decide (rRanks p rs < 0) = true := by simpa using hR
            simp (maxSteps := 1000000) only [En.E, En.evsC, List.map_cons, List.map_nil, Nat.reduceBEq, Nat.reduceAdd, Nat.reduceMul, Nat.reduceEqDiff, Nat.reduceLeDiff, Nat.reduceLT, ne_eq, reduceCtorEq, Int.reduceBEq, Int.reduceBNe, Int.reduceAdd, Int.reduceSub, Int.reduceMul, Int.reduceTDiv, Int.reduceTMod, Int.reduceNeg, En.bitN, Nat.testBit, Nat.reduceShiftRight, Nat.reduceShiftLeft, Nat.reduceAnd, Nat.reduceOr, Nat.reduceBNe, Int.reduceToNat, Nat.reduceSub, Int.reduceLE, Int.reduceLT, tiFits, tiT, tiP, gamRF, spRAr_q, spRKs_q, RKsR_q, spRRs_q, RRsR_q, getN_q, getNC_i, if_true, and_self, hf, hE, d1, d2, hK, hR', hr, k1, k2]
          · rw [if_neg hR] at hr
            have hR' : decide (rRanks p rs < 0) = false := by simpa using hR
            simp (maxSteps := 1000000) only [En.E, En.evsC, List.map_cons, List.map_nil, Nat.reduceBEq, Nat.reduceAdd, Nat.reduceMul, Nat.reduceEqDiff, Nat.reduceLeDiff, Nat.reduceLT, ne_eq, reduceCtorEq, Int.reduceBEq, Int.reduceBNe, Int.reduceAdd, Int.reduceSub, Int.reduceMul, Int.reduceTDiv, Int.reduceTMod, Int.reduceNeg, En.bitN, Nat.testBit, Nat.reduceShiftRight, Nat.reduceShiftLeft, Nat.reduceAnd, Nat.reduceOr, Nat.reduceBNe, Int.reduceToNat, Nat.reduceSub, Int.reduceLE, Int.reduceLT, tiFits, tiT, tiP, gamRF, spRAr_q, spRKs_q, RKsR_q, spRRs_q, RRsR_q, spRKd_q, RKdR_q, getN_q, getNC_i, if_true, and_self, hf, hE, d1, d2, hK, hR', hr, k1, k2]
      · have d2 : ((rs.length : Int) != arityOf p) = true := by simpa using e2
        unfold fitsV at hr
        rw [if_pos hk, if_neg (fun h => e2 h.2)] at hr
        simp (maxSteps := 1000000) only [En.E, En.evsC, List.map_cons, List.map_nil, Nat.reduceBEq, Nat.reduceAdd, Nat.reduceMul, Nat.reduceEqDiff, Nat.reduceLeDiff, Nat.reduceLT, ne_eq, reduceCtorEq, Int.reduceBEq, Int.reduceBNe, Int.reduceAdd, Int.reduceSub, Int.reduceMul, Int.reduceTDiv, Int.reduceTMod, Int.reduceNeg, En.bitN, Nat.testBit, Nat.reduceShiftRight, Nat.reduceShiftLeft, Nat.reduceAnd, Nat.reduceOr, Nat.reduceBNe, Int.reduceToNat, Nat.reduceSub, Int.reduceLE, Int.reduceLT, tiFits, tiT, tiP, gamRF, spRAr_q, hf, hE, d1, d2, hr]
    · have d1 : ((ks.length : Int) != arityOf p) = true := by simpa using e1
      unfold fitsV at hr
      rw [if_pos hk, if_neg (fun h => e1 h.1)] at hr
      simp (maxSteps := 1000000) only [En.E, En.evsC, List.map_cons, List.map_nil, Nat.reduceBEq, Nat.reduceAdd, Nat.reduceMul, Nat.reduceEqDiff, Nat.reduceLeDiff, Nat.reduceLT, ne_eq, reduceCtorEq, Int.reduceBEq, Int.reduceBNe, Int.reduceAdd, Int.reduceSub, Int.reduceMul, Int.reduceTDiv, Int.reduceTMod, Int.reduceNeg, En.bitN, Nat.testBit, Nat.reduceShiftRight, Nat.reduceShiftLeft, Nat.reduceAnd, Nat.reduceOr, Nat.reduceBNe, Int.reduceToNat, Nat.reduceSub, Int.reduceLE, Int.reduceLT, tiFits, tiT, tiP, gamRF, spRAr_q, hf, hE, d1, hr]
def rfitsR (p : Int) : Option (List Int) → Option (List Int) → Res
  | some ks, some rs => .is True (.tup [.v (.int .i64 (fitsV p ks rs).1), .v (.int .i64 (fitsV p ks rs).2.1), .v (.int .i64 (fitsV p ks rs).2.2)])
  | _, _ => .bad
def spRFits : Spc
  | [.v (.int .i64 p), K, R], H, _ => rfitsR p (getN H K) (getN H R)
  | _, _, _ => .bad
theorem spRFits_q {p : Int} {K R : SV} {H : Nat → Ch} {nx : Nat} : spRFits [.v (.int .i64 p), K, R] H nx = rfitsR p (getN H K) (getN H R) := (rfl)
theorem rfitsR_q {p : Int} {ks rs : List Int} : rfitsR p (some ks) (some rs) = .is True (.tup [.v (.int .i64 (fitsV p ks rs).1), .v (.int .i64 (fitsV p ks rs).2.1), .v (.int .i64 (fitsV p ks rs).2.2)]) := (rfl)
theorem spRFits_ok : SpecOk Tryz.prog 40 spRFits := by
  intro args hp nx w0 O w H hv
  unfold spRFits at hv ⊢
  split at hv
  · next p K R =>
    cases hK : getN (lookH hp) K with
    | none => rw [hK] at hv; exact hv.elim
    | some ks =>
      cases hR : getN (lookH hp) R with
      | none => rw [hK, hR] at hv; exact hv.elim
      | some rs =>
        rw [hK, hR] at hv
        obtain ⟨A, c, e1, s1, _⟩ := getN_ok H hK
        obtain ⟨B, d, e2, s2, _⟩ := getN_ok H hR
        rw [show dens [.v (.int .i64 p), K, R] = [Value.int .i64 p, .slice A ks.length c, .slice B rs.length d] by simp [dens, den, e1, e2]]
        refine (rFits_any p ks rs A B c d w s1 s2).mono ?_
        rintro e w' ⟨rfl, hb⟩
        exact ⟨⟨0, none, 0, none, 0, mz⟩, rfl, .still hb⟩
  · exact hv.elim
end Pr
end Go.Proofs.YtnpkmimbnjnicaaGreatDoor
