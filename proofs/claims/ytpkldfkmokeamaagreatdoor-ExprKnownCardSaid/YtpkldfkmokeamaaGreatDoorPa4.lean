/-
prims.Find (chapter 12).
-/
import Derived.Test.YtpkldfkmokeamaaGreatDoorPa3
set_option linter.unusedSimpArgs false
set_option linter.unusedVariables false
namespace Go.Proofs.YtpkldfkmokeamaaGreatDoor
namespace Pr
open Go Go.RowKit En
def findN : List ByteArray → Int → ByteArray → Int × Int
  | [], _, _ => (0, 4)
  | x :: l, i, s => bif x.toList == s.toList then (i, 0) else findN l (i + 1) s
theorem findN_yes {x s : ByteArray} {l : List ByteArray} {i : Int} (h : (x.toList == s.toList) = true) : findN (x :: l) i s = (i, 0) := by
  show (bif x.toList == s.toList then _ else _) = _
  rw [h]; rfl
theorem findN_no {x s : ByteArray} {l : List ByteArray} {i : Int} (h : (x.toList == s.toList) = false) : findN (x :: l) i s = findN l (i + 1) s := by
  show (bif x.toList == s.toList then _ else _) = _
  rw [h]; rfl
theorem ifB_intro {R : List It → SS → Prop} {c c3 : Code} {k : List It} {s : SS} {p : Bool} (h1 : p = true → R (.code c :: k) s) (h2 : p = false → R (.code c3 :: k) s) : ifB R c c3 k s p := ⟨h1, h2⟩
def findS (s : ByteArray) : Int × Int := findN (pNames.drop 1) 1 s
set_option maxRecDepth 100000 in
set_option maxHeartbeats 8000000 in
theorem Find_any (s : ByteArray) (bn on cn ba oa ca : Nat) (h4 : 4 ≤ cn) (h3 : 3 ≤ ca) (w : World) (hg : allRd w.heap.size w (gHp bn on cn ba oa ca)) :
    Calls Tryz.prog 44 #[.string s] w fun e w' => e = .returned (.tuple #[.int .i64 (findS s).1, .int .i64 (findS s).2]) ∧ Below w.heap.size w w' := by
  obtain ⟨r, hr⟩ : ∃ r, r = findS s := ⟨_, rfl⟩
  rw [← hr]
  replace hr : r = findN (pNames.drop 1) 1 s := hr
  refine calls_run (args := [.v (.string s)]) (hp := gHp bn on cn ba oa ca) (nx := 1000) (n := 4000) (U := [(2, 42), (1000000, 9)]) (V := []) (T := lookT tiT) (G := gamFind) (post := fun s ys => ys = [.v (.int .i64 r.1), .v (.int .i64 r.2)])
    followP tiT_ok gamFind_ok Tryz.func44 rfl (by kernel_rfl) (by show 1 ≤ 23; decide) (hh_list hg) (free_list (by simp [allLt, gHp])) ?_ ?_
  · rintro s ys w' rfl H
    exact ⟨rfl, H.below⟩
  rw [Tryz.results44]
  repeat (
    simp (maxSteps := 1000000) only [En.ES, En.evsC, List.map_cons, List.map_nil, Nat.reduceBEq, Nat.reduceAdd, Nat.reduceMul, Nat.reduceEqDiff, Nat.reduceLeDiff, Nat.reduceLT, ne_eq, reduceCtorEq, Int.reduceBEq, Int.reduceBNe, Int.reduceAdd, Int.reduceSub, Int.reduceMul, Int.reduceTDiv, Int.reduceTMod, Int.reduceNeg, En.bitN, Nat.testBit, Nat.reduceShiftRight, Nat.reduceShiftLeft, Nat.reduceAnd, Nat.reduceOr, Nat.reduceBNe, Int.reduceToNat, Nat.reduceSub, Int.reduceLE, Int.reduceLT, tiT, tiP, gamFind, spTable_q, globR_q, gHp, oneAt_one, twoAt_one, h4, h3, tblUps_q, tblCells_q, En.inr, En.lo, En.hi]
    first
    | with_reducible refine stR_new (by simp) fun b => ?_
    | with_reducible refine stR_many (by simp) fun M => ?_
    | (with_reducible refine ifB_intro (fun h => ?_) (fun h => ?_)
       · simp (maxSteps := 1000000) only [En.ES, En.evsC, List.map_cons, List.map_nil, Nat.reduceBEq, Nat.reduceAdd, Nat.reduceMul, Nat.reduceEqDiff, Nat.reduceLeDiff, Nat.reduceLT, ne_eq, reduceCtorEq, Int.reduceBEq, Int.reduceBNe, Int.reduceAdd, Int.reduceSub, Int.reduceMul, Int.reduceTDiv, Int.reduceTMod, Int.reduceNeg, En.bitN, Nat.testBit, Nat.reduceShiftRight, Nat.reduceShiftLeft, Nat.reduceAnd, Nat.reduceOr, Nat.reduceBNe, Int.reduceToNat, Nat.reduceSub, Int.reduceLE, Int.reduceLT, tiT, tiP, gamFind, spTable_q, globR_q, gHp, oneAt_one, twoAt_one, h4, h3, tblUps_q, tblCells_q, En.inr, En.lo, En.hi]
         rw [hr.trans (findN_yes h)]; try rfl
       replace hr := hr.trans (findN_no h)
       clear h))
  simp (maxSteps := 1000000) only [En.ES, En.evsC, List.map_cons, List.map_nil, Nat.reduceBEq, Nat.reduceAdd, Nat.reduceMul, Nat.reduceEqDiff, Nat.reduceLeDiff, Nat.reduceLT, ne_eq, reduceCtorEq, Int.reduceBEq, Int.reduceBNe, Int.reduceAdd, Int.reduceSub, Int.reduceMul, Int.reduceTDiv, Int.reduceTMod, Int.reduceNeg, En.bitN, Nat.testBit, Nat.reduceShiftRight, Nat.reduceShiftLeft, Nat.reduceAnd, Nat.reduceOr, Nat.reduceBNe, Int.reduceToNat, Nat.reduceSub, Int.reduceLE, Int.reduceLT, tiT, tiP, gamFind, spTable_q, globR_q, gHp, oneAt_one, twoAt_one, h4, h3, tblUps_q, tblCells_q, En.inr, En.lo, En.hi]
  rw [hr]; try rfl
end Pr
end Go.Proofs.YtpkldfkmokeamaaGreatDoor
/-
The reference's names (chapter 12).
-/
set_option linter.unusedSimpArgs false
set_option linter.unusedVariables false
namespace Go.Proofs.YtpkldfkmokeamaaGreatDoor
namespace Pr
open Go Go.RowKit En
abbrev namesL : List ByteArray := pNames.drop 1
set_option maxRecDepth 100000 in
set_option maxHeartbeats 2000000 in
theorem names_any (w : World) : Calls Tryz.prog 76 #[] w fun e w' => Below w.heap.size w w' ∧ ∃ b, e = .returned (.slice (some ⟨b, 0, none⟩) 40 40) ∧ SlOk w' (some ⟨b, 0, none⟩) 40 1 40 (fS namesL) ∧ w.heap.size ≤ b := by
  refine calls_run (args := []) (hp := []) (nx := 1000) (n := 400) (U := []) (V := []) (T := lookT tiT) (G := gnil)
    (post := fun s ys => ∃ b cs t, ys = [.gp 1000 b 0 40 40] ∧ lookH s.hp 1000 = .blk b cs t ∧ strsOf cs = some namesL)
    followP tiT_ok gOk_nil Tryz.func76 rfl (by kernel_rfl) (by show 0 ≤ 2; decide) (hh_list trivial) (fun _ _ => rfl) ?_ ?_
  · rintro s ys w' ⟨b, cs, t, rfl, hb, hs⟩ H
    have hk := H.hold 1000
    rw [hb] at hk
    have hm := strsOf_map hs
    have hl : (dens cs).length = 40 := by rw [hm]; rfl
    refine ⟨H.below, b, rfl, (blk_cells hk).sl hl (Nat.le_refl _) fun i hi => ?_, hk.1⟩
    rw [hm]
    have : i < namesL.length := hi
    have h2 : namesL[i]? = some (namesL[i]'this) := List.getElem?_eq_getElem this
    simp only [List.getD_eq_getElem?_getD, List.getElem?_map, fS, h2]
    rfl
  rw [Tryz.results76]
  simp (maxSteps := 1000000) only [En.E, En.evsC, List.map_cons, List.map_nil, Nat.reduceBEq, Nat.reduceAdd, Nat.reduceMul, Nat.reduceEqDiff, Nat.reduceLeDiff, Nat.reduceLT, ne_eq, reduceCtorEq, Int.reduceBEq, Int.reduceBNe, Int.reduceAdd, Int.reduceSub, Int.reduceMul, Int.reduceTDiv, Int.reduceTMod, Int.reduceNeg, En.bitN, Nat.testBit, Nat.reduceShiftRight, Nat.reduceShiftLeft, Nat.reduceAnd, Nat.reduceOr, Nat.reduceBNe, Int.reduceToNat, Nat.reduceSub, Int.reduceLE, Int.reduceLT, tiT, tiP]
  intro b
  exact ⟨_, _, _, rfl, rfl, rfl⟩
def spNames : Spc
  | [], _, nx => .val True fun A c => (.g nx A 40 c, [(nx, .strs A c namesL)])
  | _, _, _ => .bad
theorem spNames_q {H : Nat → Ch} {nx : Nat} : spNames [] H nx = .val True fun A c => (.g nx A 40 c, [(nx, .strs A c namesL)]) := (rfl)
theorem spNames_ok : SpecOk Tryz.prog 76 spNames := by
  intro args hp nx w0 O w H hv
  match args, hv with
  | [], _ =>
    refine (names_any w).mono ?_
    rintro e w' ⟨hb, b, rfl, hs, hf⟩
    refine ⟨⟨0, some ⟨b, 0, none⟩, 40, none, 0, mz⟩, rfl, Stp.one hb (c := .strs (some ⟨b, 0, none⟩) 40 namesL) hs fun i hi => .inl ?_⟩
    obtain ⟨_, a, e, rfl⟩ := hi
    cases e; exact hf
def gamNames : Gam := gcons 76 spNames gnil
theorem gamNames_ok : GOk Tryz.prog gamNames := gOk_cons (by kernel_rfl) spNames_ok gOk_nil
theorem namesL_q : namesL = [⟨#[110, 101, 103]⟩, ⟨#[97, 98, 115]⟩, ⟨#[110, 111, 116]⟩, ⟨#[115, 104, 97, 112, 101]⟩, ⟨#[114, 97, 118, 101, 108]⟩, ⟨#[114, 101, 118, 101, 114, 115, 101]⟩, ⟨#[102, 108, 105, 112]⟩, ⟨#[105, 111, 116, 97]⟩, ⟨#[115, 117, 109]⟩, ⟨#[108, 101, 97, 115, 116]⟩, ⟨#[109, 111, 115, 116]⟩, ⟨#[99, 111, 117, 110, 116]⟩, ⟨#[115, 99, 97, 110]⟩, ⟨#[103, 114, 97, 100, 101]⟩, ⟨#[97, 100, 100]⟩, ⟨#[115, 117, 98]⟩, ⟨#[109, 117, 108]⟩, ⟨#[100, 105, 118]⟩, ⟨#[109, 111, 100]⟩, ⟨#[112, 108, 117, 115]⟩, ⟨#[109, 105, 110, 117, 115]⟩, ⟨#[116, 105, 109, 101, 115]⟩, ⟨#[101, 113]⟩, ⟨#[110, 101]⟩, ⟨#[108, 116]⟩, ⟨#[108, 101]⟩, ⟨#[103, 116]⟩, ⟨#[103, 101]⟩, ⟨#[97, 110, 100]⟩, ⟨#[111, 114]⟩, ⟨#[109, 105, 110]⟩, ⟨#[109, 97, 120]⟩, ⟨#[116, 97, 107, 101]⟩, ⟨#[100, 114, 111, 112]⟩, ⟨#[102, 105, 108, 108]⟩, ⟨#[103, 114, 105, 100]⟩, ⟨#[99, 97, 116]⟩, ⟨#[97, 116]⟩, ⟨#[105, 110]⟩, ⟨#[112, 105, 99, 107]⟩] := rfl
set_option maxRecDepth 100000 in
set_option maxHeartbeats 8000000 in
theorem rFind_any (s : ByteArray) (w : World) :
    Calls Tryz.prog 46 #[.string s] w fun e w' => e = .returned (.tuple #[.int .i64 (findS s).1, .int .i64 (findS s).2]) ∧ Below w.heap.size w w' := by
  obtain ⟨r, hr⟩ : ∃ r, r = findS s := ⟨_, rfl⟩
  rw [← hr]
  replace hr : r = findN (pNames.drop 1) 1 s := hr
  refine calls_run (args := [.v (.string s)]) (hp := []) (nx := 1000) (n := 4000) (U := [(3, 41), (1000000, 7)]) (V := []) (T := lookT tiT) (G := gamNames) (post := fun s ys => ys = [.v (.int .i64 r.1), .v (.int .i64 r.2)])
    followP tiT_ok gamNames_ok Tryz.func46 rfl (by kernel_rfl) (by show 1 ≤ 21; decide) (hh_list trivial) (fun _ _ => rfl) ?_ ?_
  · rintro s ys w' rfl H
    exact ⟨rfl, H.below⟩
  rw [Tryz.results46]
  repeat (
    simp (maxSteps := 1000000) only [En.ES, En.evsC, List.map_cons, List.map_nil, Nat.reduceBEq, Nat.reduceAdd, Nat.reduceMul, Nat.reduceEqDiff, Nat.reduceLeDiff, Nat.reduceLT, ne_eq, reduceCtorEq, Int.reduceBEq, Int.reduceBNe, Int.reduceAdd, Int.reduceSub, Int.reduceMul, Int.reduceTDiv, Int.reduceTMod, Int.reduceNeg, En.bitN, Nat.testBit, Nat.reduceShiftRight, Nat.reduceShiftLeft, Nat.reduceAnd, Nat.reduceOr, Nat.reduceBNe, Int.reduceToNat, Nat.reduceSub, Int.reduceLE, Int.reduceLT, tiT, tiP, gamNames, spNames_q, namesL_q, En.inr, En.lo, En.hi]
    first
    | with_reducible refine stR_val (by simp) fun A c => ?_
    | (with_reducible refine ifB_intro (fun h => ?_) (fun h => ?_)
       · simp (maxSteps := 1000000) only [En.ES, En.evsC, List.map_cons, List.map_nil, Nat.reduceBEq, Nat.reduceAdd, Nat.reduceMul, Nat.reduceEqDiff, Nat.reduceLeDiff, Nat.reduceLT, ne_eq, reduceCtorEq, Int.reduceBEq, Int.reduceBNe, Int.reduceAdd, Int.reduceSub, Int.reduceMul, Int.reduceTDiv, Int.reduceTMod, Int.reduceNeg, En.bitN, Nat.testBit, Nat.reduceShiftRight, Nat.reduceShiftLeft, Nat.reduceAnd, Nat.reduceOr, Nat.reduceBNe, Int.reduceToNat, Nat.reduceSub, Int.reduceLE, Int.reduceLT, tiT, tiP, gamNames, spNames_q, namesL_q, En.inr, En.lo, En.hi]
         rw [hr.trans (findN_yes h)]; try rfl
       replace hr := hr.trans (findN_no h)
       clear h))
  simp (maxSteps := 1000000) only [En.ES, En.evsC, List.map_cons, List.map_nil, Nat.reduceBEq, Nat.reduceAdd, Nat.reduceMul, Nat.reduceEqDiff, Nat.reduceLeDiff, Nat.reduceLT, ne_eq, reduceCtorEq, Int.reduceBEq, Int.reduceBNe, Int.reduceAdd, Int.reduceSub, Int.reduceMul, Int.reduceTDiv, Int.reduceTMod, Int.reduceNeg, En.bitN, Nat.testBit, Nat.reduceShiftRight, Nat.reduceShiftLeft, Nat.reduceAnd, Nat.reduceOr, Nat.reduceBNe, Int.reduceToNat, Nat.reduceSub, Int.reduceLE, Int.reduceLT, tiT, tiP, gamNames, spNames_q, namesL_q, En.inr, En.lo, En.hi]
  rw [hr]; try rfl
end Pr
end Go.Proofs.YtpkldfkmokeamaaGreatDoor
/-
The reference's Name, Arity (chapter 12).
-/
set_option linter.unusedSimpArgs false
set_option linter.unusedVariables false
namespace Go.Proofs.YtpkldfkmokeamaaGreatDoor
namespace Pr
open Go Go.RowKit En
theorem known_no {p : Int} (h : known40 p = false) : (bif decide (p < 1) then true else decide (40 < p)) = true := by
  unfold known40 at h
  cases h1 : decide (p < 1) <;> rw [h1] at h
  · simpa using h
  · rfl
theorem known_yes {p : Int} (h : known40 p = true) : decide (p < 1) = false ∧ decide (40 < p) = false ∧ 1 ≤ p ∧ p ≤ 40 := by
  unfold known40 at h
  simp at h
  exact ⟨by simp; omega, by simp; omega, h.1, h.2⟩
theorem arE_val {p : Int} (h : known40 p = true) : arE p = if p ≤ 14 then 1 else 2 := by
  have key : ∀ i : Fin 41, i.val = 0 ∨ ((((pLines.getD i.val []).getD 0 ByteArray.empty).size : Int).tdiv 2 - 1 = if (i.val : Int) ≤ 14 then 1 else 2) := by decide +kernel
  obtain ⟨_, _, h1, h2⟩ := known_yes h
  have := key ⟨p.toNat, by omega⟩
  rcases this with h0 | h0
  · simp only at h0; omega
  · rw [show arE p = arityOf p from if_pos h]
    unfold arityOf linesAt
    rw [h0]
    simp only
    rw [Int.toNat_of_nonneg (by omega)]
theorem rArity_any (p : Int) (w : World) :
    Calls Tryz.prog 70 #[.int .i64 p] w fun e w' => e = .returned (.tuple #[.int .i64 (arE p), .int .i64 (findE p)]) ∧ Below w.heap.size w w' := by
  refine calls_run (args := [.v (.int .i64 p)]) (hp := []) (nx := 1000) (n := 400) (U := [(1000000, 4)]) (V := []) (T := lookT tiT) (G := gnil) (post := fun s ys => ys = [.v (.int .i64 (arE p)), .v (.int .i64 (findE p))])
    followP tiT_ok gOk_nil Tryz.func70 rfl (by kernel_rfl) (by show 1 ≤ 12; decide) (hh_list trivial) (fun _ _ => rfl) ?_ ?_
  · rintro s ys w' rfl H
    exact ⟨rfl, H.below⟩
  rw [Tryz.results70]
  cases hk : known40 p
  · have hf := findE_no hk
    have ha : arE p = 0 := if_neg (by rw [hk]; decide)
    have hc := known_no hk
    simp (maxSteps := 1000000) only [En.E, En.evsC, List.map_cons, List.map_nil, Nat.reduceBEq, Nat.reduceAdd, Nat.reduceMul, Nat.reduceEqDiff, Nat.reduceLeDiff, Nat.reduceLT, ne_eq, reduceCtorEq, Int.reduceBEq, Int.reduceBNe, Int.reduceAdd, Int.reduceSub, Int.reduceMul, Int.reduceTDiv, Int.reduceTMod, Int.reduceNeg, En.bitN, Nat.testBit, Nat.reduceShiftRight, Nat.reduceShiftLeft, Nat.reduceAnd, Nat.reduceOr, Nat.reduceBNe, Int.reduceToNat, Nat.reduceSub, Int.reduceLE, Int.reduceLT, tiT, tiP, hf, ha, hc]
    exact fun h => by rw [h]; rfl
  · have hf := findE_yes hk
    obtain ⟨c1, c2, h1, h2⟩ := known_yes hk
    have hv := arE_val hk
    by_cases h14 : p ≤ 14
    · rw [if_pos h14] at hv
      have c3 : decide (p ≤ 14) = true := by simpa using h14
      simp (maxSteps := 1000000) only [En.E, En.evsC, List.map_cons, List.map_nil, Nat.reduceBEq, Nat.reduceAdd, Nat.reduceMul, Nat.reduceEqDiff, Nat.reduceLeDiff, Nat.reduceLT, ne_eq, reduceCtorEq, Int.reduceBEq, Int.reduceBNe, Int.reduceAdd, Int.reduceSub, Int.reduceMul, Int.reduceTDiv, Int.reduceTMod, Int.reduceNeg, En.bitN, Nat.testBit, Nat.reduceShiftRight, Nat.reduceShiftLeft, Nat.reduceAnd, Nat.reduceOr, Nat.reduceBNe, Int.reduceToNat, Nat.reduceSub, Int.reduceLE, Int.reduceLT, tiT, tiP, hf, c1, c2, c3, hv]
    · rw [if_neg h14] at hv
      have c3 : decide (p ≤ 14) = false := by simpa using h14
      simp (maxSteps := 1000000) only [En.E, En.evsC, List.map_cons, List.map_nil, Nat.reduceBEq, Nat.reduceAdd, Nat.reduceMul, Nat.reduceEqDiff, Nat.reduceLeDiff, Nat.reduceLT, ne_eq, reduceCtorEq, Int.reduceBEq, Int.reduceBNe, Int.reduceAdd, Int.reduceSub, Int.reduceMul, Int.reduceTDiv, Int.reduceTMod, Int.reduceNeg, En.bitN, Nat.testBit, Nat.reduceShiftRight, Nat.reduceShiftLeft, Nat.reduceAnd, Nat.reduceOr, Nat.reduceBNe, Int.reduceToNat, Nat.reduceSub, Int.reduceLE, Int.reduceLT, tiT, tiP, hf, c1, c2, c3, hv]
end Pr
end Go.Proofs.YtpkldfkmokeamaaGreatDoor
/-
Contracts of Find and Arity, the program's and the reference's, as data (chapter 12).
-/
set_option linter.unusedSimpArgs false
set_option linter.unusedVariables false
namespace Go.Proofs.YtpkldfkmokeamaaGreatDoor
namespace Pr
open Go Go.RowKit En
def spFindS : Spc
  | [.v (.string s)], H, _ => .is (globR (H 0) (H 1) (H 2) (H 3)) (.tup [.v (.int .i64 (findS s).1), .v (.int .i64 (findS s).2)])
  | _, _, _ => .bad
theorem spFindS_q {s : ByteArray} {H : Nat → Ch} {nx : Nat} : spFindS [.v (.string s)] H nx = .is (globR (H 0) (H 1) (H 2) (H 3)) (.tup [.v (.int .i64 (findS s).1), .v (.int .i64 (findS s).2)]) := (rfl)
theorem spFindS_ok : SpecOk Tryz.prog 44 spFindS := by
  intro args hp nx w0 O w H hv
  unfold spFindS at hv ⊢
  split at hv
  · next x0 x1 x2 s =>
    obtain ⟨bn, on, cn, ba, oa, ca, hr, h4, h3, _⟩ := globR_ok H hv
    refine (Find_any s bn on cn ba oa ca h4 h3 w hr).mono ?_
    rintro e w' ⟨rfl, hb⟩
    exact ⟨⟨0, none, 0, none, 0, mz⟩, rfl, .still hb⟩
  · exact hv.elim
def spRFind : Spc
  | [.v (.string s)], _, _ => .is True (.tup [.v (.int .i64 (findS s).1), .v (.int .i64 (findS s).2)])
  | _, _, _ => .bad
theorem spRFind_q {s : ByteArray} {H : Nat → Ch} {nx : Nat} : spRFind [.v (.string s)] H nx = .is True (.tup [.v (.int .i64 (findS s).1), .v (.int .i64 (findS s).2)]) := (rfl)
theorem spRFind_ok : SpecOk Tryz.prog 46 spRFind := by
  intro args hp nx w0 O w H hv
  unfold spRFind at hv ⊢
  split at hv
  · next x0 x1 x2 s =>
    refine (rFind_any s w).mono ?_
    rintro e w' ⟨rfl, hb⟩
    exact ⟨⟨0, none, 0, none, 0, mz⟩, rfl, .still hb⟩
  · exact hv.elim
def spArityF : Spc
  | [.v (.int .i64 p)], H, _ => .is (globR (H 0) (H 1) (H 2) (H 3)) (.tup [.v (.int .i64 (arE p)), .v (.int .i64 (findE p))])
  | _, _, _ => .bad
theorem spArityF_q {p : Int} {H : Nat → Ch} {nx : Nat} : spArityF [.v (.int .i64 p)] H nx = .is (globR (H 0) (H 1) (H 2) (H 3)) (.tup [.v (.int .i64 (arE p)), .v (.int .i64 (findE p))]) := (rfl)
theorem spArityF_ok : SpecOk Tryz.prog 84 spArityF := by
  intro args hp nx w0 O w H hv
  unfold spArityF at hv ⊢
  split at hv
  · next x0 x1 x2 p =>
    obtain ⟨bn, on, cn, ba, oa, ca, hr, h4, h3, _⟩ := globR_ok H hv
    refine (Arity_any p bn on cn ba oa ca h4 h3 w hr).mono ?_
    rintro e w' ⟨rfl, hb⟩
    exact ⟨⟨0, none, 0, none, 0, mz⟩, rfl, .still hb⟩
  · exact hv.elim
def spRAr : Spc
  | [.v (.int .i64 p)], _, _ => .is True (.tup [.v (.int .i64 (arE p)), .v (.int .i64 (findE p))])
  | _, _, _ => .bad
theorem spRAr_q {p : Int} {H : Nat → Ch} {nx : Nat} : spRAr [.v (.int .i64 p)] H nx = .is True (.tup [.v (.int .i64 (arE p)), .v (.int .i64 (findE p))]) := (rfl)
theorem spRAr_ok : SpecOk Tryz.prog 70 spRAr := by
  intro args hp nx w0 O w H hv
  unfold spRAr at hv ⊢
  split at hv
  · next p =>
    refine (rArity_any p w).mono ?_
    rintro e w' ⟨rfl, hb⟩
    exact ⟨⟨0, none, 0, none, 0, mz⟩, rfl, .still hb⟩
  · exact hv.elim
end Pr
end Go.Proofs.YtpkldfkmokeamaaGreatDoor
