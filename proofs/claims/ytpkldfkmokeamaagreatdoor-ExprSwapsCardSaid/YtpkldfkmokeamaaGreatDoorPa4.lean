/-
prims.Find (chapter 12).
-/
import Derived.Test.YtpkldfkmokeamaaGreatDoorPa3
set_option linter.unusedSimpArgs false
set_option linter.unusedVariables false
namespace Go.Proofs.YtpkldfkmokeamaaGreatDoor
namespace Pr
open Go Go.RowKit En
def findN : List ByteArray → Int → ByteArray → Int × Int
  | [], _, _ => (0, 4)
  | x :: l, i, s => bif x.toList == s.toList then (i, 0) else findN l (i + 1) s
theorem findN_yes {x s : ByteArray} {l : List ByteArray} {i : Int} (h : (x.toList == s.toList) = true) : findN (x :: l) i s = (i, 0) := by
  show (bif x.toList == s.toList then _ else _) = _
  rw [h]; rfl
theorem findN_no {x s : ByteArray} {l : List ByteArray} {i : Int} (h : (x.toList == s.toList) = false) : findN (x :: l) i s = findN l (i + 1) s := by
  show (bif x.toList == s.toList then _ else _) = _
  rw [h]; rfl
theorem ifB_intro {R : List It → SS → Prop} {c c3 : Code} {k : List It} {s : SS} {p : Bool} (h1 : p = true → R (.code c :: k) s) (h2 : p = false → R (.code c3 :: k) s) : ifB R c c3 k s p := ⟨h1, h2⟩
def findS (s : ByteArray) : Int × Int := findN (pNames.drop 1) 1 s
set_option maxRecDepth 100000 in
set_option maxHeartbeats 8000000 in
theorem Find_any (s : ByteArray) (bn on cn ba oa ca : Nat) (h4 : 4 ≤ cn) (h3 : 3 ≤ ca) (w : World) (hg : allRd w.heap.size w (gHp bn on cn ba oa ca)) :
    Calls Tryz.prog 44 #[.string s] w fun e w' => e = .returned (.tuple #[.int .i64 (findS s).1, .int .i64 (findS s).2]) ∧ Below w.heap.size w w' := by
  obtain ⟨r, hr⟩ : ∃ r, r = findS s := ⟨_, rfl⟩
  rw [← hr]
  replace hr : r = findN (pNames.drop 1) 1 s := hr
  refine calls_run (args := [.v (.string s)]) (hp := gHp bn on cn ba oa ca) (nx := 1000) (n := 4000) (U := [(2, 42), (1000000, 9)]) (V := []) (T := lookT tiT) (G := gamFind) (post := fun s ys => ys = [.v (.int .i64 r.1), .v (.int .i64 r.2)])
    followP tiT_ok gamFind_ok Tryz.func44 rfl (by kernel_rfl) (by show 1 ≤ 23; decide) (hh_list hg) (free_list (by simp [allLt, gHp])) ?_ ?_
  · rintro s ys w' rfl H
    exact ⟨rfl, H.below⟩
  rw [Tryz.results44]
  repeat (
    simp (maxSteps := 1000000) only [En.ES, En.evsC, List.map_cons, List.map_nil, Nat.reduceBEq, Nat.reduceAdd, Nat.reduceMul, Nat.reduceEqDiff, Nat.reduceLeDiff, Nat.reduceLT, ne_eq, reduceCtorEq, Int.reduceBEq, Int.reduceBNe, Int.reduceAdd, Int.reduceSub, Int.reduceMul, Int.reduceTDiv, Int.reduceTMod, Int.reduceNeg, En.bitN, Nat.testBit, Nat.reduceShiftRight, Nat.reduceShiftLeft, Nat.reduceAnd, Nat.reduceOr, Nat.reduceBNe, Int.reduceToNat, Nat.reduceSub, Int.reduceLE, Int.reduceLT, tiT, tiP, gamFind, spTable_q, globR_q, gHp, oneAt_one, twoAt_one, h4, h3, tblUps_q, tblCells_q, En.inr, En.lo, En.hi]
    first
    | with_reducible refine stR_new (by simp) fun b => ?_
    | with_reducible refine stR_many (by simp) fun M => ?_
    | (with_reducible refine ifB_intro (fun h => ?_) (fun h => ?_)
       · simp (maxSteps := 1000000) only [En.ES, En.evsC, List.map_cons, List.map_nil, Nat.reduceBEq, Nat.reduceAdd, Nat.reduceMul, Nat.reduceEqDiff, Nat.reduceLeDiff, Nat.reduceLT, ne_eq, reduceCtorEq, Int.reduceBEq, Int.reduceBNe, Int.reduceAdd, Int.reduceSub, Int.reduceMul, Int.reduceTDiv, Int.reduceTMod, Int.reduceNeg, En.bitN, Nat.testBit, Nat.reduceShiftRight, Nat.reduceShiftLeft, Nat.reduceAnd, Nat.reduceOr, Nat.reduceBNe, Int.reduceToNat, Nat.reduceSub, Int.reduceLE, Int.reduceLT, tiT, tiP, gamFind, spTable_q, globR_q, gHp, oneAt_one, twoAt_one, h4, h3, tblUps_q, tblCells_q, En.inr, En.lo, En.hi]
         rw [hr.trans (findN_yes h)]; try rfl
       replace hr := hr.trans (findN_no h)
       clear h))
  simp (maxSteps := 1000000) only [En.ES, En.evsC, List.map_cons, List.map_nil, Nat.reduceBEq, Nat.reduceAdd, Nat.reduceMul, Nat.reduceEqDiff, Nat.reduceLeDiff, Nat.reduceLT, ne_eq, reduceCtorEq, Int.reduceBEq, Int.reduceBNe, Int.reduceAdd, Int.reduceSub, Int.reduceMul, Int.reduceTDiv, Int.reduceTMod, Int.reduceNeg, En.bitN, Nat.testBit, Nat.reduceShiftRight, Nat.reduceShiftLeft, Nat.reduceAnd, Nat.reduceOr, Nat.reduceBNe, Int.reduceToNat, Nat.reduceSub, Int.reduceLE, Int.reduceLT, tiT, tiP, gamFind, spTable_q, globR_q, gHp, oneAt_one, twoAt_one, h4, h3, tblUps_q, tblCells_q, En.inr, En.lo, En.hi]
  rw [hr]; try rfl
end Pr
end Go.Proofs.YtpkldfkmokeamaaGreatDoor
/-
The reference's names (chapter 12).
-/
set_option linter.unusedSimpArgs false
set_option linter.unusedVariables false
namespace Go.Proofs.YtpkldfkmokeamaaGreatDoor
namespace Pr
open Go Go.RowKit En
end Pr
end Go.Proofs.YtpkldfkmokeamaaGreatDoor
/-
The reference's Name, Arity (chapter 12).
-/
set_option linter.unusedSimpArgs false
set_option linter.unusedVariables false
namespace Go.Proofs.YtpkldfkmokeamaaGreatDoor
namespace Pr
open Go Go.RowKit En
end Pr
end Go.Proofs.YtpkldfkmokeamaaGreatDoor
/-
Contracts of Find and Arity, the program's and the reference's, as data (chapter 12).
-/
set_option linter.unusedSimpArgs false
set_option linter.unusedVariables false
namespace Go.Proofs.YtpkldfkmokeamaaGreatDoor
namespace Pr
open Go Go.RowKit En
def spFindS : Spc
  | [.v (.string s)], H, _ => .is (globR (H 0) (H 1) (H 2) (H 3)) (.tup [.v (.int .i64 (findS s).1), .v (.int .i64 (findS s).2)])
  | _, _, _ => .bad
theorem spFindS_q {s : ByteArray} {H : Nat → Ch} {nx : Nat} : spFindS [.v (.string s)] H nx = .is (globR (H 0) (H 1) (H 2) (H 3)) (.tup [.v (.int .i64 (findS s).1), .v (.int .i64 (findS s).2)]) := (rfl)
theorem spFindS_ok : SpecOk Tryz.prog 44 spFindS := by
  intro args hp nx w0 O w H hv
  unfold spFindS at hv ⊢
  split at hv
  · next x0 x1 x2 s =>
    obtain ⟨bn, on, cn, ba, oa, ca, hr, h4, h3, _⟩ := globR_ok H hv
    refine (Find_any s bn on cn ba oa ca h4 h3 w hr).mono ?_
    rintro e w' ⟨rfl, hb⟩
    exact ⟨⟨0, none, 0, none, 0, mz⟩, rfl, .still hb⟩
  · exact hv.elim
def spArityF : Spc
  | [.v (.int .i64 p)], H, _ => .is (globR (H 0) (H 1) (H 2) (H 3)) (.tup [.v (.int .i64 (arE p)), .v (.int .i64 (findE p))])
  | _, _, _ => .bad
theorem spArityF_q {p : Int} {H : Nat → Ch} {nx : Nat} : spArityF [.v (.int .i64 p)] H nx = .is (globR (H 0) (H 1) (H 2) (H 3)) (.tup [.v (.int .i64 (arE p)), .v (.int .i64 (findE p))]) := (rfl)
theorem spArityF_ok : SpecOk Tryz.prog 84 spArityF := by
  intro args hp nx w0 O w H hv
  unfold spArityF at hv ⊢
  split at hv
  · next x0 x1 x2 p =>
    obtain ⟨bn, on, cn, ba, oa, ca, hr, h4, h3, _⟩ := globR_ok H hv
    refine (Arity_any p bn on cn ba oa ca h4 h3 w hr).mono ?_
    rintro e w' ⟨rfl, hb⟩
    exact ⟨⟨0, none, 0, none, 0, mz⟩, rfl, .still hb⟩
  · exact hv.elim
end Pr
end Go.Proofs.YtpkldfkmokeamaaGreatDoor
