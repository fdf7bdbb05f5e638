/-
Chapter 15: Same of two expressions; Replace, plainly.
-/
import Derived.Test.YtpkldfkmokeamaaGreatDoorAx1
import Derived.Test.YtpkldfkmokeamaaGreatDoorCh1
import Derived.Test.YtpkldfkmokeamaaGreatDoorRe2
import Derived.Test.YtpkldfkmokeamaaGreatDoorRf1
set_option linter.unusedSimpArgs false
set_option linter.unusedVariables false
namespace Go.Proofs.YtpkldfkmokeamaaGreatDoor
namespace Pr
open Go Go.RowKit En
open Ex Rf
def smH (l m : List Nd) (A : Option Addr) (c : Nat) (B : Option Addr) (d : Nat) : Hp := [(1000, .recs A c 7 l.length fun i => ndC (ndAt l i)), (1001, .recs B d 7 m.length fun i => ndC (ndAt m i))]
def smI (l m : List Nd) (A : Option Addr) (c : Nat) (B : Option Addr) (d i : Nat) : SS := ⟨[(0, .g 1000 A l.length c), (1, .g 1001 B m.length d), (5, .v (.int .i64 i))], smH l m A c B d, 3000⟩
def eqN (x y : Nd) : Bool := bif x.k == y.k then bif x.p == y.p then bif x.c == y.c then bif x.nm.toList == y.nm.toList then bif x.tx.toList == y.tx.toList then bif x.n == y.n then bif x.s == y.s then true else false else false else false else false else false else false else false
theorem eqN_self (x : Nd) : eqN x x = true := by simp [eqN]
def sameV (l m : List Nd) : Bool := l.length == m.length && (List.range l.length).all fun j => eqN (ndAt l j) (ndAt m j)
theorem sameV_self (l : List Nd) : sameV l l = true := by simp [sameV, eqN_self]
set_option maxRecDepth 100000 in
set_option maxHeartbeats 4000000 in
theorem same15_any (l m : List Nd) (hx : l.length ≤ 9223372036854775807) (hy : m.length ≤ 9223372036854775807) (A : Option Addr) (c : Nat) (B : Option Addr) (d : Nat) (w : World) (h : allRd w.heap.size w (smH l m A c B d)) :
    Calls Tryz.prog 27 #[.slice A l.length c, .slice B m.length d] w fun e w' => e = .returned (.bool (sameV l m)) ∧ Below w.heap.size w w' := by
  obtain ⟨q, hq⟩ : ∃ q, q = sameV l m := ⟨_, rfl⟩
  rw [← hq]
  refine calls_go (args := [.g 1000 A l.length c, .g 1001 B m.length d]) (hp := smH l m A c B d) (nx := 1002) (n := 1000) (U := [(1000000, 11)]) (V := []) (tl := tlRe) (gl := gl0) (post := fun s ys => ys = [.v (.bool q)])
    followP tlRe_ok gl0_ok Tryz.func27 rfl (by kernel_rfl) (Nat.le_of_ble_eq_true (by kernel_rfl)) (by kernel_rfl) (by kernel_rfl) (hh_list h) (free_list (by simp [allLt, smH])) ?_ ?_
  · rintro s ys w' rfl H
    exact ⟨rfl, H.below⟩
  intro L F T G nd va hE
  obtain ⟨hL, hF, hs, hv, hT, hG, hR, hI, hJ, hW⟩ := hE
  rw [Tryz.results27] at hF
  simp (maxSteps := 1000000) only [En.nN, En.E, En.evsC, List.map_cons, List.map_nil, Nat.reduceBEq, Nat.reduceAdd, Nat.reduceMul, Nat.reduceEqDiff, Nat.reduceLeDiff, Nat.reduceLT, ne_eq, reduceCtorEq, Int.reduceBEq, Int.reduceBNe, Int.reduceAdd, Int.reduceSub, Int.reduceMul, Int.reduceTDiv, Int.reduceTMod, Int.reduceNeg, En.bitN, Nat.testBit, Nat.reduceShiftRight, Nat.reduceShiftLeft, Nat.reduceAnd, Nat.reduceOr, Nat.reduceBNe, Int.reduceToNat, Nat.reduceSub, Int.reduceLE, Int.reduceLT] at hv
  simp only [En.at_nil, En.at_cons, En.ag_nil, En.ag_cons, and_true, tlRe, gl0, tyInt, tyI64, tyBool, tyStr, tyErr, tyNode, tyNodes, tyInts] at hT hG
  by_cases hl : l.length = m.length
  · have d0 : ((l.length : Int) != (m.length : Int)) = false := by rw [hl]; simp
    simp (maxSteps := 10000000) only [En.E, En.evsC, List.map_cons, List.map_nil, Nat.reduceBEq, Nat.reduceAdd, Nat.reduceMul, Nat.reduceEqDiff, Nat.reduceLeDiff, Nat.reduceLT, ne_eq, reduceCtorEq, Int.reduceBEq, Int.reduceBNe, Int.reduceAdd, Int.reduceSub, Int.reduceMul, Int.reduceTDiv, Int.reduceTMod, Int.reduceNeg, En.bitN, Nat.testBit, Nat.reduceShiftRight, Nat.reduceShiftLeft, Nat.reduceAnd, Nat.reduceOr, Nat.reduceBNe, Int.reduceToNat, Nat.reduceSub, Int.reduceLE, Int.reduceLT, En.vV, hs, hv, hT, hG, hF, smH, d0]
    refine hI {i : Nat // i ≤ l.length ∧ ∀ j, j < i → eqN (ndAt l j) (ndAt m j) = true} (fun x => smI l m A c B d x.1) (fun x => l.length - x.1) _ _ _ ⟨0, Nat.zero_le _, fun j hj => absurd hj (Nat.not_lt_zero j)⟩ (sle_all [1000, 1001] (by decide) (by simp only [En.E, En.evsC, List.map_cons, List.map_nil, Nat.reduceBEq, Nat.reduceAdd, Nat.reduceMul, Nat.reduceEqDiff, Nat.reduceLeDiff, Nat.reduceLT, ne_eq, reduceCtorEq, Int.reduceBEq, Int.reduceBNe, Int.reduceAdd, Int.reduceSub, Int.reduceMul, Int.reduceTDiv, Int.reduceTMod, Int.reduceNeg, En.bitN, Nat.testBit, Nat.reduceShiftRight, Nat.reduceShiftLeft, Nat.reduceAnd, Nat.reduceOr, Nat.reduceBNe, Int.reduceToNat, Nat.reduceSub, Int.reduceLE, Int.reduceLT, En.slLe, En.hpLe, En.chE, En.allLt, smI, smH, Int.cast_ofNat_Int])) ?_
    rintro ⟨i, hi, hp⟩
    refine hR 1000 _ _ ?_
    by_cases hlt : i < l.length
    · have d1 : decide ((i : Int) < (l.length : Int)) = true := decide_eq_true (by omega)
      have i1 : inr .i64 ((i : Int) + 1) := by simp only [En.inr, En.lo, En.hi]; omega
      have g1 : (0 : Int) ≤ i ∧ (i : Int) < l.length := by omega
      have g2 : (0 : Int) ≤ i ∧ (i : Int) < m.length := by omega
      have g3 : (0 : Int) ≤ i ∧ i < l.length := by omega
      have g4 : (0 : Int) ≤ i ∧ i < m.length := by omega
      have hA : ¬A = none := slok_some h.1.1.1 (by omega)
      have hB : ¬B = none := slok_some h.2.1.1.1 (by omega)
      simp (maxSteps := 10000000) only [En.E, En.evsC, List.map_cons, List.map_nil, Nat.reduceBEq, Nat.reduceAdd, Nat.reduceMul, Nat.reduceEqDiff, Nat.reduceLeDiff, Nat.reduceLT, ne_eq, reduceCtorEq, Int.reduceBEq, Int.reduceBNe, Int.reduceAdd, Int.reduceSub, Int.reduceMul, Int.reduceTDiv, Int.reduceTMod, Int.reduceNeg, En.bitN, Nat.testBit, Nat.reduceShiftRight, Nat.reduceShiftLeft, Nat.reduceAnd, Nat.reduceOr, Nat.reduceBNe, Int.reduceToNat, Nat.reduceSub, Int.reduceLE, Int.reduceLT, En.vV, hs, hv, hT, hG, hF, smI, smH, d1, i1, g1, g2, g3, g4, hA, hB, ndC, Int.toNat_natCast]
      refine ⟨fun hb => ?_, fun hb => ⟨⟨i + 1, by omega, fun j hj => ?_⟩, (sle_all [1000, 1001] (by decide) (by simp only [En.E, En.evsC, List.map_cons, List.map_nil, Nat.reduceBEq, Nat.reduceAdd, Nat.reduceMul, Nat.reduceEqDiff, Nat.reduceLeDiff, Nat.reduceLT, ne_eq, reduceCtorEq, Int.reduceBEq, Int.reduceBNe, Int.reduceAdd, Int.reduceSub, Int.reduceMul, Int.reduceTDiv, Int.reduceTMod, Int.reduceNeg, En.bitN, Nat.testBit, Nat.reduceShiftRight, Nat.reduceShiftLeft, Nat.reduceAnd, Nat.reduceOr, Nat.reduceBNe, Int.reduceToNat, Nat.reduceSub, Int.reduceLE, Int.reduceLT, En.slLe, En.hpLe, En.chE, En.allLt, smI, smH, ndC, Int.natCast_add, Int.cast_ofNat_Int])), by show l.length - (i + 1) < l.length - i; omega⟩⟩
      · have hb : (!eqN (ndAt l i) (ndAt m i)) = true := hb
        have hqq : q = false := by
          rw [hq, sameV, Bool.and_eq_false_iff]
          right
          rw [List.all_eq_false]
          exact ⟨i, List.mem_range.2 hlt, by simpa using hb⟩
        rw [hqq]
      · have hb : (!eqN (ndAt l i) (ndAt m i)) = false := hb
        by_cases e : j = i
        · rw [e]; simpa using hb
        · exact hp j (by omega)
    · have d1 : decide ((i : Int) < (l.length : Int)) = false := decide_eq_false (by omega)
      have hqq : q = true := by
        rw [hq, sameV, Bool.and_eq_true, List.all_eq_true]
        exact ⟨by rw [hl]; simp, fun j hj => hp j (by have := List.mem_range.1 hj; omega)⟩
      simp (maxSteps := 10000000) only [En.E, En.evsC, List.map_cons, List.map_nil, Nat.reduceBEq, Nat.reduceAdd, Nat.reduceMul, Nat.reduceEqDiff, Nat.reduceLeDiff, Nat.reduceLT, ne_eq, reduceCtorEq, Int.reduceBEq, Int.reduceBNe, Int.reduceAdd, Int.reduceSub, Int.reduceMul, Int.reduceTDiv, Int.reduceTMod, Int.reduceNeg, En.bitN, Nat.testBit, Nat.reduceShiftRight, Nat.reduceShiftLeft, Nat.reduceAnd, Nat.reduceOr, Nat.reduceBNe, Int.reduceToNat, Nat.reduceSub, Int.reduceLE, Int.reduceLT, En.vV, hs, hv, hT, hG, hF, smI, smH, d1, hqq]
  · have d0 : ((l.length : Int) != (m.length : Int)) = true := by
      simp only [bne_iff_ne, ne_eq]; omega
    have hqq : q = false := by
      rw [hq, sameV, Bool.and_eq_false_iff]; left; simpa using hl
    simp (maxSteps := 10000000) only [En.E, En.evsC, List.map_cons, List.map_nil, Nat.reduceBEq, Nat.reduceAdd, Nat.reduceMul, Nat.reduceEqDiff, Nat.reduceLeDiff, Nat.reduceLT, ne_eq, reduceCtorEq, Int.reduceBEq, Int.reduceBNe, Int.reduceAdd, Int.reduceSub, Int.reduceMul, Int.reduceTDiv, Int.reduceTMod, Int.reduceNeg, En.bitN, Nat.testBit, Nat.reduceShiftRight, Nat.reduceShiftLeft, Nat.reduceAnd, Nat.reduceOr, Nat.reduceBNe, Int.reduceToNat, Nat.reduceSub, Int.reduceLE, Int.reduceLT, En.vV, hs, hv, hT, hG, hF, smH, d0, hqq]
end Pr
end Go.Proofs.YtpkldfkmokeamaaGreatDoor
/-
Chapter 15, plainly: a name replaced by an expression gives an expression.
-/
set_option linter.unusedSimpArgs false
set_option linter.unusedVariables false
namespace Go.Proofs.YtpkldfkmokeamaaGreatDoor
namespace Pr
open Go Go.RowKit En
open Ex
end Pr
end Go.Proofs.YtpkldfkmokeamaaGreatDoor
/-
Chapter 15: Replace, the program's and the reference's.
-/
set_option linter.unusedSimpArgs false
set_option linter.unusedVariables false
namespace Go.Proofs.YtpkldfkmokeamaaGreatDoor
namespace Pr
open Go Go.RowKit En
open Ex Rf
section
variable (l : List Nd) (A : Option Addr) (c : Nat) (wi : List Nd) (B : Option Addr) (d : Nat) (nm : ByteArray)
end
theorem rp0_s {k : Nat} : (den (SV.v (Value.slice none 0 0)) = den (SV.g k none 0 0)) = True := eq_true rfl
theorem rpgg {k k' n c : Nat} {A : Option Addr} : (den (SV.g k A n c) = den (SV.g k' A n c)) = True := eq_true rfl
end Pr
end Go.Proofs.YtpkldfkmokeamaaGreatDoor
/-
Chapter 15: the program's Replace.
-/
set_option linter.unusedSimpArgs false
set_option linter.unusedVariables false
namespace Go.Proofs.YtpkldfkmokeamaaGreatDoor
namespace Pr
open Go Go.RowKit En
open Ex Rf
section
variable (l : List Nd) (A : Option Addr) (c : Nat) (wi : List Nd) (B : Option Addr) (d : Nat) (nm : ByteArray) (bn on cn ba oa ca : Nat)
end
end Pr
end Go.Proofs.YtpkldfkmokeamaaGreatDoor
/-
Chapter 15: the walk of ExprReplaces.
-/
set_option linter.unusedSimpArgs false
set_option linter.unusedVariables false
namespace Go.Proofs.YtpkldfkmokeamaaGreatDoor
namespace Pr
open Go Go.RowKit En
open Ex Rf
end Pr
end Go.Proofs.YtpkldfkmokeamaaGreatDoor
