/-
Chapter 15: the reference's Ints and Depth; what its laws ask beforehand: Far, Example.
-/
import Derived.Test.YtpkldfkmokeamaaGreatDoorSz1
import Derived.Test.YtpkldfkmokeamaaGreatDoorCh1
set_option linter.unusedSimpArgs false
set_option linter.unusedVariables false
namespace Go.Proofs.YtpkldfkmokeamaaGreatDoor
namespace Pr
open Go Go.RowKit En
open Ex Rf
def itH (xs ys : List Int) (A : Option Addr) (c : Nat) (B : Option Addr) (d : Nat) : Hp := [(1000, .ints A c .i64 xs), (1001, .ints B d .i64 ys)]
def itI (xs ys : List Int) (A : Option Addr) (c : Nat) (B : Option Addr) (d i : Nat) : SS := ⟨[(0, .g 1000 A xs.length c), (1, .g 1001 B ys.length d), (5, .v (.int .i64 i))], itH xs ys A c B d, 3000⟩
def tlIt : List (TypeId × TI) := [tyInt, tyI64, tyBool, tyInts]
theorem tlIt_ok : TyAll Tryz.prog (lookT tlIt) := tyAll_p tyInt_ok <| tyAll_p tyI64_ok <| tyAll_p tyBool_ok <| tyAll_p tyInts_ok tyAll_nil
theorem getD_of {xs : List Int} {j : Nat} (h : j < xs.length) : xs[j]? = some (xs.getD j 0) := by
  rw [List.getD_eq_getElem?_getD, List.getElem?_eq_getElem h]; rfl
set_option maxRecDepth 100000 in
set_option maxHeartbeats 4000000 in
theorem ints15_any (xs ys : List Int) (hx : xs.length ≤ 9223372036854775807) (hy : ys.length ≤ 9223372036854775807) (A : Option Addr) (c : Nat) (B : Option Addr) (d : Nat) (w : World) (h : allRd w.heap.size w (itH xs ys A c B d)) :
    Calls Tryz.prog 23 #[.slice A xs.length c, .slice B ys.length d] w fun e w' => e = .returned (.bool (decide (xs = ys))) ∧ Below w.heap.size w w' := by
  obtain ⟨q, hq⟩ : ∃ q, q = decide (xs = ys) := ⟨_, rfl⟩
  rw [← hq]
  refine calls_go (args := [.g 1000 A xs.length c, .g 1001 B ys.length d]) (hp := itH xs ys A c B d) (nx := 1002) (n := 1000) (U := [(1000000, 11)]) (V := []) (tl := tlIt) (gl := gl0) (post := fun s ys => ys = [.v (.bool q)])
    followP tlIt_ok gl0_ok Tryz.func23 rfl (by kernel_rfl) (Nat.le_of_ble_eq_true (by kernel_rfl)) (by kernel_rfl) (by kernel_rfl) (hh_list h) (free_list (by simp [allLt, itH])) ?_ ?_
  · rintro s ys w' rfl H
    exact ⟨rfl, H.below⟩
  intro L F T G nd va hE
  obtain ⟨hL, hF, hs, hv, hT, hG, hR, hI, hJ, hW⟩ := hE
  rw [Tryz.results23] at hF
  simp (maxSteps := 1000000) only [En.nN, En.E, En.evsC, List.map_cons, List.map_nil, Nat.reduceBEq, Nat.reduceAdd, Nat.reduceMul, Nat.reduceEqDiff, Nat.reduceLeDiff, Nat.reduceLT, ne_eq, reduceCtorEq, Int.reduceBEq, Int.reduceBNe, Int.reduceAdd, Int.reduceSub, Int.reduceMul, Int.reduceTDiv, Int.reduceTMod, Int.reduceNeg, En.bitN, Nat.testBit, Nat.reduceShiftRight, Nat.reduceShiftLeft, Nat.reduceAnd, Nat.reduceOr, Nat.reduceBNe, Int.reduceToNat, Nat.reduceSub, Int.reduceLE, Int.reduceLT] at hv
  simp only [En.at_nil, En.at_cons, En.ag_nil, En.ag_cons, and_true, tlIt, gl0, tyInt, tyI64, tyBool, tyInts] at hT hG
  by_cases hl : xs.length = ys.length
  · have d0 : ((xs.length : Int) != (ys.length : Int)) = false := by rw [hl]; simp
    simp (maxSteps := 10000000) only [En.E, En.evsC, List.map_cons, List.map_nil, Nat.reduceBEq, Nat.reduceAdd, Nat.reduceMul, Nat.reduceEqDiff, Nat.reduceLeDiff, Nat.reduceLT, ne_eq, reduceCtorEq, Int.reduceBEq, Int.reduceBNe, Int.reduceAdd, Int.reduceSub, Int.reduceMul, Int.reduceTDiv, Int.reduceTMod, Int.reduceNeg, En.bitN, Nat.testBit, Nat.reduceShiftRight, Nat.reduceShiftLeft, Nat.reduceAnd, Nat.reduceOr, Nat.reduceBNe, Int.reduceToNat, Nat.reduceSub, Int.reduceLE, Int.reduceLT, En.vV, hs, hv, hT, hG, hF, itH, d0]
    refine hI {i : Nat // i ≤ xs.length ∧ ∀ j, j < i → xs.getD j 0 = ys.getD j 0} (fun x => itI xs ys A c B d x.1) (fun x => xs.length - x.1) _ _ _ ⟨0, Nat.zero_le _, fun j hj => absurd hj (Nat.not_lt_zero j)⟩ (sle_all [1000, 1001] (by decide) (by simp only [En.E, En.evsC, List.map_cons, List.map_nil, Nat.reduceBEq, Nat.reduceAdd, Nat.reduceMul, Nat.reduceEqDiff, Nat.reduceLeDiff, Nat.reduceLT, ne_eq, reduceCtorEq, Int.reduceBEq, Int.reduceBNe, Int.reduceAdd, Int.reduceSub, Int.reduceMul, Int.reduceTDiv, Int.reduceTMod, Int.reduceNeg, En.bitN, Nat.testBit, Nat.reduceShiftRight, Nat.reduceShiftLeft, Nat.reduceAnd, Nat.reduceOr, Nat.reduceBNe, Int.reduceToNat, Nat.reduceSub, Int.reduceLE, Int.reduceLT, En.slLe, En.hpLe, En.chE, En.allLt, itI, itH, Int.cast_ofNat_Int])) ?_
    rintro ⟨i, hi, hp⟩
    refine hR 1000 _ _ ?_
    by_cases hlt : i < xs.length
    · have d1 : decide ((i : Int) < (xs.length : Int)) = true := decide_eq_true (by omega)
      have i1 : inr .i64 ((i : Int) + 1) := by simp only [En.inr, En.lo, En.hi]; omega
      have g1 : (0 : Int) ≤ i ∧ (i : Int) < xs.length := by omega
      have g2 : (0 : Int) ≤ i ∧ (i : Int) < ys.length := by omega
      have g3 : (0 : Int) ≤ i ∧ i < xs.length := by omega
      have g4 : (0 : Int) ≤ i ∧ i < ys.length := by omega
      have hA : ¬A = none := slok_some h.1.1 (by omega)
      have hB : ¬B = none := slok_some h.2.1.1 (by omega)
      by_cases he : xs.getD i 0 = ys.getD i 0
      · have d2 : (xs.getD i 0 != ys.getD i 0) = false := by rw [he]; simp
        simp (maxSteps := 10000000) only [En.E, En.evsC, List.map_cons, List.map_nil, Nat.reduceBEq, Nat.reduceAdd, Nat.reduceMul, Nat.reduceEqDiff, Nat.reduceLeDiff, Nat.reduceLT, ne_eq, reduceCtorEq, Int.reduceBEq, Int.reduceBNe, Int.reduceAdd, Int.reduceSub, Int.reduceMul, Int.reduceTDiv, Int.reduceTMod, Int.reduceNeg, En.bitN, Nat.testBit, Nat.reduceShiftRight, Nat.reduceShiftLeft, Nat.reduceAnd, Nat.reduceOr, Nat.reduceBNe, Int.reduceToNat, Nat.reduceSub, Int.reduceLE, Int.reduceLT, En.vV, hs, hv, hT, hG, hF, itI, itH, d1, d2, i1, g1, g2, g3, g4, hA, hB, Int.toNat_natCast]
        refine ⟨⟨i + 1, by omega, fun j hj => ?_⟩, (sle_all [1000, 1001] (by decide) (by simp only [En.E, En.evsC, List.map_cons, List.map_nil, Nat.reduceBEq, Nat.reduceAdd, Nat.reduceMul, Nat.reduceEqDiff, Nat.reduceLeDiff, Nat.reduceLT, ne_eq, reduceCtorEq, Int.reduceBEq, Int.reduceBNe, Int.reduceAdd, Int.reduceSub, Int.reduceMul, Int.reduceTDiv, Int.reduceTMod, Int.reduceNeg, En.bitN, Nat.testBit, Nat.reduceShiftRight, Nat.reduceShiftLeft, Nat.reduceAnd, Nat.reduceOr, Nat.reduceBNe, Int.reduceToNat, Nat.reduceSub, Int.reduceLE, Int.reduceLT, En.slLe, En.hpLe, En.chE, En.allLt, itI, itH, Int.natCast_add, Int.cast_ofNat_Int])), by show xs.length - (i + 1) < xs.length - i; omega⟩
        by_cases e : j = i
        · rw [e]; exact he
        · exact hp j (by omega)
      · have d2 : (xs.getD i 0 != ys.getD i 0) = true := by simpa using he
        have hqq : q = false := by
          rw [hq]; refine decide_eq_false fun e => he ?_
          rw [e]
        simp (maxSteps := 10000000) only [En.E, En.evsC, List.map_cons, List.map_nil, Nat.reduceBEq, Nat.reduceAdd, Nat.reduceMul, Nat.reduceEqDiff, Nat.reduceLeDiff, Nat.reduceLT, ne_eq, reduceCtorEq, Int.reduceBEq, Int.reduceBNe, Int.reduceAdd, Int.reduceSub, Int.reduceMul, Int.reduceTDiv, Int.reduceTMod, Int.reduceNeg, En.bitN, Nat.testBit, Nat.reduceShiftRight, Nat.reduceShiftLeft, Nat.reduceAnd, Nat.reduceOr, Nat.reduceBNe, Int.reduceToNat, Nat.reduceSub, Int.reduceLE, Int.reduceLT, En.vV, hs, hv, hT, hG, hF, itI, itH, d1, d2, i1, g1, g2, g3, g4, hA, hB, Int.toNat_natCast, hqq]
    · have d1 : decide ((i : Int) < (xs.length : Int)) = false := decide_eq_false (by omega)
      have hqq : q = true := by
        rw [hq]; refine decide_eq_true ?_
        apply List.ext_getElem? fun j => ?_
        by_cases hj : j < xs.length
        · rw [getD_of hj, getD_of (by omega), hp j (by omega)]
        · rw [List.getElem?_eq_none (by omega), List.getElem?_eq_none (by omega)]
      simp (maxSteps := 10000000) only [En.E, En.evsC, List.map_cons, List.map_nil, Nat.reduceBEq, Nat.reduceAdd, Nat.reduceMul, Nat.reduceEqDiff, Nat.reduceLeDiff, Nat.reduceLT, ne_eq, reduceCtorEq, Int.reduceBEq, Int.reduceBNe, Int.reduceAdd, Int.reduceSub, Int.reduceMul, Int.reduceTDiv, Int.reduceTMod, Int.reduceNeg, En.bitN, Nat.testBit, Nat.reduceShiftRight, Nat.reduceShiftLeft, Nat.reduceAnd, Nat.reduceOr, Nat.reduceBNe, Int.reduceToNat, Nat.reduceSub, Int.reduceLE, Int.reduceLT, En.vV, hs, hv, hT, hG, hF, itI, itH, d1, hqq]
  · have d0 : ((xs.length : Int) != (ys.length : Int)) = true := by
      simp only [bne_iff_ne, ne_eq]; omega
    have hqq : q = false := by
      rw [hq]; exact decide_eq_false fun e => hl (by rw [e])
    simp (maxSteps := 10000000) only [En.E, En.evsC, List.map_cons, List.map_nil, Nat.reduceBEq, Nat.reduceAdd, Nat.reduceMul, Nat.reduceEqDiff, Nat.reduceLeDiff, Nat.reduceLT, ne_eq, reduceCtorEq, Int.reduceBEq, Int.reduceBNe, Int.reduceAdd, Int.reduceSub, Int.reduceMul, Int.reduceTDiv, Int.reduceTMod, Int.reduceNeg, En.bitN, Nat.testBit, Nat.reduceShiftRight, Nat.reduceShiftLeft, Nat.reduceAnd, Nat.reduceOr, Nat.reduceBNe, Int.reduceToNat, Nat.reduceSub, Int.reduceLE, Int.reduceLT, En.vV, hs, hv, hT, hG, hF, itH, d0, hqq]
def intsR : Option (List Int) → Option (List Int) → Res
  | some xs, some ys => .is (xs.length ≤ 9223372036854775807 ∧ ys.length ≤ 9223372036854775807) (.v (.bool (decide (xs = ys))))
  | _, _ => .bad
def spInts15 : Spc
  | [x, y], H, _ => intsR (getN H x) (getN H y)
  | _, _, _ => .bad
theorem spInts15_q {x y : SV} {H : Nat → Ch} {nx : Nat} : spInts15 [x, y] H nx = intsR (getN H x) (getN H y) := rfl
theorem intsR_q {xs ys : List Int} : intsR (some xs) (some ys) = .is (xs.length ≤ 9223372036854775807 ∧ ys.length ≤ 9223372036854775807) (.v (.bool (decide (xs = ys)))) := rfl
theorem spInts15_ok : SpecOk Tryz.prog 23 spInts15 := by
  intro args hp nx w0 O w H hv
  unfold spInts15 at hv ⊢
  split at hv
  · next x y =>
    cases hx : getN (lookH hp) x with
    | none => rw [hx] at hv; exact hv.elim
    | some xs =>
      cases hy : getN (lookH hp) y with
      | none => rw [hx, hy] at hv; exact hv.elim
      | some ys =>
        rw [hx, hy] at hv
        obtain ⟨h1, h2⟩ := hv
        obtain ⟨A, c, e1, s1, _⟩ := getN_ok H hx
        obtain ⟨B, d, e2, s2, _⟩ := getN_ok H hy
        have : (dens [x, y]).toArray = #[.slice A xs.length c, .slice B ys.length d] := by rw [← e1, ← e2]; rfl
        rw [this]
        refine (ints15_any xs ys h1 h2 A c B d w ⟨⟨s1, rfl⟩, ⟨s2, rfl⟩, trivial⟩).mono ?_
        rintro e w' ⟨rfl, hb⟩
        exact ⟨⟨0, none, 0, none, 0, mz⟩, rfl, .still hb⟩
  · exact hv.elim
end Pr
end Go.Proofs.YtpkldfkmokeamaaGreatDoor
/-
Chapter 15: what its laws ask beforehand: Far, Example, shown.
-/
set_option linter.unusedSimpArgs false
set_option linter.unusedVariables false
namespace Go.Proofs.YtpkldfkmokeamaaGreatDoor
namespace Pr
open Go Go.RowKit En
open Ex Rf
def zsR (l : List Nd) : Prop := ∀ i, i < l.length → (ndAt l i).nm.size ≤ 140737488351232 ∧ (ndAt l i).tx.size ≤ 140737488351232
def sumN (l : List Nd) : Nat → Nat
  | 0 => 0
  | i + 1 => sumN l i + (ndAt l i).nm.size + (ndAt l i).tx.size
theorem sumN_le {l : List Nd} (hz : zsR l) : ∀ i, i ≤ l.length → sumN l i ≤ i * 281474976702464
  | 0, _ => Nat.le_refl _
  | i + 1, h => by
    have := sumN_le hz i (by omega)
    have h1 := hz i (by omega)
    rw [sumN]
    omega
theorem sumN_mono {l : List Nd} {i : Nat} : ∀ {j : Nat}, i < j → (ndAt l i).nm.size ≤ sumN l j ∧ (ndAt l i).tx.size ≤ sumN l j
  | 0, h => absurd h (Nat.not_lt_zero i)
  | j + 1, h => by
    rw [sumN]
    by_cases e : i = j
    · subst e; omega
    · have := @sumN_mono l i j (by omega); omega
def farN (n : Nat) : Bool := bif (bif decide ((n : Int) > 60) then decide ((n : Int) ≤ 400) else false) then true else decide ((n : Int) > 405)
def far15V (l : List Nd) : Bool := bif farN l.length then true else decide ((sumN l l.length : Int) > 1000)
theorem farN_no {n : Nat} (h : farN n = false) : n ≤ 60 ∨ 400 < n ∧ n ≤ 405 := by
  rw [farN] at h
  cases h1 : decide ((n : Int) > 60) with
  | true =>
    rw [h1] at h
    cases h2 : decide ((n : Int) ≤ 400) with
    | true => rw [h2] at h; cases h
    | false =>
      rw [h2] at h
      have h3 := of_decide_eq_false h2
      have h4 : decide ((n : Int) > 405) = false := h
      have h5 := of_decide_eq_false h4
      omega
  | false => have := of_decide_eq_false h1; omega
theorem far15_no {l : List Nd} (h : far15V l = false) : l.length ≤ 405 ∧ (l.length ≤ 60 ∨ 400 < l.length) ∧ zsN l ∧ l.length ≤ 100000 := by
  rw [far15V] at h
  cases h1 : farN l.length with
  | true => rw [h1] at h; cases h
  | false =>
    rw [h1] at h
    have h2 : decide ((sumN l l.length : Int) > 1000) = false := h
    have h3 := of_decide_eq_false h2
    have h4 := farN_no h1
    refine ⟨by omega, by omega, fun i hi => ?_, by omega⟩
    have := @sumN_mono l i l.length hi
    omega
def faI (l : List Nd) (A : Option Addr) (c i : Nat) : SS := ⟨[(0, .g 1000 A l.length c), (3, .v (.int .i64 (sumN l i))), (4, .v (.int .i64 i))], rdH l A c, 3000⟩
set_option maxRecDepth 100000 in
set_option maxHeartbeats 4000000 in
theorem far15_any (l : List Nd) (hlen : l.length ≤ 9223372036854775807) (hz : zsR l) (A : Option Addr) (c : Nat) (w : World) (h : allRd w.heap.size w (rdH l A c)) :
    Calls Tryz.prog 11 #[.slice A l.length c] w fun e w' => e = .returned (.bool (far15V l)) ∧ Below w.heap.size w w' := by
  obtain ⟨q, hq⟩ : ∃ q, q = far15V l := ⟨_, rfl⟩
  rw [← hq]
  refine calls_go (args := [.g 1000 A l.length c]) (hp := rdH l A c) (nx := 1001) (n := 1000) (U := [(1000000, 18)]) (V := []) (tl := tlRe) (gl := gl0) (post := fun s ys => ys = [.v (.bool q)])
    followP tlRe_ok gl0_ok Tryz.func11 rfl (by kernel_rfl) (Nat.le_of_ble_eq_true (by kernel_rfl)) (by kernel_rfl) (by kernel_rfl) (hh_list h) (free_list (by simp [allLt, rdH])) ?_ ?_
  · rintro s ys w' rfl H
    exact ⟨rfl, H.below⟩
  intro L F T G nd va hE
  obtain ⟨hL, hF, hs, hv, hT, hG, hR, hI, hJ, hW⟩ := hE
  rw [Tryz.results11] at hF
  simp (maxSteps := 1000000) only [En.nN, En.E, En.evsC, List.map_cons, List.map_nil, Nat.reduceBEq, Nat.reduceAdd, Nat.reduceMul, Nat.reduceEqDiff, Nat.reduceLeDiff, Nat.reduceLT, ne_eq, reduceCtorEq, Int.reduceBEq, Int.reduceBNe, Int.reduceAdd, Int.reduceSub, Int.reduceMul, Int.reduceTDiv, Int.reduceTMod, Int.reduceNeg, En.bitN, Nat.testBit, Nat.reduceShiftRight, Nat.reduceShiftLeft, Nat.reduceAnd, Nat.reduceOr, Nat.reduceBNe, Int.reduceToNat, Nat.reduceSub, Int.reduceLE, Int.reduceLT] at hv
  simp only [En.at_nil, En.at_cons, En.ag_nil, En.ag_cons, and_true, tlRe, gl0, tyInt, tyI64, tyBool, tyStr, tyErr, tyNode, tyNodes, tyInts] at hT hG
  rw [far15V] at hq
  cases hf : farN l.length with
  | true =>
    rw [hf] at hq
    have hqq : q = true := hq
    subst hqq
    rw [farN] at hf
    cases h1 : decide ((l.length : Int) > 60) with
    | true =>
      rw [h1] at hf
      cases h2 : decide ((l.length : Int) ≤ 400) with
      | true =>
        rw [h2] at hf
        simp (maxSteps := 10000000) only [En.E, En.evsC, List.map_cons, List.map_nil, Nat.reduceBEq, Nat.reduceAdd, Nat.reduceMul, Nat.reduceEqDiff, Nat.reduceLeDiff, Nat.reduceLT, ne_eq, reduceCtorEq, Int.reduceBEq, Int.reduceBNe, Int.reduceAdd, Int.reduceSub, Int.reduceMul, Int.reduceTDiv, Int.reduceTMod, Int.reduceNeg, En.bitN, Nat.testBit, Nat.reduceShiftRight, Nat.reduceShiftLeft, Nat.reduceAnd, Nat.reduceOr, Nat.reduceBNe, Int.reduceToNat, Nat.reduceSub, Int.reduceLE, Int.reduceLT, En.vV, hs, hv, hT, hG, hF, rdH, h1, h2, Bool.false_eq_true]
      | false =>
        rw [h2] at hf
        have h3 : decide ((l.length : Int) > 405) = true := hf
        simp (maxSteps := 10000000) only [En.E, En.evsC, List.map_cons, List.map_nil, Nat.reduceBEq, Nat.reduceAdd, Nat.reduceMul, Nat.reduceEqDiff, Nat.reduceLeDiff, Nat.reduceLT, ne_eq, reduceCtorEq, Int.reduceBEq, Int.reduceBNe, Int.reduceAdd, Int.reduceSub, Int.reduceMul, Int.reduceTDiv, Int.reduceTMod, Int.reduceNeg, En.bitN, Nat.testBit, Nat.reduceShiftRight, Nat.reduceShiftLeft, Nat.reduceAnd, Nat.reduceOr, Nat.reduceBNe, Int.reduceToNat, Nat.reduceSub, Int.reduceLE, Int.reduceLT, En.vV, hs, hv, hT, hG, hF, rdH, h1, h2, h3, Bool.false_eq_true]
    | false =>
      rw [h1] at hf
      have h3 : decide ((l.length : Int) > 405) = true := hf
      simp (maxSteps := 10000000) only [En.E, En.evsC, List.map_cons, List.map_nil, Nat.reduceBEq, Nat.reduceAdd, Nat.reduceMul, Nat.reduceEqDiff, Nat.reduceLeDiff, Nat.reduceLT, ne_eq, reduceCtorEq, Int.reduceBEq, Int.reduceBNe, Int.reduceAdd, Int.reduceSub, Int.reduceMul, Int.reduceTDiv, Int.reduceTMod, Int.reduceNeg, En.bitN, Nat.testBit, Nat.reduceShiftRight, Nat.reduceShiftLeft, Nat.reduceAnd, Nat.reduceOr, Nat.reduceBNe, Int.reduceToNat, Nat.reduceSub, Int.reduceLE, Int.reduceLT, En.vV, hs, hv, hT, hG, hF, rdH, h1, h3, Bool.false_eq_true]
  | false =>
    rw [hf] at hq
    have hqq : q = decide ((sumN l l.length : Int) > 1000) := hq
    have hn := farN_no hf
    have h3 : decide ((l.length : Int) > 405) = false := decide_eq_false (by omega)
    have key : L [.code (.loop (nd 17)), .blk 0, .code (nd 27)] (faI l A c 0) := by
      refine hI {i : Nat // i ≤ l.length} (fun x => faI l A c x.1) (fun x => l.length - x.1) _ _ _ ⟨0, Nat.zero_le _⟩ (sle_all [1000] (by decide) (by simp only [En.E, En.evsC, List.map_cons, List.map_nil, Nat.reduceBEq, Nat.reduceAdd, Nat.reduceMul, Nat.reduceEqDiff, Nat.reduceLeDiff, Nat.reduceLT, ne_eq, reduceCtorEq, Int.reduceBEq, Int.reduceBNe, Int.reduceAdd, Int.reduceSub, Int.reduceMul, Int.reduceTDiv, Int.reduceTMod, Int.reduceNeg, En.bitN, Nat.testBit, Nat.reduceShiftRight, Nat.reduceShiftLeft, Nat.reduceAnd, Nat.reduceOr, Nat.reduceBNe, Int.reduceToNat, Nat.reduceSub, Int.reduceLE, Int.reduceLT, En.slLe, En.hpLe, En.chE, En.allLt, faI, rdH, Int.cast_ofNat_Int])) ?_
      rintro ⟨i, hi⟩
      refine hR 1000 _ _ ?_
      by_cases hlt : i < l.length
      · have d1 : decide ((i : Int) < (l.length : Int)) = true := decide_eq_true (by omega)
        have hs1 := sumN_le hz i hi
        have hs2 := hz i hlt
        have i0 : inr .i64 ((i : Int) + 1) := by simp only [En.inr, En.lo, En.hi]; omega
        have i1 : inr .i64 ((sumN l i : Int) + ((ndAt l i).nm.size : Int)) := by simp only [En.inr, En.lo, En.hi]; omega
        have i2 : inr .i64 ((sumN l i : Int) + ((ndAt l i).nm.size : Int) + ((ndAt l i).tx.size : Int)) := by simp only [En.inr, En.lo, En.hi]; omega
        have g1 : (0 : Int) ≤ i ∧ (i : Int) < l.length := by omega
        have g2 : (0 : Int) ≤ i ∧ i < l.length := by omega
        have hA : ¬A = none := slok_some h.1.1.1 (by omega)
        have e1 : (sumN l i : Int) + ((ndAt l i).nm.size : Int) + ((ndAt l i).tx.size : Int) = ((sumN l (i + 1) : Nat) : Int) := by rw [sumN]; omega
        rw [e1] at i2
        simp (maxSteps := 10000000) only [En.E, En.evsC, List.map_cons, List.map_nil, Nat.reduceBEq, Nat.reduceAdd, Nat.reduceMul, Nat.reduceEqDiff, Nat.reduceLeDiff, Nat.reduceLT, ne_eq, reduceCtorEq, Int.reduceBEq, Int.reduceBNe, Int.reduceAdd, Int.reduceSub, Int.reduceMul, Int.reduceTDiv, Int.reduceTMod, Int.reduceNeg, En.bitN, Nat.testBit, Nat.reduceShiftRight, Nat.reduceShiftLeft, Nat.reduceAnd, Nat.reduceOr, Nat.reduceBNe, Int.reduceToNat, Nat.reduceSub, Int.reduceLE, Int.reduceLT, En.vV, hs, hv, hT, hG, hF, faI, rdH, d1, i0, i1, e1, i2, g1, g2, hA, ndC_n, Int.toNat_natCast]
        exact ⟨⟨i + 1, by omega⟩, (sle_all [1000] (by decide) (by simp only [En.E, En.evsC, List.map_cons, List.map_nil, Nat.reduceBEq, Nat.reduceAdd, Nat.reduceMul, Nat.reduceEqDiff, Nat.reduceLeDiff, Nat.reduceLT, ne_eq, reduceCtorEq, Int.reduceBEq, Int.reduceBNe, Int.reduceAdd, Int.reduceSub, Int.reduceMul, Int.reduceTDiv, Int.reduceTMod, Int.reduceNeg, En.bitN, Nat.testBit, Nat.reduceShiftRight, Nat.reduceShiftLeft, Nat.reduceAnd, Nat.reduceOr, Nat.reduceBNe, Int.reduceToNat, Nat.reduceSub, Int.reduceLE, Int.reduceLT, En.slLe, En.hpLe, En.chE, En.allLt, faI, rdH, Int.natCast_add, Int.cast_ofNat_Int])), by show l.length - (i + 1) < l.length - i; omega⟩
      · have d1 : decide ((i : Int) < (l.length : Int)) = false := decide_eq_false (by omega)
        obtain rfl : i = l.length := by omega
        simp (maxSteps := 10000000) only [En.E, En.evsC, List.map_cons, List.map_nil, Nat.reduceBEq, Nat.reduceAdd, Nat.reduceMul, Nat.reduceEqDiff, Nat.reduceLeDiff, Nat.reduceLT, ne_eq, reduceCtorEq, Int.reduceBEq, Int.reduceBNe, Int.reduceAdd, Int.reduceSub, Int.reduceMul, Int.reduceTDiv, Int.reduceTMod, Int.reduceNeg, En.bitN, Nat.testBit, Nat.reduceShiftRight, Nat.reduceShiftLeft, Nat.reduceAnd, Nat.reduceOr, Nat.reduceBNe, Int.reduceToNat, Nat.reduceSub, Int.reduceLE, Int.reduceLT, En.vV, hs, hv, hT, hG, hF, faI, rdH, d1, hqq]
    cases h1 : decide ((l.length : Int) > 60) with
    | true =>
      have h2 : decide ((l.length : Int) ≤ 400) = false := by
        have := of_decide_eq_true h1
        exact decide_eq_false (by omega)
      simp (maxSteps := 10000000) only [En.E, En.evsC, List.map_cons, List.map_nil, Nat.reduceBEq, Nat.reduceAdd, Nat.reduceMul, Nat.reduceEqDiff, Nat.reduceLeDiff, Nat.reduceLT, ne_eq, reduceCtorEq, Int.reduceBEq, Int.reduceBNe, Int.reduceAdd, Int.reduceSub, Int.reduceMul, Int.reduceTDiv, Int.reduceTMod, Int.reduceNeg, En.bitN, Nat.testBit, Nat.reduceShiftRight, Nat.reduceShiftLeft, Nat.reduceAnd, Nat.reduceOr, Nat.reduceBNe, Int.reduceToNat, Nat.reduceSub, Int.reduceLE, Int.reduceLT, En.vV, hs, hv, hT, hG, hF, rdH, h1, h2, h3, Bool.false_eq_true]
      exact hW _ _ _ (sle_all [1000] (by decide) (by simp only [En.E, En.evsC, List.map_cons, List.map_nil, Nat.reduceBEq, Nat.reduceAdd, Nat.reduceMul, Nat.reduceEqDiff, Nat.reduceLeDiff, Nat.reduceLT, ne_eq, reduceCtorEq, Int.reduceBEq, Int.reduceBNe, Int.reduceAdd, Int.reduceSub, Int.reduceMul, Int.reduceTDiv, Int.reduceTMod, Int.reduceNeg, En.bitN, Nat.testBit, Nat.reduceShiftRight, Nat.reduceShiftLeft, Nat.reduceAnd, Nat.reduceOr, Nat.reduceBNe, Int.reduceToNat, Nat.reduceSub, Int.reduceLE, Int.reduceLT, En.slLe, En.hpLe, En.chE, En.allLt, faI, rdH, sumN, Int.cast_ofNat_Int])) key
    | false =>
      simp (maxSteps := 10000000) only [En.E, En.evsC, List.map_cons, List.map_nil, Nat.reduceBEq, Nat.reduceAdd, Nat.reduceMul, Nat.reduceEqDiff, Nat.reduceLeDiff, Nat.reduceLT, ne_eq, reduceCtorEq, Int.reduceBEq, Int.reduceBNe, Int.reduceAdd, Int.reduceSub, Int.reduceMul, Int.reduceTDiv, Int.reduceTMod, Int.reduceNeg, En.bitN, Nat.testBit, Nat.reduceShiftRight, Nat.reduceShiftLeft, Nat.reduceAnd, Nat.reduceOr, Nat.reduceBNe, Int.reduceToNat, Nat.reduceSub, Int.reduceLE, Int.reduceLT, En.vV, hs, hv, hT, hG, hF, rdH, h1, h3, Bool.false_eq_true]
      exact hW _ _ _ (sle_all [1000] (by decide) (by simp only [En.E, En.evsC, List.map_cons, List.map_nil, Nat.reduceBEq, Nat.reduceAdd, Nat.reduceMul, Nat.reduceEqDiff, Nat.reduceLeDiff, Nat.reduceLT, ne_eq, reduceCtorEq, Int.reduceBEq, Int.reduceBNe, Int.reduceAdd, Int.reduceSub, Int.reduceMul, Int.reduceTDiv, Int.reduceTMod, Int.reduceNeg, En.bitN, Nat.testBit, Nat.reduceShiftRight, Nat.reduceShiftLeft, Nat.reduceAnd, Nat.reduceOr, Nat.reduceBNe, Int.reduceToNat, Nat.reduceSub, Int.reduceLE, Int.reduceLT, En.slLe, En.hpLe, En.chE, En.allLt, faI, rdH, sumN, Int.cast_ofNat_Int])) key
def spFar15 : Spc
  | [.g k A n c], H, _ => .is (NdR A n c (H k) ∧ n ≤ 9223372036854775807 ∧ zsR (chL n (H k))) (.v (.bool (far15V (chL n (H k)))))
  | _, _, _ => .bad
theorem spFar15_q {k n c : Nat} {A : Option Addr} {H : Nat → Ch} {nx : Nat} : spFar15 [.g k A n c] H nx = .is (NdR A n c (H k) ∧ n ≤ 9223372036854775807 ∧ zsR (chL n (H k))) (.v (.bool (far15V (chL n (H k))))) := rfl
theorem spFar15_ok : SpecOk Tryz.prog 11 spFar15 := by
  intro args hp nx w0 O w H hv
  unfold spFar15 at hv ⊢
  split at hv
  · next k A n c =>
    obtain ⟨h1, hn, hz⟩ := hv
    obtain ⟨hl, hh⟩ := NdR_hold h1 (H.hold k)
    generalize chL n (lookH hp k) = l at hl hh hz ⊢
    subst hl
    refine (far15_any l hn hz A c w ⟨⟨hh _, rfl⟩, trivial⟩).mono ?_
    rintro e w' ⟨rfl, hb⟩
    exact ⟨⟨0, none, 0, none, 0, mz⟩, rfl, .still hb⟩
  · exact hv.elim
def exE : List Nd := [⟨5, 15, 2, ⟨#[]⟩, ⟨#[]⟩, 0, 0⟩, ⟨6, 0, 1, ⟨#[102]⟩, ⟨#[]⟩, 0, 0⟩, ⟨4, 0, 0, ⟨#[120]⟩, ⟨#[]⟩, 0, 0⟩, ⟨3, 0, 2, ⟨#[]⟩, ⟨#[]⟩, 0, 0⟩, ⟨1, 0, 0, ⟨#[]⟩, ⟨#[]⟩, 1, 0⟩, ⟨1, 0, 0, ⟨#[]⟩, ⟨#[]⟩, 2, 0⟩]
theorem example15_any : MakesN 36 exE := by
  intro w
  refine calls_go (args := []) (hp := []) (nx := 1000) (n := 200) (U := []) (V := []) (tl := tlRe) (gl := gl0) (post := fun s ys => ∃ k b t, ys = [.gp k b 0 6 6] ∧ lookH s.hp k = .blk b (exE.flatMap ndC) t)
    followP tlRe_ok gl0_ok Tryz.func36 rfl (by kernel_rfl) (Nat.le_of_ble_eq_true (by kernel_rfl)) (by kernel_rfl) (by kernel_rfl) (hh_list trivial) (fun _ _ => rfl) ?_ ?_
  · rintro s ys w' ⟨k, b, t, rfl, hk⟩ H
    have hh := hk ▸ H.hold k
    exact ⟨some ⟨b, 0, none⟩, 6, rfl, H.below, blk_nodes hh rfl, fun a ha => by cases ha; exact hh.1⟩
  intro L F T G nd va hE
  obtain ⟨hL, hF, hs, hv, hT, hG, hR, hI, hJ, hW⟩ := hE
  rw [Tryz.results36] at hF
  simp (maxSteps := 1000000) only [En.nN, En.E, En.evsC, List.map_cons, List.map_nil, Nat.reduceBEq, Nat.reduceAdd, Nat.reduceMul, Nat.reduceEqDiff, Nat.reduceLeDiff, Nat.reduceLT, ne_eq, reduceCtorEq, Int.reduceBEq, Int.reduceBNe, Int.reduceAdd, Int.reduceSub, Int.reduceMul, Int.reduceTDiv, Int.reduceTMod, Int.reduceNeg, En.bitN, Nat.testBit, Nat.reduceShiftRight, Nat.reduceShiftLeft, Nat.reduceAnd, Nat.reduceOr, Nat.reduceBNe, Int.reduceToNat, Nat.reduceSub, Int.reduceLE, Int.reduceLT] at hv
  simp only [En.at_nil, En.at_cons, En.ag_nil, En.ag_cons, and_true, tlRe, gl0, tyInt, tyI64, tyBool, tyStr, tyErr, tyNode, tyNodes, tyInts] at hT hG
  simp (maxSteps := 10000000) only [En.E, En.evsC, List.map_cons, List.map_nil, Nat.reduceBEq, Nat.reduceAdd, Nat.reduceMul, Nat.reduceEqDiff, Nat.reduceLeDiff, Nat.reduceLT, ne_eq, reduceCtorEq, Int.reduceBEq, Int.reduceBNe, Int.reduceAdd, Int.reduceSub, Int.reduceMul, Int.reduceTDiv, Int.reduceTMod, Int.reduceNeg, En.bitN, Nat.testBit, Nat.reduceShiftRight, Nat.reduceShiftLeft, Nat.reduceAnd, Nat.reduceOr, Nat.reduceBNe, Int.reduceToNat, Nat.reduceSub, Int.reduceLE, Int.reduceLT, En.vV, hs, hv, hT, hG, hF, ]
  exact fun b => ⟨1000, b, _, rfl, rfl⟩
theorem ax1 : sizV exE 0 = 6 := by kernel_rfl
theorem ax0 : askV exE 0 = 0 := by kernel_rfl
theorem ax2 : depV exE 0 = 3 := by kernel_rfl
theorem ax3 : kidI exE 0 = [1, 3] := by kernel_rfl
theorem ax4 : ordI exE 0 = [3, 2, 1, 0] := by kernel_rfl
theorem ax6 : askV exE 4 = 7 := by kernel_rfl
end Pr
end Go.Proofs.YtpkldfkmokeamaaGreatDoor
/-
Chapter 15: shown.
-/
set_option linter.unusedSimpArgs false
set_option linter.unusedVariables false
namespace Go.Proofs.YtpkldfkmokeamaaGreatDoor
namespace Pr
open Go Go.RowKit En
open Ex Rf
def glSh : List (FuncId × Spc) := [(36, spNodes exE), (17, spSizeP), (19, spDepthP), (21, spKidsP), (24, spOrder), (13, spExC), (15, spName15), (23, spInts15)]
theorem glSh_ok : GOk Tryz.prog (lookG glSh) := lG_cons (by kernel_rfl) (spNodes_ok example15_any) <| lG_cons (by kernel_rfl) spSizeP_ok <| lG_cons (by kernel_rfl) spDepthP_ok <| lG_cons (by kernel_rfl) spKidsP_ok <| lG_cons (by kernel_rfl) spOrder_ok <| lG_cons (by kernel_rfl) spExC_ok <| lG_cons (by kernel_rfl) spName15_ok <| lG_cons (by kernel_rfl) spInts15_ok lG_nil
theorem zs_exE : zsN exE := by unfold zsN; decide +kernel
theorem zs_exT : zsN ((exE.drop 0).take 5) := by unfold zsN; decide +kernel
theorem ax7 : nameV ⟨#[120, 49]⟩ = true := by kernel_rfl
theorem ax8 : nameV ⟨#[97, 100, 100]⟩ = false := by kernel_rfl
theorem ax9 : nameV ⟨#[101, 110, 100]⟩ = false := by kernel_rfl
theorem ax10 : (chkV exE).2 = 0 := by kernel_rfl
theorem ax11 : chkV ((exE.drop 0).take 5) = (3, 6) := by kernel_rfl
theorem chL_6 {A : Option Addr} {c : Nat} : chL 6 (.recs A c 7 6 fun i => ndC (ndAt exE i)) = exE := chL_q exE A c
theorem NdR_6 {A : Option Addr} {c : Nat} : NdR A 6 c (.recs A c 7 6 fun i => ndC (ndAt exE i)) = True := NdR_q exE A c
theorem NdR_5 {A : Option Addr} {c : Nat} : NdR A 5 c (.recs A c 7 5 fun i => ndC (ndAt exE i)) = True := by
  have := @NdR_s exE 0 5 c A
  simpa only [Nat.zero_add] using this
theorem chL_5 {A : Option Addr} {c : Nat} : chL 5 (.recs A c 7 5 fun i => ndC (ndAt exE i)) = (exE.drop 0).take 5 := by
  have := @chL_s exE 0 5 c A (by decide)
  simpa only [Nat.zero_add] using this
set_option maxRecDepth 100000 in
set_option maxHeartbeats 4000000 in
theorem shown15_any (bn on cn ba oa ca : Nat) (h4 : 4 ≤ cn) (h3 : 3 ≤ ca) (w : World) (h : allRd w.heap.size w (gHu bn on cn ba oa ca)) :
    Calls Tryz.prog 12 #[] w fun e w' => e = .returned (.bool true) ∧ Below w.heap.size w w' := by
  refine calls_go (args := []) (hp := gHu bn on cn ba oa ca) (nx := 1000) (n := 400) (U := [(1000000, 13)]) (V := []) (tl := tlRe) (gl := glSh) (post := fun s ys => ys = [.v (.bool true)])
    followP tlRe_ok glSh_ok Tryz.func12 rfl (by kernel_rfl) (Nat.le_of_ble_eq_true (by kernel_rfl)) (by kernel_rfl) (by kernel_rfl) (hh_list h) (free_list (by simp [allLt, gHu, gHp])) ?_ ?_
  · rintro s ys w' rfl H
    exact ⟨rfl, H.below⟩
  intro L F T G nd va hE
  obtain ⟨hL, hF, hs, hv, hT, hG, hR, hI, hJ, hW⟩ := hE
  rw [Tryz.results12] at hF
  simp (maxSteps := 1000000) only [En.nN, En.E, En.evsC, List.map_cons, List.map_nil, Nat.reduceBEq, Nat.reduceAdd, Nat.reduceMul, Nat.reduceEqDiff, Nat.reduceLeDiff, Nat.reduceLT, ne_eq, reduceCtorEq, Int.reduceBEq, Int.reduceBNe, Int.reduceAdd, Int.reduceSub, Int.reduceMul, Int.reduceNeg, Nat.reduceBNe, Int.reduceToNat, Nat.reduceSub, Int.reduceLE, Int.reduceLT] at hv
  simp only [En.at_nil, En.at_cons, En.ag_nil, En.ag_cons, and_true, tlRe, glSh, tyInt, tyI64, tyBool, tyStr, tyErr, tyNode, tyNodes, tyInts] at hT hG
  have hz := zs_exE
  have hzt := zs_exT
  have l6 : exE.length = 6 := rfl
  have n6 : (6 : Nat) ≤ 100000 := by decide
  have gs2 : ∀ b, (showC b 0 2 (.blk b [.v (.int .i64 1), .v (.int .i64 3)] 3)).bind intsOf = some [1, 3] := fun b => by
    rw [showC, if_pos ⟨rfl, Nat.le_refl 2⟩]; rfl
  have gs4 : ∀ b, (showC b 0 4 (.blk b [.v (.int .i64 3), .v (.int .i64 2), .v (.int .i64 1), .v (.int .i64 0)] 3)).bind intsOf = some [3, 2, 1, 0] := fun b => by
    rw [showC, if_pos ⟨rfl, Nat.le_refl 4⟩]; rfl
  have m2 : [(1 : Int), 3].length ≤ 9223372036854775807 := by decide
  have m4 : [(3 : Int), 2, 1, 0].length ≤ 9223372036854775807 := by decide
  have t2 : decide ([(1 : Int), 3] = [1, 3]) = true := rfl
  have t4 : decide ([(3 : Int), 2, 1, 0] = [3, 2, 1, 0]) = true := rfl
  have n5 : (5 : Nat) ≤ 100000 := by decide
  simp (maxSteps := 10000000) only [En.E, En.evsC, List.map_cons, List.map_nil, Nat.reduceBEq, Nat.reduceAdd, Nat.reduceMul, Nat.reduceEqDiff, Nat.reduceLeDiff, Nat.reduceLT, ne_eq, reduceCtorEq, Int.reduceBEq, Int.reduceBNe, Int.reduceAdd, Int.reduceSub, Int.reduceMul, Int.reduceNeg, Nat.reduceBNe, Int.reduceToNat, Nat.reduceSub, Int.reduceLE, Int.reduceLT, En.vV, hs, hv, hT, hG, hF, gHu, gHp, spNodes_q, l6, spSizeP_q, ckR, NdR_6, chL_6, NdR_5, chL_5, n6, n5, hz, hzt, globR_q, globU_q, h4, h3, ax0, ax1, ax2, ax3, ax4, ax6, ax10, ax11, spDepthP_q, spKidsP_q, lsR, spOrder_q, spExC_q, spName15_q, spInts15_q, ax7, ax8, ax9, getN_q, getNC_i, getN_gp, gs2, gs4, intsR_q, if_true, m2, m4, t2, t4]
  exact ⟨by decide, by decide, by decide⟩
def spShown15 : Spc
  | [], H, _ => .is (globR (H 0) (H 1) (H 2) (H 3) ∧ globU (H 4) (H 5)) (.v (.bool true))
  | _, _, _ => .bad
theorem spShown15_q {H : Nat → Ch} {nx : Nat} : spShown15 [] H nx = .is (globR (H 0) (H 1) (H 2) (H 3) ∧ globU (H 4) (H 5)) (.v (.bool true)) := rfl
theorem spShown15_ok : SpecOk Tryz.prog 12 spShown15 := by
  intro args hp nx w0 O w H hv
  unfold spShown15 at hv ⊢
  split at hv
  · obtain ⟨hG, hU⟩ := hv
    obtain ⟨bn, on, cn, ba, oa, ca, hr, h4, h3, hk⟩ := globR_ok H hG
    obtain ⟨u1, u2⟩ := globU_ok H hU
    refine (shown15_any bn on cn ba oa ca h4 h3 w ⟨⟨u1, rfl⟩, ⟨u2, rfl⟩, hr⟩).mono ?_
    rintro e w' ⟨rfl, hb⟩
    exact ⟨⟨0, none, 0, none, 0, mz⟩, rfl, .still hb⟩
  · exact hv.elim
end Pr
end Go.Proofs.YtpkldfkmokeamaaGreatDoor
