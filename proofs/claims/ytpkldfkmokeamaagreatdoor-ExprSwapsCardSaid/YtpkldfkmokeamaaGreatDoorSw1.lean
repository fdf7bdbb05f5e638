/-
Chapter 15: has, Alike.
-/
import Derived.Test.YtpkldfkmokeamaaGreatDoorSo1
import Derived.Test.YtpkldfkmokeamaaGreatDoorLsA
set_option linter.unusedSimpArgs false
set_option linter.unusedVariables false
namespace Go.Proofs.YtpkldfkmokeamaaGreatDoor
namespace Pr
open Go Go.RowKit En
open Ex Rf Go.Sort
def hasB (xs : List ByteArray) (s : ByteArray) : Bool := xs.any fun x => decide (x = s)
theorem hasB_iff {xs : List ByteArray} {s : ByteArray} : hasB xs s = true ↔ s ∈ xs := by
  rw [hasB, List.any_eq_true]
  exact ⟨fun ⟨x, hx, e⟩ => by rw [← of_decide_eq_true e]; exact hx, fun h => ⟨s, h, decide_eq_true rfl⟩⟩
theorem hasB_no {xs : List ByteArray} {s : ByteArray} (h : s ∉ xs) : hasB xs s = false := by
  cases e : hasB xs s with
  | false => rfl
  | true => exact absurd (hasB_iff.1 e) h
def hsI (xs : List ByteArray) (s : ByteArray) (A : Option Addr) (c i : Nat) : SS := ⟨[(0, .g 1000 A xs.length c), (1, .v (.string s)), (5, .v (.int .i64 i))], [(1000, .strs A c xs)], 3000⟩
set_option maxRecDepth 100000 in
set_option maxHeartbeats 4000000 in
theorem has15_any (xs : List ByteArray) (s : ByteArray) (hx : xs.length ≤ 9223372036854775807) (A : Option Addr) (c : Nat) (w : World) (h : allRd w.heap.size w [(1000, .strs A c xs)]) :
    Calls Tryz.prog 37 #[.slice A xs.length c, .string s] w fun e w' => e = .returned (.bool (hasB xs s)) ∧ Below w.heap.size w w' := by
  obtain ⟨q, hq⟩ : ∃ q, q = hasB xs s := ⟨_, rfl⟩
  rw [← hq]
  refine calls_go (args := [.g 1000 A xs.length c, .v (.string s)]) (hp := [(1000, .strs A c xs)]) (nx := 1001) (n := 1000) (U := [(1000000, 6)]) (V := []) (tl := tlSt) (gl := gl0) (post := fun s ys => ys = [.v (.bool q)])
    followP tlSt_ok gl0_ok Tryz.func37 rfl (by kernel_rfl) (Nat.le_of_ble_eq_true (by kernel_rfl)) (by kernel_rfl) (by kernel_rfl) (hh_list h) (free_list (by simp [allLt])) ?_ ?_
  · rintro s ys w' rfl H
    exact ⟨rfl, H.below⟩
  intro L F T G nd va hE
  obtain ⟨hL, hF, hs, hv, hT, hG, hR, hI, hJ, hW⟩ := hE
  rw [Tryz.results37] at hF
  simp (maxSteps := 1000000) only [En.nN, En.E, En.evsC, List.map_cons, List.map_nil, Nat.reduceBEq, Nat.reduceAdd, Nat.reduceMul, Nat.reduceEqDiff, Nat.reduceLeDiff, Nat.reduceLT, ne_eq, reduceCtorEq, Int.reduceBEq, Int.reduceBNe, Int.reduceAdd, Int.reduceSub, Int.reduceMul, Int.reduceTDiv, Int.reduceTMod, Int.reduceNeg, En.bitN, Nat.testBit, Nat.reduceShiftRight, Nat.reduceShiftLeft, Nat.reduceAnd, Nat.reduceOr, Nat.reduceBNe, Int.reduceToNat, Nat.reduceSub, Int.reduceLE, Int.reduceLT] at hv
  simp only [En.at_nil, En.at_cons, En.ag_nil, En.ag_cons, and_true, tlSt, gl0, tlRe, tyStrs, tyInt, tyI64, tyBool, tyStr, tyErr, tyNode, tyNodes, tyInts] at hT hG
  simp (maxSteps := 10000000) only [En.E, En.evsC, List.map_cons, List.map_nil, Nat.reduceBEq, Nat.reduceAdd, Nat.reduceMul, Nat.reduceEqDiff, Nat.reduceLeDiff, Nat.reduceLT, ne_eq, reduceCtorEq, Int.reduceBEq, Int.reduceBNe, Int.reduceAdd, Int.reduceSub, Int.reduceMul, Int.reduceTDiv, Int.reduceTMod, Int.reduceNeg, En.bitN, Nat.testBit, Nat.reduceShiftRight, Nat.reduceShiftLeft, Nat.reduceAnd, Nat.reduceOr, Nat.reduceBNe, Int.reduceToNat, Nat.reduceSub, Int.reduceLE, Int.reduceLT, En.vV, hs, hv, hT, hG, hF, ]
  refine hI {i : Nat // i ≤ xs.length ∧ ∀ j (h : j < xs.length), j < i → xs[j] ≠ s} (fun x => hsI xs s A c x.1) (fun x => xs.length - x.1) _ _ _ ⟨0, Nat.zero_le _, fun j _ hj => absurd hj (Nat.not_lt_zero j)⟩ (sle_all [1000] (by decide) (by simp only [En.E, En.evsC, List.map_cons, List.map_nil, Nat.reduceBEq, Nat.reduceAdd, Nat.reduceMul, Nat.reduceEqDiff, Nat.reduceLeDiff, Nat.reduceLT, ne_eq, reduceCtorEq, Int.reduceBEq, Int.reduceBNe, Int.reduceAdd, Int.reduceSub, Int.reduceMul, Int.reduceTDiv, Int.reduceTMod, Int.reduceNeg, En.bitN, Nat.testBit, Nat.reduceShiftRight, Nat.reduceShiftLeft, Nat.reduceAnd, Nat.reduceOr, Nat.reduceBNe, Int.reduceToNat, Nat.reduceSub, Int.reduceLE, Int.reduceLT, En.slLe, En.hpLe, En.chE, En.allLt, hsI, Int.cast_ofNat_Int])) ?_
  rintro ⟨i, hi, hp⟩
  refine hR 1000 _ _ ?_
  by_cases hlt : i < xs.length
  · have d1 : decide ((i : Int) < (xs.length : Int)) = true := decide_eq_true (by omega)
    have i1 : inr .i64 ((i : Int) + 1) := by simp only [En.inr, En.lo, En.hi]; omega
    have g1 : (0 : Int) ≤ i ∧ (i : Int) < xs.length := by omega
    have eg : xs.getD i ByteArray.empty = xs[i] := by rw [List.getD_eq_getElem?_getD, List.getElem?_eq_getElem hlt]; rfl
    by_cases he : xs[i] = s
    · have d5 : (xs[i].toList == s.toList) = true := by rw [he]; exact beq_self_eq_true _
      have hqq : q = true := by rw [hq, hasB_iff, ← he]; exact List.getElem_mem hlt
      simp (maxSteps := 10000000) only [En.E, En.evsC, List.map_cons, List.map_nil, Nat.reduceBEq, Nat.reduceAdd, Nat.reduceMul, Nat.reduceEqDiff, Nat.reduceLeDiff, Nat.reduceLT, ne_eq, reduceCtorEq, Int.reduceBEq, Int.reduceBNe, Int.reduceAdd, Int.reduceSub, Int.reduceMul, Int.reduceTDiv, Int.reduceTMod, Int.reduceNeg, En.bitN, Nat.testBit, Nat.reduceShiftRight, Nat.reduceShiftLeft, Nat.reduceAnd, Nat.reduceOr, Nat.reduceBNe, Int.reduceToNat, Nat.reduceSub, Int.reduceLE, Int.reduceLT, En.vV, hs, hv, hT, hG, hF, hsI, d1, i1, g1, eg, d5, hqq, Int.toNat_natCast]
      exact hlt
    · have d5 := str_ne he
      simp (maxSteps := 10000000) only [En.E, En.evsC, List.map_cons, List.map_nil, Nat.reduceBEq, Nat.reduceAdd, Nat.reduceMul, Nat.reduceEqDiff, Nat.reduceLeDiff, Nat.reduceLT, ne_eq, reduceCtorEq, Int.reduceBEq, Int.reduceBNe, Int.reduceAdd, Int.reduceSub, Int.reduceMul, Int.reduceTDiv, Int.reduceTMod, Int.reduceNeg, En.bitN, Nat.testBit, Nat.reduceShiftRight, Nat.reduceShiftLeft, Nat.reduceAnd, Nat.reduceOr, Nat.reduceBNe, Int.reduceToNat, Nat.reduceSub, Int.reduceLE, Int.reduceLT, En.vV, hs, hv, hT, hG, hF, hsI, d1, i1, g1, eg, d5, Int.toNat_natCast]
      refine ⟨hlt, ⟨i + 1, hlt, fun j hj hji => ?_⟩, (sle_all [1000] (by decide) (by simp only [En.E, En.evsC, List.map_cons, List.map_nil, Nat.reduceBEq, Nat.reduceAdd, Nat.reduceMul, Nat.reduceEqDiff, Nat.reduceLeDiff, Nat.reduceLT, ne_eq, reduceCtorEq, Int.reduceBEq, Int.reduceBNe, Int.reduceAdd, Int.reduceSub, Int.reduceMul, Int.reduceTDiv, Int.reduceTMod, Int.reduceNeg, En.bitN, Nat.testBit, Nat.reduceShiftRight, Nat.reduceShiftLeft, Nat.reduceAnd, Nat.reduceOr, Nat.reduceBNe, Int.reduceToNat, Nat.reduceSub, Int.reduceLE, Int.reduceLT, En.slLe, En.hpLe, En.chE, En.allLt, hsI, Int.natCast_add, Int.cast_ofNat_Int])), by simp only; omega⟩
      by_cases e : j = i
      · subst e; exact he
      · exact hp j hj (by omega)
  · have d1 : decide ((i : Int) < (xs.length : Int)) = false := decide_eq_false (by omega)
    have hqq : q = false := by
      rw [hq]
      refine hasB_no fun h => ?_
      obtain ⟨j, hj, e⟩ := List.mem_iff_getElem.1 h
      exact hp j hj (by omega) e
    simp (maxSteps := 10000000) only [En.E, En.evsC, List.map_cons, List.map_nil, Nat.reduceBEq, Nat.reduceAdd, Nat.reduceMul, Nat.reduceEqDiff, Nat.reduceLeDiff, Nat.reduceLT, ne_eq, reduceCtorEq, Int.reduceBEq, Int.reduceBNe, Int.reduceAdd, Int.reduceSub, Int.reduceMul, Int.reduceTDiv, Int.reduceTMod, Int.reduceNeg, En.bitN, Nat.testBit, Nat.reduceShiftRight, Nat.reduceShiftLeft, Nat.reduceAnd, Nat.reduceOr, Nat.reduceBNe, Int.reduceToNat, Nat.reduceSub, Int.reduceLE, Int.reduceLT, En.vV, hs, hv, hT, hG, hF, hsI, d1, hqq]
def haR (s : ByteArray) : Option (List ByteArray) → Res
  | some xs => .is (xs.length ≤ 9223372036854775807) (.v (.bool (hasB xs s)))
  | _ => .bad
def spHas : Spc
  | [x, .v (.string s)], H, _ => haR s (getS H x)
  | _, _, _ => .bad
theorem spHas_q {x : SV} {s : ByteArray} {H : Nat → Ch} {nx : Nat} : spHas [x, .v (.string s)] H nx = haR s (getS H x) := rfl
theorem haR_q {xs : List ByteArray} {s : ByteArray} : haR s (some xs) = .is (xs.length ≤ 9223372036854775807) (.v (.bool (hasB xs s))) := rfl
theorem spHas_ok : SpecOk Tryz.prog 37 spHas := by
  intro args hp nx w0 O w H hv
  unfold spHas at hv ⊢
  split at hv
  · next x s =>
    cases hx : getS (lookH hp) x with
    | none => rw [hx] at hv; exact hv.elim
    | some xs =>
      rw [hx] at hv
      obtain ⟨A, c, e1, s1, _⟩ := getS_ok H hx
      have : (dens [x, .v (.string s)]).toArray = #[.slice A xs.length c, .string s] := by rw [← e1]; rfl
      rw [this]
      refine (has15_any xs s hv A c w ⟨⟨s1, rfl⟩, trivial⟩).mono ?_
      rintro e w' ⟨rfl, hb⟩
      exact ⟨⟨0, none, 0, none, 0, mz⟩, rfl, .still hb⟩
  · exact hv.elim
def noS (x : Nd) : Nd := { x with s := 0 }
def alikeV (l m : List Nd) : Bool := l.length == m.length && (List.range l.length).all fun j => eqN (noS (ndAt l j)) (noS (ndAt m j))
set_option maxRecDepth 100000 in
set_option maxHeartbeats 4000000 in
theorem alike15_any (l m : List Nd) (hx : l.length ≤ 9223372036854775807) (hy : m.length ≤ 9223372036854775807) (A : Option Addr) (c : Nat) (B : Option Addr) (d : Nat) (w : World) (h : allRd w.heap.size w (smH l m A c B d)) :
    Calls Tryz.prog 38 #[.slice A l.length c, .slice B m.length d] w fun e w' => e = .returned (.bool (alikeV l m)) ∧ Below w.heap.size w w' := by
  obtain ⟨q, hq⟩ : ∃ q, q = alikeV l m := ⟨_, rfl⟩
  rw [← hq]
  refine calls_go (args := [.g 1000 A l.length c, .g 1001 B m.length d]) (hp := smH l m A c B d) (nx := 1002) (n := 1000) (U := [(1000000, 13)]) (V := [(6, ([(10, 7096), (11, 7608)], [(2, [7096, 7608]), (3, [7096, 7608]), (6, [7096, 7608]), (7, [7096, 7608]), (10, [7608]), (11, [7096])]))]) (tl := tlRe) (gl := gl0) (post := fun s ys => ys = [.v (.bool q)])
    followP tlRe_ok gl0_ok Tryz.func38 rfl (by kernel_rfl) (Nat.le_of_ble_eq_true (by kernel_rfl)) (by kernel_rfl) (by kernel_rfl) (hh_list h) (free_list (by simp [allLt, smH])) ?_ ?_
  · rintro s ys w' rfl H
    exact ⟨rfl, H.below⟩
  intro L F T G nd va hE
  obtain ⟨hL, hF, hs, hv, hT, hG, hR, hI, hJ, hW⟩ := hE
  rw [Tryz.results38] at hF
  simp (maxSteps := 1000000) only [En.nN, En.E, En.evsC, List.map_cons, List.map_nil, Nat.reduceBEq, Nat.reduceAdd, Nat.reduceMul, Nat.reduceEqDiff, Nat.reduceLeDiff, Nat.reduceLT, ne_eq, reduceCtorEq, Int.reduceBEq, Int.reduceBNe, Int.reduceAdd, Int.reduceSub, Int.reduceMul, Int.reduceTDiv, Int.reduceTMod, Int.reduceNeg, En.bitN, Nat.testBit, Nat.reduceShiftRight, Nat.reduceShiftLeft, Nat.reduceAnd, Nat.reduceOr, Nat.reduceBNe, Int.reduceToNat, Nat.reduceSub, Int.reduceLE, Int.reduceLT] at hv
  simp only [En.at_nil, En.at_cons, En.ag_nil, En.ag_cons, and_true, tlRe, gl0, tyInt, tyI64, tyBool, tyStr, tyErr, tyNode, tyNodes, tyInts] at hT hG
  by_cases hl : l.length = m.length
  · have d0 : ((l.length : Int) != (m.length : Int)) = false := by rw [hl]; simp
    simp (maxSteps := 10000000) only [En.E, En.evsC, List.map_cons, List.map_nil, Nat.reduceBEq, Nat.reduceAdd, Nat.reduceMul, Nat.reduceEqDiff, Nat.reduceLeDiff, Nat.reduceLT, ne_eq, reduceCtorEq, Int.reduceBEq, Int.reduceBNe, Int.reduceAdd, Int.reduceSub, Int.reduceMul, Int.reduceTDiv, Int.reduceTMod, Int.reduceNeg, En.bitN, Nat.testBit, Nat.reduceShiftRight, Nat.reduceShiftLeft, Nat.reduceAnd, Nat.reduceOr, Nat.reduceBNe, Int.reduceToNat, Nat.reduceSub, Int.reduceLE, Int.reduceLT, En.vV, hs, hv, hT, hG, hF, smH, d0]
    refine hI {i : Nat // i ≤ l.length ∧ ∀ j, j < i → eqN (noS (ndAt l j)) (noS (ndAt m j)) = true} (fun x => smI l m A c B d x.1) (fun x => l.length - x.1) _ _ _ ⟨0, Nat.zero_le _, fun j hj => absurd hj (Nat.not_lt_zero j)⟩ (sle_all [1000, 1001] (by decide) (by simp only [En.E, En.evsC, List.map_cons, List.map_nil, Nat.reduceBEq, Nat.reduceAdd, Nat.reduceMul, Nat.reduceEqDiff, Nat.reduceLeDiff, Nat.reduceLT, ne_eq, reduceCtorEq, Int.reduceBEq, Int.reduceBNe, Int.reduceAdd, Int.reduceSub, Int.reduceMul, Int.reduceTDiv, Int.reduceTMod, Int.reduceNeg, En.bitN, Nat.testBit, Nat.reduceShiftRight, Nat.reduceShiftLeft, Nat.reduceAnd, Nat.reduceOr, Nat.reduceBNe, Int.reduceToNat, Nat.reduceSub, Int.reduceLE, Int.reduceLT, En.slLe, En.hpLe, En.chE, En.allLt, smI, smH, Int.cast_ofNat_Int])) ?_
    rintro ⟨i, hi, hp⟩
    refine hR 1000 _ _ ?_
    by_cases hlt : i < l.length
    · have d1 : decide ((i : Int) < (l.length : Int)) = true := decide_eq_true (by omega)
      have i1 : inr .i64 ((i : Int) + 1) := by simp only [En.inr, En.lo, En.hi]; omega
      have g1 : (0 : Int) ≤ i ∧ (i : Int) < l.length := by omega
      have g2 : (0 : Int) ≤ i ∧ (i : Int) < m.length := by omega
      have hA : ¬A = none := slok_some h.1.1.1 (by omega)
      have hB : ¬B = none := slok_some h.2.1.1.1 (by omega)
      have hX : ndC (ndAt l i) = [.v (.int .i64 (ndAt l i).k), .v (.int .i64 (ndAt l i).p), .v (.int .i64 (ndAt l i).c), .v (.string (ndAt l i).nm), .v (.string (ndAt l i).tx), .v (.int .i64 (ndAt l i).n), .v (.int .i64 (ndAt l i).s)] := rfl
      have hY : ndC (ndAt m i) = [.v (.int .i64 (ndAt m i).k), .v (.int .i64 (ndAt m i).p), .v (.int .i64 (ndAt m i).c), .v (.string (ndAt m i).nm), .v (.string (ndAt m i).tx), .v (.int .i64 (ndAt m i).n), .v (.int .i64 (ndAt m i).s)] := rfl
      simp (maxSteps := 10000000) only [En.E, En.evsC, List.map_cons, List.map_nil, Nat.reduceBEq, Nat.reduceAdd, Nat.reduceMul, Nat.reduceEqDiff, Nat.reduceLeDiff, Nat.reduceLT, ne_eq, reduceCtorEq, Int.reduceBEq, Int.reduceBNe, Int.reduceAdd, Int.reduceSub, Int.reduceMul, Int.reduceTDiv, Int.reduceTMod, Int.reduceNeg, En.bitN, Nat.testBit, Nat.reduceShiftRight, Nat.reduceShiftLeft, Nat.reduceAnd, Nat.reduceOr, Nat.reduceBNe, Int.reduceToNat, Nat.reduceSub, Int.reduceLE, Int.reduceLT, En.vV, hs, hv, hT, hG, hF, smI, smH, d1, i1, g1, g2, hA, hB, hX, hY, Int.toNat_natCast]
      refine ⟨by omega, by omega, fun b b1 => ⟨fun hb => ?_, fun hb => ⟨⟨i + 1, by omega, fun j hj => ?_⟩, (sle_all [1000, 1001] (by decide) (by simp only [En.E, En.evsC, List.map_cons, List.map_nil, Nat.reduceBEq, Nat.reduceAdd, Nat.reduceMul, Nat.reduceEqDiff, Nat.reduceLeDiff, Nat.reduceLT, ne_eq, reduceCtorEq, Int.reduceBEq, Int.reduceBNe, Int.reduceAdd, Int.reduceSub, Int.reduceMul, Int.reduceTDiv, Int.reduceTMod, Int.reduceNeg, En.bitN, Nat.testBit, Nat.reduceShiftRight, Nat.reduceShiftLeft, Nat.reduceAnd, Nat.reduceOr, Nat.reduceBNe, Int.reduceToNat, Nat.reduceSub, Int.reduceLE, Int.reduceLT, En.slLe, En.hpLe, En.chE, En.allLt, smI, smH, Int.natCast_add, Int.cast_ofNat_Int])), by show l.length - (i + 1) < l.length - i; omega⟩⟩⟩
      · have hb : (!eqN (noS (ndAt l i)) (noS (ndAt m i))) = true := hb
        have hqq : q = false := by
          rw [hq, alikeV, Bool.and_eq_false_iff]
          right
          rw [List.all_eq_false]
          exact ⟨i, List.mem_range.2 hlt, by simpa using hb⟩
        rw [hqq]
      · have hb : (!eqN (noS (ndAt l i)) (noS (ndAt m i))) = false := hb
        by_cases e : j = i
        · rw [e]; simpa using hb
        · exact hp j (by omega)
    · have d1 : decide ((i : Int) < (l.length : Int)) = false := decide_eq_false (by omega)
      have hqq : q = true := by
        rw [hq, alikeV, Bool.and_eq_true, List.all_eq_true]
        exact ⟨by rw [hl]; simp, fun j hj => hp j (by have := List.mem_range.1 hj; omega)⟩
      simp (maxSteps := 10000000) only [En.E, En.evsC, List.map_cons, List.map_nil, Nat.reduceBEq, Nat.reduceAdd, Nat.reduceMul, Nat.reduceEqDiff, Nat.reduceLeDiff, Nat.reduceLT, ne_eq, reduceCtorEq, Int.reduceBEq, Int.reduceBNe, Int.reduceAdd, Int.reduceSub, Int.reduceMul, Int.reduceTDiv, Int.reduceTMod, Int.reduceNeg, En.bitN, Nat.testBit, Nat.reduceShiftRight, Nat.reduceShiftLeft, Nat.reduceAnd, Nat.reduceOr, Nat.reduceBNe, Int.reduceToNat, Nat.reduceSub, Int.reduceLE, Int.reduceLT, En.vV, hs, hv, hT, hG, hF, smI, smH, d1, hqq]
  · have d0 : ((l.length : Int) != (m.length : Int)) = true := by
      simp only [bne_iff_ne, ne_eq]; omega
    have hqq : q = false := by
      rw [hq, alikeV, Bool.and_eq_false_iff]; left; simpa using hl
    simp (maxSteps := 10000000) only [En.E, En.evsC, List.map_cons, List.map_nil, Nat.reduceBEq, Nat.reduceAdd, Nat.reduceMul, Nat.reduceEqDiff, Nat.reduceLeDiff, Nat.reduceLT, ne_eq, reduceCtorEq, Int.reduceBEq, Int.reduceBNe, Int.reduceAdd, Int.reduceSub, Int.reduceMul, Int.reduceTDiv, Int.reduceTMod, Int.reduceNeg, En.bitN, Nat.testBit, Nat.reduceShiftRight, Nat.reduceShiftLeft, Nat.reduceAnd, Nat.reduceOr, Nat.reduceBNe, Int.reduceToNat, Nat.reduceSub, Int.reduceLE, Int.reduceLT, En.vV, hs, hv, hT, hG, hF, smH, d0, hqq]
def spAlike15 : Spc
  | [.g k A n c, .g k2 B m d], H, _ => .is (NdR A n c (H k) ∧ NdR B m d (H k2) ∧ n ≤ 9223372036854775807 ∧ m ≤ 9223372036854775807) (.v (.bool (alikeV (chL n (H k)) (chL m (H k2)))))
  | _, _, _ => .bad
theorem spAlike15_q {k k2 n c m d : Nat} {A B : Option Addr} {H : Nat → Ch} {nx : Nat} : spAlike15 [.g k A n c, .g k2 B m d] H nx = .is (NdR A n c (H k) ∧ NdR B m d (H k2) ∧ n ≤ 9223372036854775807 ∧ m ≤ 9223372036854775807) (.v (.bool (alikeV (chL n (H k)) (chL m (H k2))))) := rfl
theorem spAlike15_ok : SpecOk Tryz.prog 38 spAlike15 := by
  intro args hp nx w0 O w H hv
  unfold spAlike15 at hv ⊢
  split at hv
  · next k A n c k2 B m d =>
    obtain ⟨h1, h2, hn, hm⟩ := hv
    obtain ⟨hl, hh⟩ := NdR_hold h1 (H.hold k)
    obtain ⟨gl, gg⟩ := NdR_hold h2 (H.hold k2)
    generalize chL n (lookH hp k) = l at hl hh ⊢
    generalize chL m (lookH hp k2) = l2 at gl gg ⊢
    subst hl
    subst gl
    refine (alike15_any l l2 hn hm A c B d w ⟨⟨hh _, rfl⟩, ⟨gg _, rfl⟩, trivial⟩).mono ?_
    rintro e w' ⟨rfl, hb⟩
    exact ⟨⟨0, none, 0, none, 0, mz⟩, rfl, .still hb⟩
  · exact hv.elim
end Pr
end Go.Proofs.YtpkldfkmokeamaaGreatDoor
/-
Chapter 15, plainly: what ExprSwaps says.
-/
set_option linter.unusedSimpArgs false
set_option linter.unusedVariables false
namespace Go.Proofs.YtpkldfkmokeamaaGreatDoor
namespace Pr
open Go Go.RowKit En
open Ex Rf Go.Sort
theorem bad_of_scL {l : List Nd} : ∀ (d k a : Nat), l.length - a ≤ d → a ≤ l.length → scL (l.drop a) k 0 = some (0, 0) → ∀ i, a ≤ i → i < l.length → badL l i = false := by
  intro d
  induction d with
  | zero => intro k a h ha he i h1 h2; omega
  | succ d ih =>
    intro k a h ha he i hi1 hi2
    have hlt : a < l.length := by omega
    rw [drop_nd hlt] at he
    cases k with
    | zero => cases he
    | succ k =>
      have he : scL (l.drop (a + 1)) (k + Mn (ndAt l a)) (Kn (ndAt l a)) = some (0, 0) := he
      obtain ⟨h1, h2, h3⟩ := scL_inv _ _ _ he
      rw [List.length_drop] at h1
      rw [List.drop_drop] at h3
      have hK : Ks l a = Kn (ndAt l a) := rfl
      by_cases e : a + 1 + Ks l a ≤ i
      · exact ih (k + Mn (ndAt l a)) (a + 1 + Ks l a) (by omega) (by omega) h3 i e hi2
      · by_cases e2 : i = a
        · subst e2
          rw [badL, Bool.and_eq_false_iff]
          right
          rw [Bool.or_eq_false_iff]
          refine ⟨decide_eq_false (by omega), ?_⟩
          rw [List.any_eq_false]
          intro j hj
          have hj := List.mem_range.1 hj
          have := h2 j (by omega)
          rw [ndAt_drop] at this
          simp [this]
        · have h6 := h2 (i - (a + 1)) (by omega)
          rw [ndAt_drop, show a + 1 + (i - (a + 1)) = i by omega] at h6
          rw [badL, h6]; rfl
theorem chk_fault {l : List Nd} (h : (chkV l).2 = 0) : ∀ i, i < l.length → faultV (ndAt l i) = 0 := by
  obtain ⟨h0, h1, hg, h4⟩ := chk_ok h
  by_cases hf : 0 ≤ faultF l
  · exfalso
    have hany : ((List.range l.length).any fun i => faultV (ndAt l i) != 0) = true := by rw [← idxV_any]; exact decide_eq_true hf
    rw [chkV, if_neg h0, if_neg (by omega), if_pos hf] at h
    have hq : faultF l = ((List.range l.length).find? fun i => faultV (ndAt l i) != 0).elim (-1) fun i => (i : Int) := rfl
    cases e : (List.range l.length).find? fun i => faultV (ndAt l i) != 0 with
    | none => rw [e] at hq; rw [hq] at hf; exact absurd hf (by decide)
    | some i =>
      rw [e] at hq
      have hp := (List.find?_range_eq_some.1 e).1
      rw [hq] at h
      simp only [Option.elim, Int.toNat_natCast] at h
      rw [h] at hp; cases hp
  · intro i hi
    simpa using idxV_neg hf i hi
theorem chk_mk {l : List Nd} (h0 : ¬ l.length = 0) (h1 : l.length ≤ 400) (hf : ∀ i, i < l.length → faultV (ndAt l i) = 0) (hb : ∀ i, i < l.length → badL l i = false) (hE : EndR l.length (Ms l) (Ks l) 0 = l.length) (hD : dpV l 0 ≤ 24) : (chkV l).2 = 0 := by
  have hg : Good l := good_of (by omega) hf hb
  have e2 : Dep l.length (Ms l) (Ks l) 0 ≤ 24 := hD
  rw [chk4 h0 (by omega) hf hb, lastV, last_same hg.fine (by omega), lastR, if_neg (by omega), if_neg (by omega), if_neg (by omega)]
  rfl
theorem mem_fault {l : List Nd} (h : (chkV l).2 = 0) {x : Nd} (hx : x ∈ l) : faultV x = 0 := by
  obtain ⟨i, hi, rfl⟩ := List.mem_iff_getElem.1 hx
  have e : l[i] = ndAt l i := by simp [ndAt, List.getD_eq_getElem?_getD, hi]
  rw [e]; exact chk_fault h i hi
theorem rep_chk {l wi : List Nd} {nm : ByteArray} (h : (chkV l).2 = 0) (hw : (chkV wi).2 = 0) (h1 : (repL l nm wi).length ≤ 400) (h2 : dpV (repL l nm wi) 0 ≤ 24) : (chkV (repL l nm wi)).2 = 0 := by
  obtain ⟨g1, g2, g3⟩ := rep_good h hw (nm := nm) (by omega)
  have hs := scL_rep (chk_scL hw) (nm := nm) l 1 0 (0, 0) (chk_scL h)
  obtain ⟨e1, e2⟩ := ends_of_scL (l := repL l nm wi) _ 1 0 (Nat.le_refl _) (Nat.zero_le _) hs
  refine chk_mk g3 h1 (fun i hi => ?_) (fun i hi => bad_of_scL (l := repL l nm wi) _ 1 0 (Nat.le_refl _) (Nat.zero_le _) hs i (Nat.zero_le _) hi) (by rw [EndR, e1]; rfl) h2
  have hmem := ndAt_mem (l := repL l nm wi) hi
  obtain ⟨x, hx⟩ : ∃ x, x = ndAt (repL l nm wi) i := ⟨_, rfl⟩
  rw [← hx] at hmem ⊢
  obtain ⟨y, hy, hxy⟩ := List.mem_flatMap.1 hmem
  rw [repF] at hxy
  split at hxy
  · exact mem_fault hw hxy
  · rw [List.mem_singleton] at hxy; rw [hxy]; exact mem_fault h hy
theorem fault_site {x : Nd} {v : Int} (h : faultV x = 0) (h0 : 0 ≤ v) (h1 : v ≤ 1000000000) : faultV { x with s := v } = 0 := by
  have hf : faultV x = if x.k < 1 ∨ 6 < x.k ∨ surp x then 2 else if x.s < 0 ∨ 1000000000 < x.s then 7 else faultV { x with s := v } := by
    have e : faultV { x with s := v } = if x.k < 1 ∨ 6 < x.k ∨ surp x then 2 else if v < 0 ∨ 1000000000 < v then 7 else if Lib.validD x.tx.data.toList = false then 6
      else if 400 < Lib.runeCount x.tx ∨ (x.k = 3 ∧ 400 ≤ x.c) then 3 else if (x.k = 3 ∧ x.c < 0) ∨ (x.k = 5 ∧ x.c ≠ arE x.p) ∨ (x.k = 6 ∧ x.c ≠ 1 ∧ x.c ≠ 2) then 23
      else if (x.k = 4 ∨ x.k = 6) ∧ nameV x.nm = false then 24 else 0 := rfl
    rw [e]
    by_cases a1 : x.k < 1 ∨ 6 < x.k ∨ surp x
    · rw [faultV, if_pos a1, if_pos a1]
    · rw [if_neg a1, if_neg a1, faultV, if_neg a1, if_neg (show ¬ (v < 0 ∨ 1000000000 < v) by omega)]
  rw [h] at hf
  by_cases a1 : x.k < 1 ∨ 6 < x.k ∨ surp x
  · rw [if_pos a1] at hf; exact absurd hf (by decide)
  · rw [if_neg a1] at hf
    by_cases a2 : x.s < 0 ∨ 1000000000 < x.s
    · rw [if_pos a2] at hf; exact absurd hf (by decide)
    · rw [if_neg a2] at hf; exact hf.symm
theorem nuX_nd {l : List Nd} {f : Int} {i : Nat} (hi : i < l.length) : ndAt (nuX l f) i = nuN l f i := by rw [nuX, nuL_at hi, if_pos hi]
theorem nuX_out {l : List Nd} {f : Int} {i : Nat} (hi : ¬ i < l.length) : ndAt (nuX l f) i = ndAt l i := by
  have h1 : (nuX l f).length = l.length := nuL_len l f _
  have e1 : (nuX l f)[i]? = none := List.getElem?_eq_none (by omega)
  have e2 : l[i]? = none := List.getElem?_eq_none (by omega)
  rw [ndAt, ndAt, List.getD_eq_getElem?_getD, List.getD_eq_getElem?_getD, e1, e2]
theorem nuX_k (l : List Nd) (f : Int) (i : Nat) : (ndAt (nuX l f) i).k = (ndAt l i).k ∧ (ndAt (nuX l f) i).c = (ndAt l i).c ∧ (ndAt (nuX l f) i).p = (ndAt l i).p ∧ (ndAt (nuX l f) i).nm = (ndAt l i).nm ∧ (ndAt (nuX l f) i).tx = (ndAt l i).tx ∧ (ndAt (nuX l f) i).n = (ndAt l i).n := by
  by_cases hi : i < l.length
  · rw [nuX_nd hi]; exact ⟨rfl, rfl, rfl, rfl, rfl, rfl⟩
  · rw [nuX_out hi]; exact ⟨rfl, rfl, rfl, rfl, rfl, rfl⟩
theorem nuX_len (l : List Nd) (f : Int) : (nuX l f).length = l.length := nuL_len l f _
theorem nuX_Ms (l : List Nd) (f : Int) : Ms (nuX l f) = Ms l := by
  funext i
  obtain ⟨h1, h2, _⟩ := nuX_k l f i
  have ho : opN (ndAt (nuX l f) i) = opN (ndAt l i) := by rw [opN, opN, h1]
  show Mn _ = Mn _
  rw [Mn, Mn, ho, h2]
theorem nuX_Ks (l : List Nd) (f : Int) : Ks (nuX l f) = Ks l := by
  funext i
  obtain ⟨h1, h2, _⟩ := nuX_k l f i
  simp only [Ks, Kn, h1, h2]
theorem nuX_nuV (l : List Nd) (f : Int) : nuV (nuX l f) = nuV l := by funext i; rw [nuV, nuV, nuX_Ks]
theorem nuX_bad (l : List Nd) (f : Int) (i : Nat) : badL (nuX l f) i = badL l i := by
  rw [badL, badL, (nuX_k l f i).1, nuX_len, nuX_Ks]
  congr 2
  refine congrArg (List.any _) (funext fun j => ?_)
  rw [(nuX_k l f _).1]
theorem nuX_chk {l : List Nd} {f : Int} (h : (chkV l).2 = 0) (h0 : 1 ≤ f) (h1 : f ≤ 100000000) : (chkV (nuX l f)).2 = 0 := by
  obtain ⟨g0, g1, hg, _⟩ := chk_ok h
  obtain ⟨t1, t2, t3⟩ := chk_tree h
  refine chk_mk (by rw [nuX_len]; exact g0) (by rw [nuX_len]; exact g1) (fun i hi => ?_) (fun i hi => ?_) ?_ ?_
  · rw [nuX_len] at hi
    rw [nuX_nd hi, nuN]
    have hc := cntS_le l i
    refine fault_site (chk_fault h i hi) ?_ ?_ <;> (cases sitB l i <;> simp only [cond_true, cond_false] <;> omega)
  · rw [nuX_len] at hi
    rw [nuX_bad]; exact chk_bad h i hi
  · rw [nuX_len, nuX_Ms, nuX_Ks]; exact t2
  · rw [dpV, nuX_len, nuX_Ms, nuX_Ks]; exact t3
theorem nuX_sit (l : List Nd) (f : Int) : sitB (nuX l f) = sitB l := by funext i; rw [sitB, sitB, nuX_nuV]
theorem nuX_cnt (l : List Nd) (f : Int) : ∀ i, cntS (nuX l f) i = cntS l i
  | 0 => rfl
  | i + 1 => by rw [cntS, cntS, nuX_cnt l f i, nuX_sit]
theorem nuX_twice (l : List Nd) (f g : Int) : nuX (nuX l f) g = nuX l g := by
  apply List.ext_getElem
  · rw [nuX_len, nuX_len, nuX_len]
  · intro i h1 h2
    have hi : i < l.length := by rw [nuX_len] at h2; exact h2
    have e1 : (nuX (nuX l f) g)[i] = ndAt (nuX (nuX l f) g) i := by rw [ndAt, List.getD_eq_getElem?_getD, List.getElem?_eq_getElem h1]; rfl
    have e2 : (nuX l g)[i] = ndAt (nuX l g) i := by rw [ndAt, List.getD_eq_getElem?_getD, List.getElem?_eq_getElem h2]; rfl
    rw [e1, e2, nuX_nd (by rw [nuX_len]; exact hi), nuX_nd hi, nuN, nuN, nuX_sit, nuX_cnt, nuX_nd hi]
    rfl
theorem nuX_alike (l : List Nd) (f : Int) : alikeV (nuX l f) l = true := by
  rw [alikeV, Bool.and_eq_true, List.all_eq_true]
  refine ⟨by rw [nuX_len]; simp, fun i hi => ?_⟩
  have hi : i < l.length := by have := List.mem_range.1 hi; rwa [nuX_len] at this
  rw [nuX_nd hi]
  exact eqN_self _
theorem nuX_zs {l : List Nd} {f : Int} (h : zsN l) : zsN (nuX l f) := by
  intro i hi
  rw [nuX_len] at hi
  obtain ⟨_, _, _, h4, h5, _⟩ := nuX_k l f i
  rw [h4, h5]; exact h i hi
theorem mem_namV {l : List Nd} {q : Int} {s : ByteArray} : s ∈ namV l q ↔ ∃ x ∈ l, x.k = q ∧ x.nm = s := by
  rw [namV, List.mem_map]
  constructor
  · rintro ⟨u, hu, rfl⟩
    rw [res_mem, namU, List.mem_map] at hu
    obtain ⟨x, hx, rfl⟩ := hu
    obtain ⟨h1, h2⟩ := List.mem_filter.1 hx
    exact ⟨x, h1, eq_of_beq h2, rfl⟩
  · rintro ⟨x, hx, hk, rfl⟩
    exact ⟨nmU x, (res_mem _ _ _).2 (List.mem_map.2 ⟨x, List.mem_filter.2 ⟨hx, by rw [hk]; exact beq_self_eq_true _⟩, rfl⟩), rfl⟩
theorem rep_name {l wi : List Nd} {nm : ByteArray} : nm ∈ namV (repL l nm wi) 4 ↔ nm ∈ namV l 4 ∧ nm ∈ namV wi 4 := by
  simp only [mem_namV]
  constructor
  · rintro ⟨x, hx, hk, hn⟩
    obtain ⟨y, hy, hxy⟩ := List.mem_flatMap.1 hx
    rw [repF] at hxy
    split at hxy
    · next h => exact ⟨⟨y, hy, h.1, h.2⟩, x, hxy, hk, hn⟩
    · next h => rw [List.mem_singleton] at hxy; subst hxy; exact absurd ⟨hk, hn⟩ h
  · rintro ⟨⟨y, hy, hk, hn⟩, x, hx, hk2, hn2⟩
    exact ⟨x, List.mem_flatMap.2 ⟨y, hy, by rw [repF, if_pos ⟨hk, hn⟩]; exact hx⟩, hk2, hn2⟩
theorem rep_has (l wi : List Nd) (nm : ByteArray) : hasB (namV (repL l nm wi) 4) nm = (hasB (namV l 4) nm && hasB (namV wi 4) nm) := by
  rw [Bool.eq_iff_iff, Bool.and_eq_true, hasB_iff, hasB_iff, hasB_iff, rep_name]
theorem rep_zs {l wi : List Nd} {nm : ByteArray} (h : zsN l) (hw : zsN wi) : zsN (repL l nm wi) := by
  have hm : ∀ (m : List Nd), zsN m → ∀ x ∈ m, x.nm.size ≤ 2305843009213693952 ∧ x.tx.size ≤ 2305843009213693952 := by
    intro m hm x hx
    obtain ⟨i, hi, rfl⟩ := List.mem_iff_getElem.1 hx
    have e : m[i] = ndAt m i := by simp [ndAt, List.getD_eq_getElem?_getD, hi]
    rw [e]; exact hm i hi
  intro i hi
  have hmem := ndAt_mem (l := repL l nm wi) hi
  obtain ⟨x, hx⟩ : ∃ x, x = ndAt (repL l nm wi) i := ⟨_, rfl⟩
  rw [← hx] at hmem ⊢
  obtain ⟨y, hy, hxy⟩ := List.mem_flatMap.1 hmem
  rw [repF] at hxy
  split at hxy
  · exact hm wi hw _ hxy
  · rw [List.mem_singleton] at hxy; rw [hxy]; exact hm l h y hy
def selfN (nm : ByteArray) : Nd := ⟨4, 0, 0, nm, ⟨#[]⟩, 0, 0⟩
theorem self_fault {nm : ByteArray} (h : nameV nm = true) : faultV (selfN nm) = 0 := by
  have hs : ¬ surp (selfN nm) := by
    simp [surp, selfN]
  have q1 : ¬ ((4 : Int) < 1 ∨ (6 : Int) < 4 ∨ surp (selfN nm)) := by
    rintro (h | h | h)
    · exact absurd h (by decide)
    · exact absurd h (by decide)
    · exact hs h
  have q2 : ¬ ((0 : Int) < 0 ∨ (1000000000 : Int) < 0) := by decide
  have q3 : ¬ Lib.validD (⟨#[]⟩ : ByteArray).data.toList = false := by decide
  have q4 : ¬ (400 < Lib.runeCount ⟨#[]⟩ ∨ ((4 : Int) = 3 ∧ (400 : Int) ≤ 0)) := by decide
  show (if (4 : Int) < 1 ∨ (6 : Int) < 4 ∨ surp (selfN nm) then (2 : Int) else if (0 : Int) < 0 ∨ (1000000000 : Int) < 0 then 7 else if Lib.validD (⟨#[]⟩ : ByteArray).data.toList = false then 6
      else if 400 < Lib.runeCount ⟨#[]⟩ ∨ ((4 : Int) = 3 ∧ (400 : Int) ≤ 0) then 3 else if ((4 : Int) = 3 ∧ (0 : Int) < 0) ∨ ((4 : Int) = 5 ∧ (0 : Int) ≠ arE 0) ∨ ((4 : Int) = 6 ∧ (0 : Int) ≠ 1 ∧ (0 : Int) ≠ 2) then 23
      else if ((4 : Int) = 4 ∨ (4 : Int) = 6) ∧ nameV nm = false then 24 else 0) = 0
  rw [if_neg q1, if_neg q2, if_neg q3, if_neg q4, if_neg (by rintro (⟨h, _⟩ | ⟨h, _⟩ | ⟨h, _⟩) <;> exact absurd h (by decide)), if_neg (by rintro ⟨_, e⟩; rw [h] at e; cases e)]
theorem self_chk {nm : ByteArray} (h : nameV nm = true) : (chkV [selfN nm]).2 = 0 := by
  have hs : scL ([selfN nm].drop 0) 1 0 = some (0, 0) := rfl
  obtain ⟨e1, _⟩ := ends_of_scL (l := [selfN nm]) 1 1 0 (Nat.le_refl _) (Nat.zero_le _) hs
  refine chk_mk (by show ¬ (1 : Nat) = 0; decide) (by show (1 : Nat) ≤ 400; decide) (fun i hi => ?_) (fun i hi => ?_) (by rw [EndR, e1]; rfl) ?_
  · have : i = 0 := by simp at hi; exact hi
    subst this
    exact self_fault h
  · have : i = 0 := by simp at hi; exact hi
    subst this; rfl
  · have hK : Fine [selfN nm].length (Ks [selfN nm]) := by
      intro i hi
      have : i = 0 := by simp at hi; exact hi
      subst this
      exact Nat.le_refl 1
    have := (Dep_le hK (M := Ms [selfN nm]) 1 0 (Nat.le_refl 1) (Nat.lt_succ_self 0)).2
    exact Nat.le_trans this (by show (1 : Nat) - 0 ≤ 24; decide)
theorem flat_id {l : List Nd} {f : Nd → List Nd} (h : ∀ x ∈ l, f x = [x]) : l.flatMap f = l := by
  induction l with
  | nil => rfl
  | cons x l ih => rw [List.flatMap_cons, h x (List.mem_cons_self ..), ih fun y hy => h y (List.mem_cons_of_mem _ hy)]; rfl
theorem self_rep {l : List Nd} {nm : ByteArray} (h : (chkV l).2 = 0) (hs : ∀ i, i < l.length → (ndAt l i).k = 4 → (ndAt l i).nm = nm → (ndAt l i).s = 0) : repL l nm [selfN nm] = l := by
  refine flat_id fun x hx => ?_
  rw [repF]
  split
  · next hk =>
    obtain ⟨i, hi, e⟩ := List.mem_iff_getElem.1 hx
    have e2 : l[i] = ndAt l i := by simp [ndAt, List.getD_eq_getElem?_getD, hi]
    have hf := mem_fault h hx
    have h0 : x.s = 0 := by rw [← e, e2]; exact hs i hi (by rw [← e2, e]; exact hk.1) (by rw [← e2, e]; exact hk.2)
    have hsu : ¬ surp x := by
      intro hsu
      rw [faultV, if_pos (.inr (.inr hsu))] at hf
      exact absurd hf (by decide)
    have s1 : x.n = 0 := by
      by_cases e : x.n = 0
      · exact e
      · exact absurd (Or.inl ⟨by rw [hk.1]; decide, e⟩) hsu
    have s2 : x.tx = ⟨#[]⟩ := by
      by_cases e : x.tx = ⟨#[]⟩
      · exact e
      · exact absurd (.inr (.inl ⟨by rw [hk.1]; decide, e⟩)) hsu
    have s3 : x.p = 0 := by
      by_cases e : x.p = 0
      · exact e
      · exact absurd (.inr (.inr (.inr (.inl ⟨by rw [hk.1]; decide, e⟩)))) hsu
    have s4 : x.c = 0 := by
      by_cases e : x.c = 0
      · exact e
      · exact absurd (.inr (.inr (.inr (.inr (.inr ⟨.inr (.inr hk.1), e⟩))))) hsu
    obtain ⟨k4, hn⟩ := hk
    clear hx hf hsu e e2 hs h
    cases x
    simp only at k4 hn h0 s1 s2 s3 s4
    subst k4 hn h0 s1 s2 s3 s4
    rfl
  · rfl
theorem self_repE {l : List Nd} {nm : ByteArray} (h : (chkV l).2 = 0) (hn : nameV nm = true) (hs : ∀ i, i < l.length → (ndAt l i).k = 4 → (ndAt l i).nm = nm → (ndAt l i).s = 0) : repE l [selfN nm] nm = 0 := by
  obtain ⟨g0, g1, hg, _⟩ := chk_ok h
  obtain ⟨t1, t2, t3⟩ := chk_tree h
  have t4 : dpV l 0 ≤ 24 := t3
  rw [repE, if_neg (by simp [h]), if_neg (by simp [self_chk hn]), if_neg (by simp [hn]), self_rep h hs, if_neg (by omega), if_neg (by omega)]
theorem repE_bad {l wi : List Nd} {nm : ByteArray} (h : ¬ ((chkV l).2 = 0 ∧ (chkV wi).2 = 0 ∧ nameV nm = true)) : repE l wi nm ≠ 0 := by
  by_cases h1 : (chkV l).2 = 0
  · by_cases h2 : (chkV wi).2 = 0
    · cases h3 : nameV nm with
      | true => exact absurd ⟨h1, h2, h3⟩ h
      | false => rw [repE, if_neg (by simp [h1]), if_neg (by simp [h2]), if_pos h3]; decide
    · rw [repE, if_neg (by simp [h1]), if_pos h2]; exact h2
  · rw [repE, if_pos h1]; exact h1
theorem repE_two {l wi : List Nd} {nm : ByteArray} (h1 : (chkV l).2 = 0) (h2 : (chkV wi).2 = 0) (h3 : nameV nm = true) : repE l wi nm = 3 ∨ (repE l wi nm = 0 ∧ (chkV (repL l nm wi)).2 = 0) := by
  rw [repE, if_neg (by simp [h1]), if_neg (by simp [h2]), if_neg (by simp [h3])]
  by_cases h4 : 400 < (repL l nm wi).length
  · rw [if_pos h4]; exact .inl rfl
  · rw [if_neg h4]
    by_cases h5 : 24 < dpV (repL l nm wi) 0
    · rw [if_pos h5]; exact .inl rfl
    · rw [if_neg h5]; exact .inr ⟨rfl, rep_chk h1 h2 (by omega) (by omega)⟩
end Pr
end Go.Proofs.YtpkldfkmokeamaaGreatDoor
/-
Chapter 15: the walk of ExprSwaps.
-/
set_option linter.unusedSimpArgs false
set_option linter.unusedVariables false
namespace Go.Proofs.YtpkldfkmokeamaaGreatDoor
namespace Pr
open Go Go.RowKit En
open Ex Rf Go.Sort
def oneN : Ch → Nd
  | .blk _ cs _ => unNd cs
  | _ => ndZ
def oneC (b : Nat) : Ch → Prop
  | .blk b' cs _ => b' = b ∧ cs = ndC (unNd cs)
  | _ => False
theorem oneN_q {b : Nat} {t : TypeId} {nm : ByteArray} : oneN (.blk b [.v (.int .i64 4), .v (.int .i64 0), .v (.int .i64 0), .v (.string nm), .v (.string ⟨#[]⟩), .v (.int .i64 0), .v (.int .i64 0)] t) = selfN nm := rfl
theorem oneC_q {b : Nat} {t : TypeId} {nm : ByteArray} : oneC b (.blk b [.v (.int .i64 4), .v (.int .i64 0), .v (.int .i64 0), .v (.string nm), .v (.string ⟨#[]⟩), .v (.int .i64 0), .v (.int .i64 0)] t) = True := eq_true ⟨rfl, rfl⟩
def spRepX : Spc
  | [.g k A n c, .v (.string nm), .g k2 B m d], H, nx => nodR (rqC A n c k B m d k2 nm H) (repL (chL n (H k)) nm (chL m (H k2))) (repE (chL n (H k)) (chL m (H k2)) nm) nx
  | [.g k A n c, .v (.string nm), .gp k2 b 0 1 1], H, nx => nodR (ckR A n c k H ∧ oneC b (H k2) ∧ zsN [oneN (H k2)] ∧ nm.size ≤ 4611686018427387904) (repL (chL n (H k)) nm [oneN (H k2)]) (repE (chL n (H k)) [oneN (H k2)] nm) nx
  | _, _, _ => .bad
theorem spRepX_q {k k2 n c m d : Nat} {A B : Option Addr} {nm : ByteArray} {H : Nat → Ch} {nx : Nat} : spRepX [.g k A n c, .v (.string nm), .g k2 B m d] H nx = nodR (rqC A n c k B m d k2 nm H) (repL (chL n (H k)) nm (chL m (H k2))) (repE (chL n (H k)) (chL m (H k2)) nm) nx := rfl
theorem spRepX_1 {k k2 n c b : Nat} {A : Option Addr} {nm : ByteArray} {H : Nat → Ch} {nx : Nat} : spRepX [.g k A n c, .v (.string nm), .gp k2 b 0 1 1] H nx = nodR (ckR A n c k H ∧ oneC b (H k2) ∧ zsN [oneN (H k2)] ∧ nm.size ≤ 4611686018427387904) (repL (chL n (H k)) nm [oneN (H k2)]) (repE (chL n (H k)) [oneN (H k2)] nm) nx := rfl
theorem spRepX_ok : SpecOk Tryz.prog 25 spRepX := by
  intro args hp nx w0 O w H hv
  unfold spRepX at hv ⊢
  split at hv
  · next k A n c nm k2 B m d =>
    obtain ⟨hc, h2, hm, hz2, hs⟩ := nodR_vc hv
    obtain ⟨bn, on, cn, ba, oa, ca, h4, h3, hl, hr, ho⟩ := ck_old H hc rfl
    obtain ⟨_, hn, hz, _⟩ := hc
    obtain ⟨gl, gg⟩ := NdR_hold h2 (H.hold k2)
    generalize chL n (lookH hp k) = l at hl hz hr hv ⊢
    generalize chL m (lookH hp k2) = wi at gl gg hz2 hv ⊢
    subst hl
    subst gl
    exact (replace_any l hn hz wi hm hz2 nm hs A c B d bn on cn ba oa ca h4 h3 w ⟨hr.1, ⟨gg _, rfl⟩, hr.2⟩).mono fun e w' h => nodR_ok H h
  · next k A n c nm k2 b =>
    obtain ⟨hc, h2, hz2, hs⟩ := nodR_vc hv
    obtain ⟨bn, on, cn, ba, oa, ca, h4, h3, hl, hr, ho⟩ := ck_old H hc rfl
    obtain ⟨_, hn, hz, _⟩ := hc
    have hk := H.hold k2
    generalize lookH hp k2 = y at hk h2 hz2 hv ⊢
    generalize chL n (lookH hp k) = l at hl hz hr hv ⊢
    subst hl
    cases y with
    | blk b' cs t =>
      obtain ⟨rfl, hcs⟩ := h2
      have hcs' : cs = [unNd cs].flatMap ndC := by rw [List.flatMap_cons, List.flatMap_nil, List.append_nil]; exact hcs
      have hb := blk_nodes (B' := w.heap.size) hk hcs'
      exact (replace_any l hn hz [unNd cs] (by show (1 : Nat) ≤ 100000; decide) hz2 nm hs A c (some ⟨b', 0, none⟩) 1 bn on cn ba oa ca h4 h3 w ⟨hr.1, ⟨hb, rfl⟩, hr.2⟩).mono fun e w' h => nodR_ok H h
    | _ => exact h2.elim
  · exact hv.elim
def glSw : List (FuncId × Spc) := [(11, spFar15), (12, spShown15), (13, spExC), (15, spName15), (25, spRepX), (29, spNames15), (34, spNum15), (27, spSameX), (38, spAlike15), (37, spHas)]
theorem glSw_ok : GOk Tryz.prog (lookG glSw) := lG_cons (by kernel_rfl) spFar15_ok <| lG_cons (by kernel_rfl) spShown15_ok <| lG_cons (by kernel_rfl) spExC_ok <| lG_cons (by kernel_rfl) spName15_ok <| lG_cons (by kernel_rfl) spRepX_ok <| lG_cons (by kernel_rfl) spNames15_ok <| lG_cons (by kernel_rfl) spNum15_ok <| lG_cons (by kernel_rfl) spSameX_ok <| lG_cons (by kernel_rfl) spAlike15_ok <| lG_cons (by kernel_rfl) spHas_ok lG_nil
section
variable (l : List Nd) (A : Option Addr) (c : Nat) (wi : List Nd) (B : Option Addr) (d : Nat) (nm : ByteArray) (bn on cn ba oa ca : Nat)
def swI (i : Nat) : SS := ⟨[(0, .g 1000 A l.length c), (1, .v (.string nm)), (2, .g 1001 B wi.length d), (13, .v (.int .i64 i))], rqH l A c wi B d bn on cn ba oa ca, 3000⟩
end
set_option maxRecDepth 100000 in
set_option maxHeartbeats 4000000 in
theorem exprSwaps_walk (l : List Nd) (hlen : l.length ≤ 9223372036854775807) (hz : zsR l) (nm : ByteArray) (wi : List Nd) (hlen2 : wi.length ≤ 9223372036854775807) (hz2 : zsR wi) (A : Option Addr) (c : Nat) (B : Option Addr) (d : Nat) (bn on cn ba oa ca : Nat) (h4 : 4 ≤ cn) (h3 : 3 ≤ ca) (w : World) (h : allRd w.heap.size w (rqH l A c wi B d bn on cn ba oa ca)) :
    Calls Tryz.prog 10 #[.slice A l.length c, .string nm, .slice B wi.length d] w fun e w' => e = .returned (.bool true) ∧ Below w.heap.size w w' := by
  refine calls_go (args := [.g 1000 A l.length c, .v (.string nm), .g 1001 B wi.length d]) (hp := rqH l A c wi B d bn on cn ba oa ca) (nx := 1002) (n := 1000) (U := [(1000000, 33)]) (V := []) (tl := tlSt) (gl := glSw) (post := fun s ys => ys = [.v (.bool true)])
    followP tlSt_ok glSw_ok Tryz.func10 rfl (by kernel_rfl) (Nat.le_of_ble_eq_true (by kernel_rfl)) (by kernel_rfl) (by kernel_rfl) (hh_list h) (free_list (by simp [allLt, rqH, gHu, gHp])) ?_ ?_
  · rintro s ys w' rfl H
    exact ⟨rfl, H.below⟩
  intro L F T G nd va hE
  obtain ⟨hL, hF, hs, hv, hT, hG, hR, hI, hJ, hW⟩ := hE
  rw [Tryz.results10] at hF
  simp (maxSteps := 1000000) only [En.nN, En.E, En.evsC, List.map_cons, List.map_nil, Nat.reduceBEq, Nat.reduceAdd, Nat.reduceMul, Nat.reduceEqDiff, Nat.reduceLeDiff, Nat.reduceLT, ne_eq, reduceCtorEq, Int.reduceBEq, Int.reduceBNe, Int.reduceAdd, Int.reduceSub, Int.reduceMul, Int.reduceTDiv, Int.reduceTMod, Int.reduceNeg, En.bitN, Nat.testBit, Nat.reduceShiftRight, Nat.reduceShiftLeft, Nat.reduceAnd, Nat.reduceOr, Nat.reduceBNe, Int.reduceToNat, Nat.reduceSub, Int.reduceLE, Int.reduceLT] at hv
  simp only [En.at_nil, En.at_cons, En.ag_nil, En.ag_cons, and_true, tlSt, glSw, tlRe, tyStrs, tyInt, tyI64, tyBool, tyStr, tyErr, tyNode, tyNodes, tyInts] at hT hG
  cases hf : far15V l with
  | true =>
    simp (maxSteps := 10000000) only [En.E, En.evsC, List.map_cons, List.map_nil, Nat.reduceBEq, Nat.reduceAdd, Nat.reduceMul, Nat.reduceEqDiff, Nat.reduceLeDiff, Nat.reduceLT, ne_eq, reduceCtorEq, Int.reduceBEq, Int.reduceBNe, Int.reduceAdd, Int.reduceSub, Int.reduceMul, Int.reduceTDiv, Int.reduceTMod, Int.reduceNeg, En.bitN, Nat.testBit, Nat.reduceShiftRight, Nat.reduceShiftLeft, Nat.reduceAnd, Nat.reduceOr, Nat.reduceBNe, Int.reduceToNat, Nat.reduceSub, Int.reduceLE, Int.reduceLT, En.vV, hs, hv, hT, hG, hF, rqH, gHu, gHp, spFar15_q, NdR_q, chL_q, hlen, hz, hf, spShown15_q, globR_q, globU_q, h4, h3]
  | false =>
    obtain ⟨f1, f2, f3, f4⟩ := far15_no hf
    cases hf2 : far15V wi with
    | true =>
      simp (maxSteps := 10000000) only [En.E, En.evsC, List.map_cons, List.map_nil, Nat.reduceBEq, Nat.reduceAdd, Nat.reduceMul, Nat.reduceEqDiff, Nat.reduceLeDiff, Nat.reduceLT, ne_eq, reduceCtorEq, Int.reduceBEq, Int.reduceBNe, Int.reduceAdd, Int.reduceSub, Int.reduceMul, Int.reduceTDiv, Int.reduceTMod, Int.reduceNeg, En.bitN, Nat.testBit, Nat.reduceShiftRight, Nat.reduceShiftLeft, Nat.reduceAnd, Nat.reduceOr, Nat.reduceBNe, Int.reduceToNat, Nat.reduceSub, Int.reduceLE, Int.reduceLT, En.vV, hs, hv, hT, hG, hF, rqH, gHu, gHp, spFar15_q, NdR_q, chL_q, hlen, hz, hlen2, hz2, hf, hf2, spShown15_q, globR_q, globU_q, h4, h3]
    | false =>
      obtain ⟨e1, e2, e3, e4⟩ := far15_no hf2
      cases hs1 : decide ((nm.size : Int) > 100) with
      | true =>
        simp (maxSteps := 10000000) only [En.E, En.evsC, List.map_cons, List.map_nil, Nat.reduceBEq, Nat.reduceAdd, Nat.reduceMul, Nat.reduceEqDiff, Nat.reduceLeDiff, Nat.reduceLT, ne_eq, reduceCtorEq, Int.reduceBEq, Int.reduceBNe, Int.reduceAdd, Int.reduceSub, Int.reduceMul, Int.reduceTDiv, Int.reduceTMod, Int.reduceNeg, En.bitN, Nat.testBit, Nat.reduceShiftRight, Nat.reduceShiftLeft, Nat.reduceAnd, Nat.reduceOr, Nat.reduceBNe, Int.reduceToNat, Nat.reduceSub, Int.reduceLE, Int.reduceLT, En.vV, hs, hv, hT, hG, hF, rqH, gHu, gHp, spFar15_q, NdR_q, chL_q, hlen, hz, hlen2, hz2, hf, hf2, hs1, spShown15_q, globR_q, globU_q, h4, h3]
      | false =>
        have := of_decide_eq_false hs1
        have f5 : nm.size ≤ 4611686018427387904 := by omega
        have b00 : ((0 : Int) == 0) = true := rfl
        have b07 : ((0 : Int) != 0) = false := rfl
        by_cases h1 : (chkV l).2 = 0
        · by_cases h2 : (chkV wi).2 = 0
          · cases hn : nameV nm with
            | true =>
              simp (maxSteps := 10000000) only [En.E, En.evsC, List.map_cons, List.map_nil, Nat.reduceBEq, Nat.reduceAdd, Nat.reduceMul, Nat.reduceEqDiff, Nat.reduceLeDiff, Nat.reduceLT, ne_eq, reduceCtorEq, Int.reduceBEq, Int.reduceBNe, Int.reduceAdd, Int.reduceSub, Int.reduceMul, Int.reduceTDiv, Int.reduceTMod, Int.reduceNeg, En.bitN, Nat.testBit, Nat.reduceShiftRight, Nat.reduceShiftLeft, Nat.reduceAnd, Nat.reduceOr, Nat.reduceBNe, Int.reduceToNat, Nat.reduceSub, Int.reduceLE, Int.reduceLT, En.vV, hs, hv, hT, hG, hF, rqH, gHu, gHp, spFar15_q, NdR_q, chL_q, hlen, hz, hlen2, hz2, hf, hf2, hs1, spShown15_q, globR_q, globU_q, h4, h3, spExC_q, ckR, f3, f4, f5, e3, e4, h1, h2, b00, b07, spName15_q, hn]
              refine hI {i : Nat // i ≤ l.length ∧ ∀ j, j < i → (ndAt l j).k = 4 → (ndAt l j).nm = nm → (ndAt l j).s = 0} (fun x => swI l A c wi B d nm bn on cn ba oa ca x.1) (fun x => l.length - x.1) _ _ _
                ⟨0, Nat.zero_le _, fun j hj => absurd hj (Nat.not_lt_zero j)⟩ (sle_all [1000, 1001, 4, 5, 0, 1, 2, 3] (by decide) (by simp only [En.E, En.evsC, List.map_cons, List.map_nil, Nat.reduceBEq, Nat.reduceAdd, Nat.reduceMul, Nat.reduceEqDiff, Nat.reduceLeDiff, Nat.reduceLT, ne_eq, reduceCtorEq, Int.reduceBEq, Int.reduceBNe, Int.reduceAdd, Int.reduceSub, Int.reduceMul, Int.reduceTDiv, Int.reduceTMod, Int.reduceNeg, En.bitN, Nat.testBit, Nat.reduceShiftRight, Nat.reduceShiftLeft, Nat.reduceAnd, Nat.reduceOr, Nat.reduceBNe, Int.reduceToNat, Nat.reduceSub, Int.reduceLE, Int.reduceLT, En.slLe, En.hpLe, En.chE, En.allLt, swI, rqH, gHu, gHp, Int.cast_ofNat_Int])) ?_
              rintro ⟨i, hi, hpj⟩
              by_cases hlt : i < l.length
              · have d1 : decide ((i : Int) < (l.length : Int)) = true := decide_eq_true (by omega)
                have i1 : inr .i64 ((i : Int) + 1) := by simp only [En.inr, En.lo, En.hi]; omega
                have g1 : (0 : Int) ≤ i ∧ (i : Int) < l.length := by omega
                have hA : ¬A = none := slok_some h.1.1.1 (by omega)
                have step : ((ndAt l i).k = 4 → (ndAt l i).nm = nm → (ndAt l i).s = 0) → ∀ j, j < i + 1 → (ndAt l j).k = 4 → (ndAt l j).nm = nm → (ndAt l j).s = 0 := by
                  intro h0 j hj
                  by_cases e : j = i
                  · subst e; exact h0
                  · exact hpj j (by omega)
                refine hR 4000 _ _ ?_
                by_cases k4 : (ndAt l i).k = 4
                · have d4 : ((ndAt l i).k == 4) = true := by simpa using k4
                  by_cases hnm : (ndAt l i).nm = nm
                  · have d5 : ((ndAt l i).nm.toList == nm.toList) = true := by rw [hnm]; exact beq_self_eq_true _
                    by_cases hs0 : (ndAt l i).s = 0
                    · have d6 : ((ndAt l i).s != 0) = false := by simpa using hs0
                      simp (maxSteps := 10000000) only [En.E, En.evsC, List.map_cons, List.map_nil, Nat.reduceBEq, Nat.reduceAdd, Nat.reduceMul, Nat.reduceEqDiff, Nat.reduceLeDiff, Nat.reduceLT, ne_eq, reduceCtorEq, Int.reduceBEq, Int.reduceBNe, Int.reduceAdd, Int.reduceSub, Int.reduceMul, Int.reduceTDiv, Int.reduceTMod, Int.reduceNeg, En.bitN, Nat.testBit, Nat.reduceShiftRight, Nat.reduceShiftLeft, Nat.reduceAnd, Nat.reduceOr, Nat.reduceBNe, Int.reduceToNat, Nat.reduceSub, Int.reduceLE, Int.reduceLT, En.vV, hs, hv, hT, hG, hF, swI, rqH, gHu, gHp, d1, d4, d5, d6, i1, ndC_n, g1, hA, Int.toNat_natCast]
                      exact ⟨hlt, hlt, hlt, ⟨i + 1, hlt, step fun _ _ => hs0⟩, (sle_all [1000, 1001, 4, 5, 0, 1, 2, 3] (by decide) (by simp only [En.E, En.evsC, List.map_cons, List.map_nil, Nat.reduceBEq, Nat.reduceAdd, Nat.reduceMul, Nat.reduceEqDiff, Nat.reduceLeDiff, Nat.reduceLT, ne_eq, reduceCtorEq, Int.reduceBEq, Int.reduceBNe, Int.reduceAdd, Int.reduceSub, Int.reduceMul, Int.reduceTDiv, Int.reduceTMod, Int.reduceNeg, En.bitN, Nat.testBit, Nat.reduceShiftRight, Nat.reduceShiftLeft, Nat.reduceAnd, Nat.reduceOr, Nat.reduceBNe, Int.reduceToNat, Nat.reduceSub, Int.reduceLE, Int.reduceLT, En.slLe, En.hpLe, En.chE, En.allLt, swI, rqH, gHu, gHp, Int.natCast_add, Int.cast_ofNat_Int])), by simp only; omega⟩
                    · have d6 : ((ndAt l i).s != 0) = true := by simpa using hs0
                      simp (maxSteps := 10000000) only [En.E, En.evsC, List.map_cons, List.map_nil, Nat.reduceBEq, Nat.reduceAdd, Nat.reduceMul, Nat.reduceEqDiff, Nat.reduceLeDiff, Nat.reduceLT, ne_eq, reduceCtorEq, Int.reduceBEq, Int.reduceBNe, Int.reduceAdd, Int.reduceSub, Int.reduceMul, Int.reduceTDiv, Int.reduceTMod, Int.reduceNeg, En.bitN, Nat.testBit, Nat.reduceShiftRight, Nat.reduceShiftLeft, Nat.reduceAnd, Nat.reduceOr, Nat.reduceBNe, Int.reduceToNat, Nat.reduceSub, Int.reduceLE, Int.reduceLT, En.vV, hs, hv, hT, hG, hF, swI, rqH, gHu, gHp, d1, d4, d5, d6, i1, ndC_n, g1, hA, Int.toNat_natCast, spShown15_q, globR_q, globU_q, h4, h3]
                      exact hlt
                  · have d5 := str_ne hnm
                    simp (maxSteps := 10000000) only [En.E, En.evsC, List.map_cons, List.map_nil, Nat.reduceBEq, Nat.reduceAdd, Nat.reduceMul, Nat.reduceEqDiff, Nat.reduceLeDiff, Nat.reduceLT, ne_eq, reduceCtorEq, Int.reduceBEq, Int.reduceBNe, Int.reduceAdd, Int.reduceSub, Int.reduceMul, Int.reduceTDiv, Int.reduceTMod, Int.reduceNeg, En.bitN, Nat.testBit, Nat.reduceShiftRight, Nat.reduceShiftLeft, Nat.reduceAnd, Nat.reduceOr, Nat.reduceBNe, Int.reduceToNat, Nat.reduceSub, Int.reduceLE, Int.reduceLT, En.vV, hs, hv, hT, hG, hF, swI, rqH, gHu, gHp, d1, d4, d5, i1, ndC_n, g1, hA, Int.toNat_natCast]
                    exact ⟨hlt, hlt, ⟨i + 1, hlt, step fun _ h => absurd h hnm⟩, (sle_all [1000, 1001, 4, 5, 0, 1, 2, 3] (by decide) (by simp only [En.E, En.evsC, List.map_cons, List.map_nil, Nat.reduceBEq, Nat.reduceAdd, Nat.reduceMul, Nat.reduceEqDiff, Nat.reduceLeDiff, Nat.reduceLT, ne_eq, reduceCtorEq, Int.reduceBEq, Int.reduceBNe, Int.reduceAdd, Int.reduceSub, Int.reduceMul, Int.reduceTDiv, Int.reduceTMod, Int.reduceNeg, En.bitN, Nat.testBit, Nat.reduceShiftRight, Nat.reduceShiftLeft, Nat.reduceAnd, Nat.reduceOr, Nat.reduceBNe, Int.reduceToNat, Nat.reduceSub, Int.reduceLE, Int.reduceLT, En.slLe, En.hpLe, En.chE, En.allLt, swI, rqH, gHu, gHp, Int.natCast_add, Int.cast_ofNat_Int])), by simp only; omega⟩
                · have d4 : ((ndAt l i).k == 4) = false := by simpa using k4
                  simp (maxSteps := 10000000) only [En.E, En.evsC, List.map_cons, List.map_nil, Nat.reduceBEq, Nat.reduceAdd, Nat.reduceMul, Nat.reduceEqDiff, Nat.reduceLeDiff, Nat.reduceLT, ne_eq, reduceCtorEq, Int.reduceBEq, Int.reduceBNe, Int.reduceAdd, Int.reduceSub, Int.reduceMul, Int.reduceTDiv, Int.reduceTMod, Int.reduceNeg, En.bitN, Nat.testBit, Nat.reduceShiftRight, Nat.reduceShiftLeft, Nat.reduceAnd, Nat.reduceOr, Nat.reduceBNe, Int.reduceToNat, Nat.reduceSub, Int.reduceLE, Int.reduceLT, En.vV, hs, hv, hT, hG, hF, swI, rqH, gHu, gHp, d1, d4, i1, ndC_n, g1, hA, Int.toNat_natCast]
                  exact ⟨hlt, ⟨i + 1, hlt, step fun h _ => absurd h k4⟩, (sle_all [1000, 1001, 4, 5, 0, 1, 2, 3] (by decide) (by simp only [En.E, En.evsC, List.map_cons, List.map_nil, Nat.reduceBEq, Nat.reduceAdd, Nat.reduceMul, Nat.reduceEqDiff, Nat.reduceLeDiff, Nat.reduceLT, ne_eq, reduceCtorEq, Int.reduceBEq, Int.reduceBNe, Int.reduceAdd, Int.reduceSub, Int.reduceMul, Int.reduceTDiv, Int.reduceTMod, Int.reduceNeg, En.bitN, Nat.testBit, Nat.reduceShiftRight, Nat.reduceShiftLeft, Nat.reduceAnd, Nat.reduceOr, Nat.reduceBNe, Int.reduceToNat, Nat.reduceSub, Int.reduceLE, Int.reduceLT, En.slLe, En.hpLe, En.chE, En.allLt, swI, rqH, gHu, gHp, Int.natCast_add, Int.cast_ofNat_Int])), by simp only; omega⟩
              · have d1 : decide ((i : Int) < (l.length : Int)) = false := decide_eq_false (by omega)
                obtain rfl : i = l.length := by omega
                have sr := self_rep h1 hpj
                have s0 := self_repE h1 hn hpj
                have s1 : (repE l [selfN nm] nm == 0) = true := by rw [s0]; rfl
                have sz : zsN [selfN nm] := by
                  intro j hj
                  have : j = 0 := by simp at hj; exact hj
                  subst this
                  exact ⟨by show nm.size ≤ _; omega, by show (0 : Nat) ≤ _; omega⟩
                have sv := sameV_self l
                refine hR 4000 _ _ ?_
                rcases repE_two h1 h2 hn with r3 | ⟨r0, r4⟩
                · have r1 : (repE l wi nm == 0) = false := by rw [r3]; rfl
                  have b3 : ((3 : Int) != 0) = true := rfl
                  have b33 : ((3 : Int) == 3) = true := rfl
                  simp (maxSteps := 10000000) only [En.E, En.evsC, List.map_cons, List.map_nil, Nat.reduceBEq, Nat.reduceAdd, Nat.reduceMul, Nat.reduceEqDiff, Nat.reduceLeDiff, Nat.reduceLT, ne_eq, reduceCtorEq, Int.reduceBEq, Int.reduceBNe, Int.reduceAdd, Int.reduceSub, Int.reduceMul, Int.reduceTDiv, Int.reduceTMod, Int.reduceNeg, En.bitN, Nat.testBit, Nat.reduceShiftRight, Nat.reduceShiftLeft, Nat.reduceAnd, Nat.reduceOr, Nat.reduceBNe, Int.reduceToNat, Nat.reduceSub, Int.reduceLE, Int.reduceLT, En.vV, hs, hv, hT, hG, hF, swI, rqH, gHu, gHp, d1, NdR_q, chL_q, globR_q, globU_q, h4, h3, ckR, f3, f4, f5, e3, e4, spRepX_q, spRepX_1, oneN_q, oneC_q, sz, rqC, nodR, s1, sr, b07, spSameX_q, NdX_r, chX_r, hlen, sv, r1, r3, b3, b33, spShown15_q]
                · have r1 : (repE l wi nm == 0) = true := by rw [r0]; rfl
                  have g0 : ((chkV (repL l nm wi)).2 == 0) = true := by rw [r4]; rfl
                  have e00 : ((chkV l).2 == 0) = true := by rw [h1]; rfl
                  have e01 : ((chkV wi).2 == 0) = true := by rw [h2]; rfl
                  have rl : (repL l nm wi).length ≤ 100000 := by have := (chk_ok r4).2.1; omega
                  have rz : zsN (repL l nm wi) := rep_zs f3 e3
                  have n1 : nuE l 1 = 0 := by rw [nuE, if_neg (by simp [h1]), if_neg (by omega)]
                  have n2 : nuE l 7 = 0 := by rw [nuE, if_neg (by simp [h1]), if_neg (by omega)]
                  have x1 := nuX_chk (f := 1) h1 (by decide) (by decide)
                  have n3 : nuE (nuX l 1) 7 = 0 := by rw [nuE, if_neg (by simp [x1]), if_neg (by omega)]
                  have m1 : (nuE l 1 == 0) = true := by rw [n1]; rfl
                  have m2 : (nuE l 7 == 0) = true := by rw [n2]; rfl
                  have m3 : (nuE (nuX l 1) 7 == 0) = true := by rw [n3]; rfl
                  have xl : (nuX l 1).length ≤ 100000 := by rw [nuX_len]; exact f4
                  have xl9 : (nuX l 1).length ≤ 9223372036854775807 := by rw [nuX_len]; exact hlen
                  have yl9 : (nuX l 7).length ≤ 9223372036854775807 := by rw [nuX_len]; exact hlen
                  have xz : zsN (nuX l 1) := nuX_zs f3
                  have tw := nuX_twice l 1 7
                  have al := nuX_alike l 1
                  have sy := sameV_self (nuX l 7)
                  have nl1 : (namV l 4).length ≤ 9223372036854775807 := Nat.le_trans (namV_len l 4) hlen
                  have nl2 : (namV wi 4).length ≤ 9223372036854775807 := Nat.le_trans (namV_len wi 4) hlen2
                  have nl3 : (namV (repL l nm wi) 4).length ≤ 9223372036854775807 := Nat.le_trans (namV_len _ 4) (by omega)
                  have ha := rep_has l wi nm
                  have t1 : (true != true) = false := rfl
                  have t2 : (false != false) = false := rfl
                  cases ha1 : hasB (namV l 4) nm <;> cases ha2 : hasB (namV wi 4) nm <;> rw [ha1, ha2] at ha <;> simp only [Bool.and_true, Bool.and_false, Bool.true_and, Bool.false_and] at ha <;>
                    simp (maxSteps := 10000000) only [En.E, En.evsC, List.map_cons, List.map_nil, Nat.reduceBEq, Nat.reduceAdd, Nat.reduceMul, Nat.reduceEqDiff, Nat.reduceLeDiff, Nat.reduceLT, ne_eq, reduceCtorEq, Int.reduceBEq, Int.reduceBNe, Int.reduceAdd, Int.reduceSub, Int.reduceMul, Int.reduceTDiv, Int.reduceTMod, Int.reduceNeg, En.bitN, Nat.testBit, Nat.reduceShiftRight, Nat.reduceShiftLeft, Nat.reduceAnd, Nat.reduceOr, Nat.reduceBNe, Int.reduceToNat, Nat.reduceSub, Int.reduceLE, Int.reduceLT, En.vV, hs, hv, hT, hG, hF, swI, rqH, gHu, gHp, d1, NdR_q, chL_q, globR_q, globU_q, h4, h3, ckR, f3, f4, f5, e3, e4, spRepX_q, spRepX_1, oneN_q, oneC_q, sz, rqC, nodR, s1, sr, b07, b00, spSameX_q, NdX_r, chX_r, hlen, sv, r1, spNames15_q, stR, e00, e01, g0, rl, rz, spHas_q, getS_g, haR_q, if_true, nl1, nl2, nl3, ha, ha1, ha2, t1, t2, Bool.false_eq_true, spNum15_q, nuRs, m1, m2, m3, xl, xl9, yl9, xz, tw, al, sy, spAlike15_q, spShown15_q]
            | false =>
              have r0 : repE l wi nm ≠ 0 := repE_bad (by simp [hn])
              have r1 : (repE l wi nm == 0) = false := by simpa using r0
              have r2 : (repE l wi nm != 0) = true := by simpa using r0
              simp (maxSteps := 10000000) only [En.E, En.evsC, List.map_cons, List.map_nil, Nat.reduceBEq, Nat.reduceAdd, Nat.reduceMul, Nat.reduceEqDiff, Nat.reduceLeDiff, Nat.reduceLT, ne_eq, reduceCtorEq, Int.reduceBEq, Int.reduceBNe, Int.reduceAdd, Int.reduceSub, Int.reduceMul, Int.reduceTDiv, Int.reduceTMod, Int.reduceNeg, En.bitN, Nat.testBit, Nat.reduceShiftRight, Nat.reduceShiftLeft, Nat.reduceAnd, Nat.reduceOr, Nat.reduceBNe, Int.reduceToNat, Nat.reduceSub, Int.reduceLE, Int.reduceLT, En.vV, hs, hv, hT, hG, hF, rqH, gHu, gHp, spFar15_q, NdR_q, chL_q, hlen, hz, hlen2, hz2, hf, hf2, hs1, spShown15_q, globR_q, globU_q, h4, h3, spExC_q, ckR, f3, f4, f5, e3, e4, h1, h2, b00, b07, spName15_q, hn, spRepX_q, rqC, nodR, r1, r2]
          · have r0 : repE l wi nm ≠ 0 := repE_bad (by simp [h2])
            have r1 : (repE l wi nm == 0) = false := by simpa using r0
            have r2 : (repE l wi nm != 0) = true := by simpa using r0
            have d3 : ((chkV wi).2 != 0) = true := by simpa using h2
            simp (maxSteps := 10000000) only [En.E, En.evsC, List.map_cons, List.map_nil, Nat.reduceBEq, Nat.reduceAdd, Nat.reduceMul, Nat.reduceEqDiff, Nat.reduceLeDiff, Nat.reduceLT, ne_eq, reduceCtorEq, Int.reduceBEq, Int.reduceBNe, Int.reduceAdd, Int.reduceSub, Int.reduceMul, Int.reduceTDiv, Int.reduceTMod, Int.reduceNeg, En.bitN, Nat.testBit, Nat.reduceShiftRight, Nat.reduceShiftLeft, Nat.reduceAnd, Nat.reduceOr, Nat.reduceBNe, Int.reduceToNat, Nat.reduceSub, Int.reduceLE, Int.reduceLT, En.vV, hs, hv, hT, hG, hF, rqH, gHu, gHp, spFar15_q, NdR_q, chL_q, hlen, hz, hlen2, hz2, hf, hf2, hs1, spShown15_q, globR_q, globU_q, h4, h3, spExC_q, ckR, f3, f4, f5, e3, e4, h1, d3, b00, b07, spName15_q, Bool.false_eq_true, spRepX_q, rqC, nodR, r1, r2]
        · have r0 : repE l wi nm ≠ 0 := repE_bad (by simp [h1])
          have r1 : (repE l wi nm == 0) = false := by simpa using r0
          have r2 : (repE l wi nm != 0) = true := by simpa using r0
          have d3 : ((chkV l).2 != 0) = true := by simpa using h1
          simp (maxSteps := 10000000) only [En.E, En.evsC, List.map_cons, List.map_nil, Nat.reduceBEq, Nat.reduceAdd, Nat.reduceMul, Nat.reduceEqDiff, Nat.reduceLeDiff, Nat.reduceLT, ne_eq, reduceCtorEq, Int.reduceBEq, Int.reduceBNe, Int.reduceAdd, Int.reduceSub, Int.reduceMul, Int.reduceTDiv, Int.reduceTMod, Int.reduceNeg, En.bitN, Nat.testBit, Nat.reduceShiftRight, Nat.reduceShiftLeft, Nat.reduceAnd, Nat.reduceOr, Nat.reduceBNe, Int.reduceToNat, Nat.reduceSub, Int.reduceLE, Int.reduceLT, En.vV, hs, hv, hT, hG, hF, rqH, gHu, gHp, spFar15_q, NdR_q, chL_q, hlen, hz, hlen2, hz2, hf, hf2, hs1, spShown15_q, globR_q, globU_q, h4, h3, spExC_q, ckR, f3, f4, f5, e3, e4, d3, b00, b07, spName15_q, Bool.false_eq_true, spRepX_q, rqC, nodR, r1, r2]
end Pr
end Go.Proofs.YtpkldfkmokeamaaGreatDoor
