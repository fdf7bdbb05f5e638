/-
Chapter 15: Same of two expressions; Replace, plainly.
-/
import Derived.Test.YtpkldfkmokeamaaGreatDoorAx1
import Derived.Test.YtpkldfkmokeamaaGreatDoorCh1
import Derived.Test.YtpkldfkmokeamaaGreatDoorRe2
import Derived.Test.YtpkldfkmokeamaaGreatDoorRf1
set_option linter.unusedSimpArgs false
set_option linter.unusedVariables false
namespace Go.Proofs.YtpkldfkmokeamaaGreatDoor
namespace Pr
open Go Go.RowKit En
open Ex Rf
def smH (l m : List Nd) (A : Option Addr) (c : Nat) (B : Option Addr) (d : Nat) : Hp := [(1000, .recs A c 7 l.length fun i => ndC (ndAt l i)), (1001, .recs B d 7 m.length fun i => ndC (ndAt m i))]
def smI (l m : List Nd) (A : Option Addr) (c : Nat) (B : Option Addr) (d i : Nat) : SS := ⟨[(0, .g 1000 A l.length c), (1, .g 1001 B m.length d), (5, .v (.int .i64 i))], smH l m A c B d, 3000⟩
def eqN (x y : Nd) : Bool := bif x.k == y.k then bif x.p == y.p then bif x.c == y.c then bif x.nm.toList == y.nm.toList then bif x.tx.toList == y.tx.toList then bif x.n == y.n then bif x.s == y.s then true else false else false else false else false else false else false else false
theorem eqN_self (x : Nd) : eqN x x = true := by simp [eqN]
def sameV (l m : List Nd) : Bool := l.length == m.length && (List.range l.length).all fun j => eqN (ndAt l j) (ndAt m j)
theorem sameV_self (l : List Nd) : sameV l l = true := by simp [sameV, eqN_self]
set_option maxRecDepth 100000 in
set_option maxHeartbeats 4000000 in
theorem same15_any (l m : List Nd) (hx : l.length ≤ 9223372036854775807) (hy : m.length ≤ 9223372036854775807) (A : Option Addr) (c : Nat) (B : Option Addr) (d : Nat) (w : World) (h : allRd w.heap.size w (smH l m A c B d)) :
    Calls Tryz.prog 27 #[.slice A l.length c, .slice B m.length d] w fun e w' => e = .returned (.bool (sameV l m)) ∧ Below w.heap.size w w' := by
  obtain ⟨q, hq⟩ : ∃ q, q = sameV l m := ⟨_, rfl⟩
  rw [← hq]
  refine calls_go (args := [.g 1000 A l.length c, .g 1001 B m.length d]) (hp := smH l m A c B d) (nx := 1002) (n := 1000) (U := [(1000000, 11)]) (V := []) (tl := tlRe) (gl := gl0) (post := fun s ys => ys = [.v (.bool q)])
    followP tlRe_ok gl0_ok Tryz.func27 rfl (by kernel_rfl) (Nat.le_of_ble_eq_true (by kernel_rfl)) (by kernel_rfl) (by kernel_rfl) (hh_list h) (free_list (by simp [allLt, smH])) ?_ ?_
  · rintro s ys w' rfl H
    exact ⟨rfl, H.below⟩
  intro L F T G nd va hE
  obtain ⟨hL, hF, hs, hv, hT, hG, hR, hI, hJ, hW⟩ := hE
  rw [Tryz.results27] at hF
  simp (maxSteps := 1000000) only [En.nN, En.E, En.evsC, List.map_cons, List.map_nil, Nat.reduceBEq, Nat.reduceAdd, Nat.reduceMul, Nat.reduceEqDiff, Nat.reduceLeDiff, Nat.reduceLT, ne_eq, reduceCtorEq, Int.reduceBEq, Int.reduceBNe, Int.reduceAdd, Int.reduceSub, Int.reduceMul, Int.reduceTDiv, Int.reduceTMod, Int.reduceNeg, En.bitN, Nat.testBit, Nat.reduceShiftRight, Nat.reduceShiftLeft, Nat.reduceAnd, Nat.reduceOr, Nat.reduceBNe, Int.reduceToNat, Nat.reduceSub, Int.reduceLE, Int.reduceLT] at hv
  simp only [En.at_nil, En.at_cons, En.ag_nil, En.ag_cons, and_true, tlRe, gl0, tyInt, tyI64, tyBool, tyStr, tyErr, tyNode, tyNodes, tyInts] at hT hG
  by_cases hl : l.length = m.length
  · have d0 : ((l.length : Int) != (m.length : Int)) = false := by rw [hl]; simp
    simp (maxSteps := 10000000) only [En.E, En.evsC, List.map_cons, List.map_nil, Nat.reduceBEq, Nat.reduceAdd, Nat.reduceMul, Nat.reduceEqDiff, Nat.reduceLeDiff, Nat.reduceLT, ne_eq, reduceCtorEq, Int.reduceBEq, Int.reduceBNe, Int.reduceAdd, Int.reduceSub, Int.reduceMul, Int.reduceTDiv, Int.reduceTMod, Int.reduceNeg, En.bitN, Nat.testBit, Nat.reduceShiftRight, Nat.reduceShiftLeft, Nat.reduceAnd, Nat.reduceOr, Nat.reduceBNe, Int.reduceToNat, Nat.reduceSub, Int.reduceLE, Int.reduceLT, En.vV, hs, hv, hT, hG, hF, smH, d0]
    refine hI {i : Nat // i ≤ l.length ∧ ∀ j, j < i → eqN (ndAt l j) (ndAt m j) = true} (fun x => smI l m A c B d x.1) (fun x => l.length - x.1) _ _ _ ⟨0, Nat.zero_le _, fun j hj => absurd hj (Nat.not_lt_zero j)⟩ (sle_all [1000, 1001] (by decide) (by simp only [En.E, En.evsC, List.map_cons, List.map_nil, Nat.reduceBEq, Nat.reduceAdd, Nat.reduceMul, Nat.reduceEqDiff, Nat.reduceLeDiff, Nat.reduceLT, ne_eq, reduceCtorEq, Int.reduceBEq, Int.reduceBNe, Int.reduceAdd, Int.reduceSub, Int.reduceMul, Int.reduceTDiv, Int.reduceTMod, Int.reduceNeg, En.bitN, Nat.testBit, Nat.reduceShiftRight, Nat.reduceShiftLeft, Nat.reduceAnd, Nat.reduceOr, Nat.reduceBNe, Int.reduceToNat, Nat.reduceSub, Int.reduceLE, Int.reduceLT, En.slLe, En.hpLe, En.chE, En.allLt, smI, smH, Int.cast_ofNat_Int])) ?_
    rintro ⟨i, hi, hp⟩
    refine hR 1000 _ _ ?_
    by_cases hlt : i < l.length
    · have d1 : decide ((i : Int) < (l.length : Int)) = true := decide_eq_true (by omega)
      have i1 : inr .i64 ((i : Int) + 1) := by simp only [En.inr, En.lo, En.hi]; omega
      have g1 : (0 : Int) ≤ i ∧ (i : Int) < l.length := by omega
      have g2 : (0 : Int) ≤ i ∧ (i : Int) < m.length := by omega
      have g3 : (0 : Int) ≤ i ∧ i < l.length := by omega
      have g4 : (0 : Int) ≤ i ∧ i < m.length := by omega
      have hA : ¬A = none := slok_some h.1.1.1 (by omega)
      have hB : ¬B = none := slok_some h.2.1.1.1 (by omega)
      simp (maxSteps := 10000000) only [En.E, En.evsC, List.map_cons, List.map_nil, Nat.reduceBEq, Nat.reduceAdd, Nat.reduceMul, Nat.reduceEqDiff, Nat.reduceLeDiff, Nat.reduceLT, ne_eq, reduceCtorEq, Int.reduceBEq, Int.reduceBNe, Int.reduceAdd, Int.reduceSub, Int.reduceMul, Int.reduceTDiv, Int.reduceTMod, Int.reduceNeg, En.bitN, Nat.testBit, Nat.reduceShiftRight, Nat.reduceShiftLeft, Nat.reduceAnd, Nat.reduceOr, Nat.reduceBNe, Int.reduceToNat, Nat.reduceSub, Int.reduceLE, Int.reduceLT, En.vV, hs, hv, hT, hG, hF, smI, smH, d1, i1, g1, g2, g3, g4, hA, hB, ndC, Int.toNat_natCast]
      refine ⟨fun hb => ?_, fun hb => ⟨⟨i + 1, by omega, fun j hj => ?_⟩, (sle_all [1000, 1001] (by decide) (by simp only [En.E, En.evsC, List.map_cons, List.map_nil, Nat.reduceBEq, Nat.reduceAdd, Nat.reduceMul, Nat.reduceEqDiff, Nat.reduceLeDiff, Nat.reduceLT, ne_eq, reduceCtorEq, Int.reduceBEq, Int.reduceBNe, Int.reduceAdd, Int.reduceSub, Int.reduceMul, Int.reduceTDiv, Int.reduceTMod, Int.reduceNeg, En.bitN, Nat.testBit, Nat.reduceShiftRight, Nat.reduceShiftLeft, Nat.reduceAnd, Nat.reduceOr, Nat.reduceBNe, Int.reduceToNat, Nat.reduceSub, Int.reduceLE, Int.reduceLT, En.slLe, En.hpLe, En.chE, En.allLt, smI, smH, ndC, Int.natCast_add, Int.cast_ofNat_Int])), by show l.length - (i + 1) < l.length - i; omega⟩⟩
      · have hb : (!eqN (ndAt l i) (ndAt m i)) = true := hb
        have hqq : q = false := by
          rw [hq, sameV, Bool.and_eq_false_iff]
          right
          rw [List.all_eq_false]
          exact ⟨i, List.mem_range.2 hlt, by simpa using hb⟩
        rw [hqq]
      · have hb : (!eqN (ndAt l i) (ndAt m i)) = false := hb
        by_cases e : j = i
        · rw [e]; simpa using hb
        · exact hp j (by omega)
    · have d1 : decide ((i : Int) < (l.length : Int)) = false := decide_eq_false (by omega)
      have hqq : q = true := by
        rw [hq, sameV, Bool.and_eq_true, List.all_eq_true]
        exact ⟨by rw [hl]; simp, fun j hj => hp j (by have := List.mem_range.1 hj; omega)⟩
      simp (maxSteps := 10000000) only [En.E, En.evsC, List.map_cons, List.map_nil, Nat.reduceBEq, Nat.reduceAdd, Nat.reduceMul, Nat.reduceEqDiff, Nat.reduceLeDiff, Nat.reduceLT, ne_eq, reduceCtorEq, Int.reduceBEq, Int.reduceBNe, Int.reduceAdd, Int.reduceSub, Int.reduceMul, Int.reduceTDiv, Int.reduceTMod, Int.reduceNeg, En.bitN, Nat.testBit, Nat.reduceShiftRight, Nat.reduceShiftLeft, Nat.reduceAnd, Nat.reduceOr, Nat.reduceBNe, Int.reduceToNat, Nat.reduceSub, Int.reduceLE, Int.reduceLT, En.vV, hs, hv, hT, hG, hF, smI, smH, d1, hqq]
  · have d0 : ((l.length : Int) != (m.length : Int)) = true := by
      simp only [bne_iff_ne, ne_eq]; omega
    have hqq : q = false := by
      rw [hq, sameV, Bool.and_eq_false_iff]; left; simpa using hl
    simp (maxSteps := 10000000) only [En.E, En.evsC, List.map_cons, List.map_nil, Nat.reduceBEq, Nat.reduceAdd, Nat.reduceMul, Nat.reduceEqDiff, Nat.reduceLeDiff, Nat.reduceLT, ne_eq, reduceCtorEq, Int.reduceBEq, Int.reduceBNe, Int.reduceAdd, Int.reduceSub, Int.reduceMul, Int.reduceTDiv, Int.reduceTMod, Int.reduceNeg, En.bitN, Nat.testBit, Nat.reduceShiftRight, Nat.reduceShiftLeft, Nat.reduceAnd, Nat.reduceOr, Nat.reduceBNe, Int.reduceToNat, Nat.reduceSub, Int.reduceLE, Int.reduceLT, En.vV, hs, hv, hT, hG, hF, smH, d0, hqq]
end Pr
end Go.Proofs.YtpkldfkmokeamaaGreatDoor
/-
Chapter 15, plainly: a name replaced by an expression gives an expression.
-/
set_option linter.unusedSimpArgs false
set_option linter.unusedVariables false
namespace Go.Proofs.YtpkldfkmokeamaaGreatDoor
namespace Pr
open Go Go.RowKit En
open Ex
def scL : List Nd → Nat → Nat → Option (Nat × Nat)
  | [], k, s => some (k, s)
  | x :: l, k, s + 1 => if x.k = 1 then scL l k s else none
  | _ :: _, 0, 0 => none
  | x :: l, k + 1, 0 => scL l (k + Mn x) (Kn x)
theorem scL_app : ∀ (l m : List Nd) (k s : Nat), scL (l ++ m) k s = (scL l k s).bind fun r => scL m r.1 r.2
  | [], m, k, s => rfl
  | x :: l, m, k, s + 1 => by
    simp only [List.cons_append, scL]
    split
    · exact scL_app l m k s
    · rfl
  | x :: l, m, 0, 0 => rfl
  | x :: l, m, k + 1, 0 => by simp only [List.cons_append, scL]; exact scL_app l m _ _
theorem scL_more (j : Nat) : ∀ (l : List Nd) (k s : Nat) (r : Nat × Nat), scL l k s = some r → scL l (k + j) s = some (r.1 + j, r.2)
  | [], k, s, r, h => by simp only [scL, Option.some.injEq] at h; subst h; rfl
  | x :: l, k, s + 1, r, h => by
    simp only [scL] at h ⊢
    split at h
    · next hx => rw [if_pos hx]; exact scL_more j l k s r h
    · cases h
  | x :: l, 0, 0, r, h => by cases h
  | x :: l, k + 1, 0, r, h => by
    have h : scL l (k + Mn x) (Kn x) = some r := h
    have := scL_more j l (k + Mn x) (Kn x) r h
    rw [show k + 1 + j = (k + j) + 1 by omega]
    show scL l (k + j + Mn x) (Kn x) = _
    rw [show k + j + Mn x = k + Mn x + j by omega]
    exact this
theorem scL_skip : ∀ (s : Nat) (l : List Nd) (k : Nat), s ≤ l.length → (∀ j, j < s → (ndAt l j).k = 1) → scL l k s = scL (l.drop s) k 0
  | 0, l, k, _, _ => rfl
  | s + 1, [], k, h, _ => absurd h (Nat.not_succ_le_zero s)
  | s + 1, x :: l, k, h, hk => by
    have hx : x.k = 1 := hk 0 (Nat.succ_pos s)
    simp only [scL]
    rw [if_pos hx, List.drop_succ_cons]
    exact scL_skip s l k (by simpa using h) fun j hj => hk (j + 1) (by omega)
theorem ndAt_drop {l : List Nd} {a j : Nat} : ndAt (l.drop a) j = ndAt l (a + j) := by
  simp [ndAt, List.getD_eq_getElem?_getD, List.getElem?_drop]
theorem drop_nd {l : List Nd} {a : Nat} (h : a < l.length) : l.drop a = ndAt l a :: l.drop (a + 1) := by
  rw [List.drop_eq_getElem_cons h]
  congr 1
  simp [ndAt, List.getD_eq_getElem?_getD, h]
theorem scL_of_ends {l : List Nd} (hF : Fine l.length (Ks l)) (hb : ∀ i, i < l.length → badL l i = false) : ∀ (d k a : Nat), l.length - a ≤ d → a ≤ l.length → ends l.length (Ms l) (Ks l) k a = some l.length → scL (l.drop a) k 0 = some (0, 0) := by
  intro d
  induction d with
  | zero =>
    intro k a h ha he
    cases k with
    | zero => rw [ends_zero] at he; cases he; rw [List.drop_length]; rfl
    | succ k => rw [ends_out _ _ _ (by omega)] at he; cases he
  | succ d ih =>
    intro k a h ha he
    cases k with
    | zero => rw [ends_zero] at he; cases he; rw [List.drop_length]; rfl
    | succ k =>
      by_cases hlt : a < l.length
      · rw [ends_in _ _ _ hlt] at he
        rw [drop_nd hlt]
        show scL (l.drop (a + 1)) (k + Mn (ndAt l a)) (Kn (ndAt l a)) = _
        have hk := hF a hlt
        rw [scL_skip (Kn (ndAt l a)) (l.drop (a + 1)) _ (by rw [List.length_drop]; have : Ks l a = Kn (ndAt l a) := rfl; omega) ?_, List.drop_drop]
        · exact ih (k + Ms l a) (a + 1 + Ks l a) (by omega) hk he
        · intro j hj
          have h3 : (ndAt l a).k = 3 := by
            by_cases e : (ndAt l a).k = 3
            · exact e
            · have : Kn (ndAt l a) = 0 := if_neg e
              omega
          rw [ndAt_drop]
          exact bad_num (hb a hlt) h3 j hj
      · rw [ends_out _ _ _ (by omega)] at he; cases he
theorem scL_inv : ∀ (s : Nat) (l : List Nd) (k : Nat), scL l k s = some (0, 0) → s ≤ l.length ∧ (∀ j, j < s → (ndAt l j).k = 1) ∧ scL (l.drop s) k 0 = some (0, 0)
  | 0, l, k, h => ⟨Nat.zero_le _, fun j hj => absurd hj (Nat.not_lt_zero j), h⟩
  | s + 1, [], k, h => by simp [scL] at h
  | s + 1, x :: l, k, h => by
    simp only [scL] at h
    split at h
    · next hx =>
      obtain ⟨h1, h2, h3⟩ := scL_inv s l k h
      refine ⟨by simpa using h1, fun j hj => ?_, h3⟩
      cases j with
      | zero => exact hx
      | succ j => exact h2 j (by omega)
    · cases h
theorem ends_of_scL {l : List Nd} : ∀ (d k a : Nat), l.length - a ≤ d → a ≤ l.length → scL (l.drop a) k 0 = some (0, 0) →
    ends l.length (Ms l) (Ks l) k a = some l.length ∧ ∀ i, a ≤ i → i < l.length → i + 1 + Ks l i ≤ l.length := by
  intro d
  induction d with
  | zero =>
    intro k a h ha he
    have : a = l.length := by omega
    subst this
    rw [List.drop_length] at he
    simp only [scL, Option.some.injEq, Prod.mk.injEq, and_true] at he
    subst he
    exact ⟨ends_zero _ _ _ _, fun i h1 h2 => by omega⟩
  | succ d ih =>
    intro k a h ha he
    by_cases hlt : a < l.length
    · rw [drop_nd hlt] at he
      cases k with
      | zero => cases he
      | succ k =>
        have he : scL (l.drop (a + 1)) (k + Mn (ndAt l a)) (Kn (ndAt l a)) = some (0, 0) := he
        obtain ⟨h1, h2, h3⟩ := scL_inv _ _ _ he
        rw [List.length_drop] at h1
        rw [List.drop_drop] at h3
        have hK : Ks l a = Kn (ndAt l a) := rfl
        obtain ⟨h4, h5⟩ := ih (k + Ms l a) (a + 1 + Ks l a) (by omega) (by omega) h3
        rw [ends_in _ _ _ hlt]
        refine ⟨h4, fun i hi1 hi2 => ?_⟩
        by_cases e : a + 1 + Ks l a ≤ i
        · exact h5 i e hi2
        · by_cases e2 : i = a
          · subst e2; omega
          · have h6 := h2 (i - (a + 1)) (by omega)
            rw [ndAt_drop, show a + 1 + (i - (a + 1)) = i by omega] at h6
            have : Ks l i = 0 := if_neg (by rw [h6]; decide)
            omega
    · have : a = l.length := by omega
      subst this
      rw [List.drop_length] at he
      simp only [scL, Option.some.injEq, Prod.mk.injEq, and_true] at he
      subst he
      exact ⟨ends_zero _ _ _ _, fun i h1 h2 => by omega⟩
def repF (nm : ByteArray) (wi : List Nd) (x : Nd) : List Nd := if x.k = 4 ∧ x.nm = nm then wi else [x]
def repL (l : List Nd) (nm : ByteArray) (wi : List Nd) : List Nd := l.flatMap (repF nm wi)
theorem scL_rep {nm : ByteArray} {wi : List Nd} (hw : scL wi 1 0 = some (0, 0)) : ∀ (l : List Nd) (k s : Nat) (r : Nat × Nat), scL l k s = some r → scL (repL l nm wi) k s = some r
  | [], k, s, r, h => h
  | x :: l, k, s + 1, r, h => by
    simp only [scL] at h
    split at h
    · next hx =>
      have : repF nm wi x = [x] := if_neg (by rw [hx]; simp)
      rw [repL, List.flatMap_cons, this]
      show (if x.k = 1 then scL (repL l nm wi) k s else none) = _
      rw [if_pos hx]
      exact scL_rep hw l k s r h
    · cases h
  | x :: l, 0, 0, r, h => by cases h
  | x :: l, k + 1, 0, r, h => by
    have h : scL l (k + Mn x) (Kn x) = some r := h
    rw [repL, List.flatMap_cons]
    by_cases hx : x.k = 4 ∧ x.nm = nm
    · rw [repF, if_pos hx, scL_app, show k + 1 = 1 + k by omega, scL_more k wi 1 0 (0, 0) hw]
      have hM : Mn x = 0 := by simp [Mn, opN, hx.1]
      have hK : Kn x = 0 := by simp [Kn, hx.1]
      rw [hM, hK] at h
      show scL (repL l nm wi) (0 + k) 0 = some r
      rw [Nat.zero_add]
      exact scL_rep hw l k 0 r h
    · rw [repF, if_neg hx]
      show scL (repL l nm wi) (k + Mn x) (Kn x) = some r
      exact scL_rep hw l _ _ r h
theorem chk_scL {l : List Nd} (h : (chkV l).2 = 0) : scL l 1 0 = some (0, 0) := by
  have hg := (chk_ok h).2.2.1
  obtain ⟨t1, t2, _⟩ := chk_tree h
  have hx := t1
  rw [Whole] at hx
  obtain ⟨e, he⟩ := Option.isSome_iff_exists.1 hx
  have : eR l 0 = e := by rw [eR, EndR, he]; rfl
  rw [t2] at this
  subst this
  exact scL_of_ends hg.fine (chk_bad h) _ 1 0 (Nat.le_refl _) (Nat.zero_le _) he
def nodeOk (x : Nd) : Prop := (opN x = true → x.c = 1 ∨ x.c = 2) ∧ (x.k = 3 → 0 ≤ x.c)
theorem ndAt_mem {l : List Nd} {i : Nat} (h : i < l.length) : ndAt l i ∈ l := by
  have : ndAt l i = l[i] := by simp [ndAt, List.getD_eq_getElem?_getD, h]
  rw [this]; exact List.getElem_mem h
theorem good_nodes {l : List Nd} (hg : Good l) : ∀ x ∈ l, nodeOk x := by
  intro x hx
  obtain ⟨i, hi, rfl⟩ := List.mem_iff_getElem.1 hx
  have e : l[i] = ndAt l i := by simp [ndAt, List.getD_eq_getElem?_getD, hi]
  rw [e]
  exact ⟨hg.op i hi, fun h3 => (hg.ls i hi h3).1⟩
theorem rep_good {l wi : List Nd} {nm : ByteArray} (h : (chkV l).2 = 0) (hw : (chkV wi).2 = 0) (hlen : (repL l nm wi).length ≤ 100000) :
    Good (repL l nm wi) ∧ Whole (repL l nm wi).length (Ms (repL l nm wi)) (Ks (repL l nm wi)) 0 ∧ (repL l nm wi).length ≠ 0 := by
  have hs := scL_rep (chk_scL hw) (nm := nm) l 1 0 (0, 0) (chk_scL h)
  obtain ⟨h1, h2⟩ := ends_of_scL (l := repL l nm wi) _ 1 0 (Nat.le_refl _) (Nat.zero_le _) hs
  have hn : ∀ x ∈ repL l nm wi, nodeOk x := by
    intro x hx
    obtain ⟨y, hy, hxy⟩ := List.mem_flatMap.1 hx
    rw [repF] at hxy
    split at hxy
    · exact good_nodes (chk_ok hw).2.2.1 x hxy
    · rw [List.mem_singleton] at hxy; subst hxy
      exact good_nodes (chk_ok h).2.2.1 x hy
  refine ⟨⟨fun i hi => (hn _ (ndAt_mem hi)).1, fun i hi h3 => ⟨(hn _ (ndAt_mem hi)).2 h3, h2 i (Nat.zero_le _) hi⟩, hlen⟩, by rw [Whole, h1]; rfl, fun h0 => ?_⟩
  rw [List.eq_nil_of_length_eq_zero h0] at hs
  simp [scL] at hs
theorem rep_snoc {l : List Nd} {nm : ByteArray} {wi : List Nd} {i : Nat} (hi : i < l.length) : repL (l.take (i + 1)) nm wi = repL (l.take i) nm wi ++ repF nm wi (ndAt l i) := by
  have e : l[i] = ndAt l i := by simp [ndAt, List.getD_eq_getElem?_getD, hi]
  rw [repL, List.take_succ_eq_append_getElem hi, List.flatMap_append, e, List.flatMap_singleton]; rfl
theorem repF_len (nm : ByteArray) (wi : List Nd) (x : Nd) : (repF nm wi x).length ≤ wi.length + 1 := by
  rw [repF]; split
  · omega
  · simp
theorem rep_len (nm : ByteArray) (wi : List Nd) : ∀ l : List Nd, (repL l nm wi).length ≤ l.length * (wi.length + 1)
  | [] => by simp [repL]
  | x :: l => by
    have h1 := rep_len nm wi l
    have h2 := repF_len nm wi x
    rw [repL, List.flatMap_cons, List.length_append, List.length_cons, Nat.succ_mul]
    have : (l.flatMap (repF nm wi)).length = (repL l nm wi).length := rfl
    omega
end Pr
end Go.Proofs.YtpkldfkmokeamaaGreatDoor
/-
Chapter 15: Replace, the program's and the reference's.
-/
set_option linter.unusedSimpArgs false
set_option linter.unusedVariables false
namespace Go.Proofs.YtpkldfkmokeamaaGreatDoor
namespace Pr
open Go Go.RowKit En
open Ex Rf
def repE (l wi : List Nd) (nm : ByteArray) : Int :=
  if (chkV l).2 ≠ 0 then (chkV l).2 else if (chkV wi).2 ≠ 0 then (chkV wi).2 else if nameV nm = false then 24 else
    if 400 < (repL l nm wi).length then 3 else if 24 < dpV (repL l nm wi) 0 then 3 else 0
def nodR (c : Prop) (xs : List Nd) (e : Int) (nx : Nat) : Res := bif e == 0 then .val c fun B d => (.tup [.g nx B xs.length d, .v (.int .i64 0)], [(nx, .recs B d 7 xs.length fun i => ndC (ndAt xs i))]) else .is c (.tup [.v (.slice none 0 0), .v (.int .i64 e)])
theorem nodR_y {c : Prop} {xs : List Nd} {e : Int} {nx : Nat} (h : e = 0) : nodR c xs e nx = .val c fun B d => (.tup [.g nx B xs.length d, .v (.int .i64 0)], [(nx, .recs B d 7 xs.length fun i => ndC (ndAt xs i))]) := by rw [nodR, h]; rfl
theorem nodR_n {c : Prop} {xs : List Nd} {e : Int} {nx : Nat} (h : e ≠ 0) : nodR c xs e nx = .is c (.tup [.v (.slice none 0 0), .v (.int .i64 e)]) := by
  have : (e == 0) = false := by simpa using h
  rw [nodR, this]; rfl
theorem nodR_vc {c : Prop} {xs : List Nd} {er : Int} {nx : Nat} (h : (nodR c xs er nx).vc) : c := by
  unfold nodR at h
  cases hq : (er == 0) <;> rw [hq] at h <;> exact h
def dpC (E : Option Addr) (e : Nat) (xs : List Nd) : Ch := .deep true 1 7 (fun _ => E) (fun _ => e) (fun _ => xs.length) fun _ i => ndC (ndAt xs i)
theorem row_dp {B : Nat} {w : World} {A : Option Addr} {c n : Nat} {e : TypeId} {xs : List Nd} {cs : List SV} (h : Hold B w (.rowV A c e 7 n cs)) (hc : cs = xs.flatMap ndC) (hn : n = xs.length) : Hold B w (dpC A c xs) := by
  intro i hi
  have hr := row_nodes (B' := 0) h hc hn
  subst hn
  refine ⟨hr, fun _ h0 a ha => ?_⟩
  subst ha
  rcases h.2 with ⟨e0, _⟩ | ⟨g, cap, cur, e0, hg, _⟩
  · cases e0
  · cases e0; exact hg
def NoP (xs : List Nd) (er : Int) (s : SS) (ys : List SV) : Prop := (er ≠ 0 ∧ ys = [.v (.slice none 0 0), .v (.int .i64 er)]) ∨ (er = 0 ∧ ∃ k k' A c, ys = [.g k A xs.length c, .v (.int .i64 0)] ∧ lookH s.hp k' = dpC A c xs)
def NoQ (xs : List Nd) (er : Int) (w : World) (e : Ending) (w' : World) : Prop := Below w.heap.size w w' ∧ ((er ≠ 0 ∧ e = .returned (.tuple #[.slice none 0 0, .int .i64 er])) ∨ (er = 0 ∧ ∃ B d, e = .returned (.tuple #[.slice B xs.length d, .int .i64 0]) ∧ Hold w.heap.size w' (.recs B d 7 xs.length fun i => ndC (ndAt xs i)) ∧ ∀ b, foot (.recs B d 7 xs.length fun i => ndC (ndAt xs i)) b → w.heap.size ≤ b))
theorem NoP_Q {xs : List Nd} {er : Int} {O : Nat → Prop} {w w' : World} {s : SS} {ys : List SV} (h : NoP xs er s ys) (H : HH w O s.hp w') : NoQ xs er w (.returned (oneV ys)) w' := by
  rcases h with ⟨h0, rfl⟩ | ⟨h0, k, k', A, c, rfl, hk⟩
  · exact ⟨H.below, .inl ⟨h0, rfl⟩⟩
  · have hd := H.hold k'
    rw [hk] at hd
    obtain ⟨hs, ho⟩ := hd 0 (Nat.lt_succ_self 0)
    exact ⟨H.below, .inr ⟨h0, A, c, rfl, hs, fun b ⟨h1, a, ha, hb⟩ => by rw [← hb]; exact ho rfl h1 a ha⟩⟩
theorem nodR_ok {c : Prop} {xs : List Nd} {er : Int} {nx : Nat} {O' : Nat → Prop} {w0 w w' : World} {hp : Hp} {e : Ending} (H : HH w0 O' hp w) (h : NoQ xs er w e w') :
    ∃ u, e = .returned (den ((nodR c xs er nx).out u).1) ∧ Stp w0 hp w (nodR c xs er nx).wr ((nodR c xs er nx).out u).2 w' := by
  obtain ⟨hb, ⟨h0, rfl⟩ | ⟨h0, B, d, rfl, hs, hf⟩⟩ := h
  · simp only [nodR_n h0]
    exact ⟨⟨0, none, 0, none, 0, mz⟩, rfl, .still hb⟩
  · simp only [nodR_y h0]
    refine ⟨⟨0, B, d, none, 0, mz⟩, rfl, Stp.rd hb ⟨⟨hs, rfl⟩, trivial⟩ fun k b' hx => ?_⟩
    exact foot_look (Q := fun b => w.heap.size ≤ b ∨ ∃ j, foot (lookH hp j) b ∧ mutb (lookH hp j) = false) (l := [(_, _)]) ⟨fun b hb => .inl (hf b hb), trivial⟩ hx
theorem hh_ro {O : Nat → Prop} {w0 w : World} {hp : Hp} (k : Nat) (c : Ch) (H : HH w0 O hp w) (hm : mutb c = false) (hh : ∀ w, Hold w0.heap.size w (lookH hp k) → Hold w0.heap.size w c) (ft : ∀ b, foot c b → foot (lookH hp k) b) : HH w0 O ((k, c) :: hp) w := by
  have lk : ∀ j, lookH ((k, c) :: hp) j = if k = j then c else lookH hp j := by
    intro j
    simp only [lookH]
    by_cases h : k = j
    · simp [h]
    · have e : (k == j) = false := by simpa using h
      rw [e, if_neg h]; rfl
  refine ⟨H.below, fun j b hb => ?_, fun j => ?_, fun i j hij hm' b hb => ?_⟩
  · rw [lk] at hb
    split at hb
    · exact H.old k b (ft b hb)
    · exact H.old j b hb
  · rw [lk]
    split
    · exact hh w (H.hold k)
    · exact H.hold j
  · rw [lk] at hm' hb ⊢
    split at hb
    · next h1 => rw [if_pos h1, hm] at hm'; cases hm'
    · next h1 =>
      rw [if_neg h1] at hm'
      split
      · next h2 =>
        intro hf
        exact H.sep i k (fun e => h1 e.symm) hm' b hb (ft b hf)
      · exact H.sep i j hij hm' b hb
theorem sle_ro {s : SS} (k : Nat) (c : Ch) (hm : mutb c = false) (hh : ∀ B w, Hold B w (lookH s.hp k) → Hold B w c) (ft : ∀ b, foot c b → foot (lookH s.hp k) b) (hk : k < s.nx) : SLe s ⟨s.sl, (k, c) :: s.hp, s.nx⟩ :=
  sle_hp (fun w0 O w H => hh_ro k c H hm (fun w h => hh _ w h) ft) fun j hj hn => by
    have : (k == j) = false := by simp; omega
    simp only [lookH, this, cond_false]; exact hn
theorem sle_dp {s : SS} (k kR : Nat) {A : Option Addr} {c n : Nat} {e : TypeId} {xs : List Nd} {cs : List SV} (hR : lookH s.hp k = .rowV A c e 7 n cs) (hc : cs = xs.flatMap ndC) (hn : n = xs.length) (hne : kR ≠ k) (hm : mutb (lookH s.hp kR) = false) (hk : k < s.nx) (hk2 : kR < s.nx) :
    SLe s ⟨s.sl, (kR, .recs A c 7 xs.length fun i => ndC (ndAt xs i)) :: (k, dpC A c xs) :: s.hp, s.nx⟩ := by
  refine SLe.trans (sle_ro k (dpC A c xs) rfl (fun B w h => by rw [hR] at h; exact row_dp h hc hn) (fun b hb => ?_) hk) (sle_hp (fun w0 O w H => ?_) fun j hj hn => ?_)
  · rw [hR]
    obtain ⟨j, _, _, hx⟩ := hb
    exact hx
  · refine hh_deep (kD := k) (kR := kR) (i := 0) (own := true) (n := 1) (z := 7) (A := fun _ => A) (c := fun _ => c) (m := fun _ => xs.length) (f := fun _ i => ndC (ndAt xs i)) ?_ (Nat.lt_succ_self 0) ?_ hne H
    · simp only [lookH, beq_self_eq_true, cond_true]; rfl
    · have : (k == kR) = false := by simpa using fun h => hne h.symm
      simp only [lookH, this, cond_false]; exact hm
  · have : (kR == j) = false := by simp; simp only at hj; omega
    simp only [lookH, this, cond_false]; exact hn
section
variable (l : List Nd) (A : Option Addr) (c : Nat) (wi : List Nd) (B : Option Addr) (d : Nat) (nm : ByteArray)
def outC (i : Nat) (E : Option Addr) (e : Nat) : Ch := .rowV E e 38 7 (repL (l.take i) nm wi).length ((repL (l.take i) nm wi).flatMap ndC)
end
theorem rp0_s {k : Nat} : (den (SV.v (Value.slice none 0 0)) = den (SV.g k none 0 0)) = True := eq_true rfl
theorem rpgg {k k' n c : Nat} {A : Option Addr} : (den (SV.g k A n c) = den (SV.g k' A n c)) = True := eq_true rfl
end Pr
end Go.Proofs.YtpkldfkmokeamaaGreatDoor
/-
Chapter 15: the program's Replace.
-/
set_option linter.unusedSimpArgs false
set_option linter.unusedVariables false
namespace Go.Proofs.YtpkldfkmokeamaaGreatDoor
namespace Pr
open Go Go.RowKit En
open Ex Rf
def tyNds2 : TypeId × TI := (74, ⟨true, false, 1, [.v (.slice none 0 0)], [], 22, 0, 24, 1, 1⟩)
theorem tyNds2_ok : TyOk Tryz.prog tyNds2.1 tyNds2.2 := .mk' (by kernel_rfl) (by kernel_rfl) (by decide) (by decide) (by kernel_rfl) (by kernel_rfl)
def tlRq : List (TypeId × TI) := tyNds2 :: tlCk
theorem tlRq_ok : TyAll Tryz.prog (lookT tlRq) := tyAll_p tyNds2_ok tlCk_ok
def glRq : List (FuncId × Spc) := [(13, spExC), (15, spName15), (58, spGrow)]
theorem glRq_ok : GOk Tryz.prog (lookG glRq) := lG_cons (by kernel_rfl) spExC_ok <| lG_cons (by kernel_rfl) spName15_ok <| lG_cons (by kernel_rfl) spGrow_ok lG_nil
section
variable (l : List Nd) (A : Option Addr) (c : Nat) (wi : List Nd) (B : Option Addr) (d : Nat) (nm : ByteArray) (bn on cn ba oa ca : Nat)
def rqH : Hp := (1000, .recs A c 7 l.length fun i => ndC (ndAt l i)) :: (1001, .recs B d 7 wi.length fun i => ndC (ndAt wi i)) :: gHu bn on cn ba oa ca
def rqI (i : Nat) (E : Option Addr) (e : Nat) : SS := ⟨[(0, .g 1000 A l.length c), (1, .v (.string nm)), (2, .g 1001 B wi.length d), (12, .g 1002 E (repL (l.take i) nm wi).length e), (37, .g 1000 A l.length c), (38, .v (.int .i64 l.length)), (39, .v (.int .i64 i))], (1002, outC l wi nm i E e) :: rqH l A c wi B d bn on cn ba oa ca, 30000⟩
def rqJ (E : Option Addr) (e : Nat) : SS := ⟨[(0, .g 1000 A l.length c), (1, .v (.string nm)), (2, .g 1001 B wi.length d), (12, .g 1003 E (repL l nm wi).length e), (37, .g 1000 A l.length c), (38, .v (.int .i64 l.length)), (39, .v (.int .i64 l.length))], (1003, .recs E e 7 (repL l nm wi).length fun i => ndC (ndAt (repL l nm wi) i)) :: (1002, dpC E e (repL l nm wi)) :: rqH l A c wi B d bn on cn ba oa ca, 30000⟩
end
theorem dV_0 {l : List Nd} : dV l 0 0 = .v (.int .i64 (dpV l 0 : Nat)) := by rw [dV, if_pos (Nat.le_refl 0)]; rfl
set_option maxRecDepth 100000 in
set_option maxHeartbeats 4000000 in
theorem replace_any (l : List Nd) (hlen : l.length ≤ 100000) (hz : zsN l) (wi : List Nd) (hlen2 : wi.length ≤ 100000) (hz2 : zsN wi) (nm : ByteArray) (hnm : nm.size ≤ 4611686018427387904) (A : Option Addr) (c : Nat) (B : Option Addr) (d : Nat) (bn on cn ba oa ca : Nat) (h4 : 4 ≤ cn) (h3 : 3 ≤ ca) (w : World) (h : allRd w.heap.size w (rqH l A c wi B d bn on cn ba oa ca)) :
    Calls Tryz.prog 25 #[.slice A l.length c, .string nm, .slice B wi.length d] w (NoQ (repL l nm wi) (repE l wi nm) w) := by
  obtain ⟨q, hq⟩ : ∃ q, q = repE l wi nm := ⟨_, rfl⟩
  rw [← hq]
  rw [repE] at hq
  refine calls_go (args := [.g 1000 A l.length c, .v (.string nm), .g 1001 B wi.length d]) (hp := rqH l A c wi B d bn on cn ba oa ca) (nx := 1004) (n := 3000) (U := [(2, 3), (1000000, 40)]) (V := []) (tl := tlRq) (gl := glRq) (post := NoP (repL l nm wi) q)
    followP tlRq_ok glRq_ok Tryz.func25 rfl (by kernel_rfl) (Nat.le_of_ble_eq_true (by kernel_rfl)) (by kernel_rfl) (by kernel_rfl) (hh_list h) (free_list (by simp [allLt, rqH, gHu, gHp])) ?_ ?_
  · exact fun s ys w' hp H => NoP_Q hp H
  intro L F T G nd va hE
  obtain ⟨hL, hF, hs, hv, hT, hG, hR, hI, hJ, hW⟩ := hE
  rw [Tryz.results25] at hF
  simp (maxSteps := 1000000) only [En.nN, En.E, En.evsC, List.map_cons, List.map_nil, Nat.reduceBEq, Nat.reduceAdd, Nat.reduceMul, Nat.reduceEqDiff, Nat.reduceLeDiff, Nat.reduceLT, ne_eq, reduceCtorEq, Int.reduceBEq, Int.reduceBNe, Int.reduceAdd, Int.reduceSub, Int.reduceMul, Int.reduceNeg, Nat.reduceBNe, Int.reduceToNat, Nat.reduceSub, Int.reduceLE, Int.reduceLT] at hv
  simp only [En.at_nil, En.at_cons, En.ag_nil, En.ag_cons, and_true, tlRq, glRq, tlCk, tyNds2, tyInt, tyI64, tyBool, tyStr, tyErr, tyNode, tyNodes, tyInts, tyRows, tyBools, tyTree] at hT hG
  have b00 : ((0 : Int) == 0) = true := rfl
  have b07 : ((0 : Int) != 0) = false := rfl
  have u1 : inr .i64 1 := by simp only [En.inr, En.lo, En.hi]; omega
  have u2 : inr .i64 2 := by simp only [En.inr, En.lo, En.hi]; omega
  by_cases h1 : (chkV l).2 = 0
  · rw [if_neg (by simp [h1])] at hq
    by_cases h2 : (chkV wi).2 = 0
    · rw [if_neg (by simp [h2])] at hq
      cases hm : nameV nm with
      | true =>
        rw [hm, if_neg (by simp)] at hq
        simp (maxSteps := 10000000) only [En.E, En.evsC, List.map_cons, List.map_nil, Nat.reduceBEq, Nat.reduceAdd, Nat.reduceMul, Nat.reduceEqDiff, Nat.reduceLeDiff, Nat.reduceLT, ne_eq, reduceCtorEq, Int.reduceBEq, Int.reduceBNe, Int.reduceAdd, Int.reduceSub, Int.reduceMul, Int.reduceNeg, Nat.reduceBNe, Int.reduceToNat, Nat.reduceSub, Int.reduceLE, Int.reduceLT, En.vV, hs, hv, hT, hG, hF, rqH, gHu, gHp, spExC_q, ckR, NdR_q, chL_q, globR_q, globU_q, hlen, hz, hlen2, hz2, h4, h3, h1, h2, b00, b07, u1, u2, spName15_q, hnm, hm]
        intro b
        refine hW _ _ _ (sle_hp (hp := (1002, .rowV none 0 38 7 0 []) :: _) (fun w0 O w H => hh_row0 H) fun k hk hn => ?_) ?_
        · have : (1002 == k) = false := by simp only [] at hk; simp; omega
          simp only [lookH, this, cond_false]; exact hn
        refine hI {x : Nat × Option Addr × Nat // x.1 ≤ l.length} (fun x => rqI l A c wi B d nm bn on cn ba oa ca x.1.1 x.1.2.1 x.1.2.2) (fun x => l.length - x.1.1) _ _ _
          ⟨(0, none, 0), Nat.zero_le _⟩ (sle_all [1002, 1000, 1001, 4, 5, 0, 1, 2, 3] (by decide) (by simp only [En.E, En.evsC, List.map_cons, List.map_nil, Nat.reduceBEq, Nat.reduceAdd, Nat.reduceMul, Nat.reduceEqDiff, Nat.reduceLeDiff, Nat.reduceLT, ne_eq, reduceCtorEq, Int.reduceBEq, Int.reduceBNe, Int.reduceAdd, Int.reduceSub, Int.reduceMul, Int.reduceNeg, Nat.reduceBNe, Int.reduceToNat, Nat.reduceSub, Int.reduceLE, Int.reduceLT, En.slLe, En.hpLe, En.chE, En.allLt, rqI, rqH, gHu, gHp, outC, repL, List.take_zero, List.flatMap_nil, List.length_nil, rp0_s, Int.cast_ofNat_Int])) ?_
        rintro ⟨⟨i, E, e⟩, hi⟩
        simp only at hi
        by_cases hlt : i < l.length
        · have d1 : decide ((i : Int) < (l.length : Int)) = true := decide_eq_true (by omega)
          have i1 : inr .i64 ((i : Int) + 1) := by simp only [En.inr, En.lo, En.hi]; omega
          have g1 : (0 : Int) ≤ i ∧ (i : Int) < l.length := by omega
          have hA : ¬A = none := slok_some h.1.1.1 (by omega)
          have hrl : (repL (l.take i) nm wi).length ≤ 100000 * 100001 := Nat.le_trans (rep_len nm wi _) (Nat.mul_le_mul (by rw [List.length_take]; omega) (by omega))
          have hsn := rep_snoc (nm := nm) (wi := wi) hlt
          rw [repF] at hsn
          have hX : ndC (ndAt l i) = [.v (.int .i64 (ndAt l i).k), .v (.int .i64 (ndAt l i).p), .v (.int .i64 (ndAt l i).c), .v (.string (ndAt l i).nm), .v (.string (ndAt l i).tx), .v (.int .i64 (ndAt l i).n), .v (.int .i64 (ndAt l i).s)] := rfl
          refine hR 4000 _ _ ?_
          by_cases k4 : (ndAt l i).k = 4
          · have d4 : ((ndAt l i).k == 4) = true := by simpa using k4
            by_cases hn : (ndAt l i).nm = nm
            · subst hn
              have d5 : ((ndAt l i).nm.toList == (ndAt l i).nm.toList) = true := beq_self_eq_true _
              rw [if_pos ⟨k4, rfl⟩] at hsn
              simp (maxSteps := 10000000) only [En.E, En.evsC, List.map_cons, List.map_nil, Nat.reduceBEq, Nat.reduceAdd, Nat.reduceMul, Nat.reduceEqDiff, Nat.reduceLeDiff, Nat.reduceLT, ne_eq, reduceCtorEq, Int.reduceBEq, Int.reduceBNe, Int.reduceAdd, Int.reduceSub, Int.reduceMul, Int.reduceNeg, Nat.reduceBNe, Int.reduceToNat, Nat.reduceSub, Int.reduceLE, Int.reduceLT, En.vV, hs, hv, hT, hG, hF, rqI, rqH, gHu, gHp, outC, d1, d4, d5, i1, hX, g1, hA, Int.toNat_natCast]
              exact ⟨hlt, fun b => ⟨⟨by omega, by omega, by rw [flat_range, flat_lenS], by rw [flat_range]; exact flat_one _⟩, fun A1 c1 => ⟨⟨(i + 1, A1, c1), hlt⟩, (sle_all [31024, 1000, 1001, 4, 5, 0, 1, 2, 3] (by decide) (by simp only [En.E, En.evsC, List.map_cons, List.map_nil, Nat.reduceBEq, Nat.reduceAdd, Nat.reduceMul, Nat.reduceEqDiff, Nat.reduceLeDiff, Nat.reduceLT, ne_eq, reduceCtorEq, Int.reduceBEq, Int.reduceBNe, Int.reduceAdd, Int.reduceSub, Int.reduceMul, Int.reduceNeg, Nat.reduceBNe, Int.reduceToNat, Nat.reduceSub, Int.reduceLE, Int.reduceLT, En.slLe, En.hpLe, En.chE, En.allLt, rqI, rqH, gHu, gHp, outC, hsn, flat_range, List.flatMap_append, List.length_append, rpgg, Int.natCast_add, Int.cast_ofNat_Int])), by simp only; omega⟩⟩⟩
            · have d5 := str_ne hn
              rw [if_neg (fun h => hn h.2)] at hsn
              simp (maxSteps := 10000000) only [En.E, En.evsC, List.map_cons, List.map_nil, Nat.reduceBEq, Nat.reduceAdd, Nat.reduceMul, Nat.reduceEqDiff, Nat.reduceLeDiff, Nat.reduceLT, ne_eq, reduceCtorEq, Int.reduceBEq, Int.reduceBNe, Int.reduceAdd, Int.reduceSub, Int.reduceMul, Int.reduceNeg, Nat.reduceBNe, Int.reduceToNat, Nat.reduceSub, Int.reduceLE, Int.reduceLT, En.vV, hs, hv, hT, hG, hF, rqI, rqH, gHu, gHp, outC, d1, d4, d5, i1, hX, g1, hA, Int.toNat_natCast]
              exact ⟨hlt, fun b b1 => ⟨⟨by omega, by omega⟩, fun A1 c1 => ⟨⟨(i + 1, A1, c1), hlt⟩, (sle_all [31536, 1000, 1001, 4, 5, 0, 1, 2, 3] (by decide) (by simp only [En.E, En.evsC, List.map_cons, List.map_nil, Nat.reduceBEq, Nat.reduceAdd, Nat.reduceMul, Nat.reduceEqDiff, Nat.reduceLeDiff, Nat.reduceLT, ne_eq, reduceCtorEq, Int.reduceBEq, Int.reduceBNe, Int.reduceAdd, Int.reduceSub, Int.reduceMul, Int.reduceNeg, Nat.reduceBNe, Int.reduceToNat, Nat.reduceSub, Int.reduceLE, Int.reduceLT, En.slLe, En.hpLe, En.chE, En.allLt, rqI, rqH, gHu, gHp, outC, hsn, List.flatMap_append, List.length_append, List.flatMap_cons, List.flatMap_nil, List.append_nil, List.length_cons, List.length_nil, rpgg, Int.natCast_add, Int.cast_ofNat_Int, Nat.zero_add, hX])), by simp only; omega⟩⟩⟩
          · have d4 : ((ndAt l i).k == 4) = false := by simpa using k4
            rw [if_neg (fun h => k4 h.1)] at hsn
            simp (maxSteps := 10000000) only [En.E, En.evsC, List.map_cons, List.map_nil, Nat.reduceBEq, Nat.reduceAdd, Nat.reduceMul, Nat.reduceEqDiff, Nat.reduceLeDiff, Nat.reduceLT, ne_eq, reduceCtorEq, Int.reduceBEq, Int.reduceBNe, Int.reduceAdd, Int.reduceSub, Int.reduceMul, Int.reduceNeg, Nat.reduceBNe, Int.reduceToNat, Nat.reduceSub, Int.reduceLE, Int.reduceLT, En.vV, hs, hv, hT, hG, hF, rqI, rqH, gHu, gHp, outC, d1, d4, i1, hX, g1, hA, Int.toNat_natCast]
            exact ⟨hlt, fun b b1 => ⟨⟨by omega, by omega⟩, fun A1 c1 => ⟨⟨(i + 1, A1, c1), hlt⟩, (sle_all [31536, 1000, 1001, 4, 5, 0, 1, 2, 3] (by decide) (by simp only [En.E, En.evsC, List.map_cons, List.map_nil, Nat.reduceBEq, Nat.reduceAdd, Nat.reduceMul, Nat.reduceEqDiff, Nat.reduceLeDiff, Nat.reduceLT, ne_eq, reduceCtorEq, Int.reduceBEq, Int.reduceBNe, Int.reduceAdd, Int.reduceSub, Int.reduceMul, Int.reduceNeg, Nat.reduceBNe, Int.reduceToNat, Nat.reduceSub, Int.reduceLE, Int.reduceLT, En.slLe, En.hpLe, En.chE, En.allLt, rqI, rqH, gHu, gHp, outC, hsn, List.flatMap_append, List.length_append, List.flatMap_cons, List.flatMap_nil, List.append_nil, List.length_cons, List.length_nil, rpgg, Int.natCast_add, Int.cast_ofNat_Int, Nat.zero_add, hX])), by simp only; omega⟩⟩⟩
        · have d1 : decide ((i : Int) < (l.length : Int)) = false := decide_eq_false (by omega)
          obtain rfl : i = l.length := by omega
          refine hW _ _ _ (SLe.trans (sle_dp (s := rqI l A c wi B d nm bn on cn ba oa ca l.length E e) 1002 1003 (xs := repL l nm wi) rfl (by rw [List.take_length]) (by rw [List.take_length]) (by decide) rfl (by exact (by decide : (1002 : Nat) < 30000)) (by exact (by decide : (1003 : Nat) < 30000))) (s' := _) (s'' := rqJ l A c wi B d nm bn on cn ba oa ca E e) (sle_all [1003, 1002, 1000, 1001, 4, 5, 0, 1, 2, 3] (by decide) (by simp only [En.E, En.evsC, List.map_cons, List.map_nil, Nat.reduceBEq, Nat.reduceAdd, Nat.reduceMul, Nat.reduceEqDiff, Nat.reduceLeDiff, Nat.reduceLT, ne_eq, reduceCtorEq, Int.reduceBEq, Int.reduceBNe, Int.reduceAdd, Int.reduceSub, Int.reduceMul, Int.reduceNeg, Nat.reduceBNe, Int.reduceToNat, Nat.reduceSub, Int.reduceLE, Int.reduceLT, En.slLe, En.hpLe, En.chE, En.allLt, rqI, rqJ, rqH, gHu, gHp, outC, dpC, List.take_length, rpgg, Int.cast_ofNat_Int]))) ?_
          refine hR 4000 _ _ ?_
          by_cases hl4 : 400 < (repL l nm wi).length
          · rw [if_pos hl4] at hq
            have d2 : decide ((400 : Int) < ((repL l nm wi).length : Int)) = true := decide_eq_true (by omega)
            simp (maxSteps := 10000000) only [En.E, En.evsC, List.map_cons, List.map_nil, Nat.reduceBEq, Nat.reduceAdd, Nat.reduceMul, Nat.reduceEqDiff, Nat.reduceLeDiff, Nat.reduceLT, ne_eq, reduceCtorEq, Int.reduceBEq, Int.reduceBNe, Int.reduceAdd, Int.reduceSub, Int.reduceMul, Int.reduceNeg, Nat.reduceBNe, Int.reduceToNat, Nat.reduceSub, Int.reduceLE, Int.reduceLT, En.vV, hs, hv, hT, hG, hF, rqJ, rqH, gHu, gHp, d1, d2, List.take_length, Int.toNat_natCast]
            exact .inl ⟨by rw [hq]; decide, by rw [hq]⟩
          · rw [if_neg hl4] at hq
            have d2 : decide ((400 : Int) < ((repL l nm wi).length : Int)) = false := decide_eq_false (by omega)
            obtain ⟨hg, hw, h0⟩ := rep_good h1 h2 (nm := nm) (l := l) (wi := wi) (by omega)
            by_cases h5 : 24 < dpV (repL l nm wi) 0
            · rw [if_pos h5] at hq
              have d5 : decide ((24 : Int) < dpV (repL l nm wi) 0) = true := decide_eq_true (by omega)
              simp (maxSteps := 10000000) only [En.E, En.evsC, List.map_cons, List.map_nil, Nat.reduceBEq, Nat.reduceAdd, Nat.reduceMul, Nat.reduceEqDiff, Nat.reduceLeDiff, Nat.reduceLT, ne_eq, reduceCtorEq, Int.reduceBEq, Int.reduceBNe, Int.reduceAdd, Int.reduceSub, Int.reduceMul, Int.reduceNeg, Nat.reduceBNe, Int.reduceToNat, Nat.reduceSub, Int.reduceLE, Int.reduceLT, En.vV, hs, hv, hT, hG, hF, rqJ, rqH, gHu, gHp, d1, d2, d5, List.take_length, Int.toNat_natCast, spGrow_q, NdR_q, chL_q, hg, grV, grUps, dV_0]
              exact fun M b => ⟨by omega, by omega, .inl ⟨by rw [hq]; decide, by rw [hq]⟩⟩
            · rw [if_neg h5] at hq
              have d5 : decide ((24 : Int) < dpV (repL l nm wi) 0) = false := decide_eq_false (by omega)
              simp (maxSteps := 10000000) only [En.E, En.evsC, List.map_cons, List.map_nil, Nat.reduceBEq, Nat.reduceAdd, Nat.reduceMul, Nat.reduceEqDiff, Nat.reduceLeDiff, Nat.reduceLT, ne_eq, reduceCtorEq, Int.reduceBEq, Int.reduceBNe, Int.reduceAdd, Int.reduceSub, Int.reduceMul, Int.reduceNeg, Nat.reduceBNe, Int.reduceToNat, Nat.reduceSub, Int.reduceLE, Int.reduceLT, En.vV, hs, hv, hT, hG, hF, rqJ, rqH, gHu, gHp, d1, d2, d5, List.take_length, Int.toNat_natCast, spGrow_q, NdR_q, chL_q, hg, grV, grUps, dV_0]
              exact fun M b => ⟨by omega, by omega, .inr ⟨hq, 1003, 1002, E, e, rfl, rfl⟩⟩
      | false =>
        rw [hm, if_pos rfl] at hq
        simp (maxSteps := 10000000) only [En.E, En.evsC, List.map_cons, List.map_nil, Nat.reduceBEq, Nat.reduceAdd, Nat.reduceMul, Nat.reduceEqDiff, Nat.reduceLeDiff, Nat.reduceLT, ne_eq, reduceCtorEq, Int.reduceBEq, Int.reduceBNe, Int.reduceAdd, Int.reduceSub, Int.reduceMul, Int.reduceNeg, Nat.reduceBNe, Int.reduceToNat, Nat.reduceSub, Int.reduceLE, Int.reduceLT, En.vV, hs, hv, hT, hG, hF, rqH, gHu, gHp, spExC_q, ckR, NdR_q, chL_q, globR_q, globU_q, hlen, hz, hlen2, hz2, h4, h3, h1, h2, b00, b07, u1, u2, spName15_q, hnm, hm]
        exact fun b => .inl ⟨by rw [hq]; decide, by rw [hq]⟩
    · rw [if_pos h2] at hq
      have d2 : ((chkV wi).2 == 0) = false := by simpa using h2
      have d3 : ((chkV wi).2 != 0) = true := by simpa using h2
      simp (maxSteps := 10000000) only [En.E, En.evsC, List.map_cons, List.map_nil, Nat.reduceBEq, Nat.reduceAdd, Nat.reduceMul, Nat.reduceEqDiff, Nat.reduceLeDiff, Nat.reduceLT, ne_eq, reduceCtorEq, Int.reduceBEq, Int.reduceBNe, Int.reduceAdd, Int.reduceSub, Int.reduceMul, Int.reduceNeg, Nat.reduceBNe, Int.reduceToNat, Nat.reduceSub, Int.reduceLE, Int.reduceLT, En.vV, hs, hv, hT, hG, hF, rqH, gHu, gHp, spExC_q, ckR, NdR_q, chL_q, globR_q, globU_q, hlen, hz, hlen2, hz2, h4, h3, h1, d2, d3, b00, b07, u1, u2]
      exact fun b => .inl ⟨by rw [hq]; exact h2, by rw [hq]⟩
  · rw [if_pos h1] at hq
    have d2 : ((chkV l).2 == 0) = false := by simpa using h1
    have d3 : ((chkV l).2 != 0) = true := by simpa using h1
    simp (maxSteps := 10000000) only [En.E, En.evsC, List.map_cons, List.map_nil, Nat.reduceBEq, Nat.reduceAdd, Nat.reduceMul, Nat.reduceEqDiff, Nat.reduceLeDiff, Nat.reduceLT, ne_eq, reduceCtorEq, Int.reduceBEq, Int.reduceBNe, Int.reduceAdd, Int.reduceSub, Int.reduceMul, Int.reduceNeg, Nat.reduceBNe, Int.reduceToNat, Nat.reduceSub, Int.reduceLE, Int.reduceLT, En.vV, hs, hv, hT, hG, hF, rqH, gHu, gHp, spExC_q, ckR, NdR_q, chL_q, globR_q, globU_q, hlen, hz, hlen2, hz2, h4, h3, d2, d3, b00, b07, u1, u2]
    exact fun b => .inl ⟨by rw [hq]; exact h1, by rw [hq]⟩
def rqC (A : Option Addr) (n c k : Nat) (B : Option Addr) (m d k2 : Nat) (nm : ByteArray) (H : Nat → Ch) : Prop := ckR A n c k H ∧ NdR B m d (H k2) ∧ m ≤ 100000 ∧ zsN (chL m (H k2)) ∧ nm.size ≤ 4611686018427387904
end Pr
end Go.Proofs.YtpkldfkmokeamaaGreatDoor
/-
Chapter 15: the walk of ExprReplaces.
-/
set_option linter.unusedSimpArgs false
set_option linter.unusedVariables false
namespace Go.Proofs.YtpkldfkmokeamaaGreatDoor
namespace Pr
open Go Go.RowKit En
open Ex Rf
end Pr
end Go.Proofs.YtpkldfkmokeamaaGreatDoor
