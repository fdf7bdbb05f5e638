/-
prims.Find (chapter 12).
-/
import Derived.Test.YtaelfhjdmljblaaGreatDoorPa3
set_option linter.unusedSimpArgs false
set_option linter.unusedVariables false
namespace Go.Proofs.YtaelfhjdmljblaaGreatDoor
namespace Pr
open Go Go.RowKit En
/-- the place of a name in a list -/
def findN : List ByteArray → Int → ByteArray → Int × Int
  | [], _, _ => (0, 4)
  | x :: l, i, s => bif x.toList == s.toList then (i, 0) else findN l (i + 1) s
theorem findN_yes {x s : ByteArray} {l : List ByteArray} {i : Int} (h : (x.toList == s.toList) = true) : findN (x :: l) i s = (i, 0) := by
  show (bif x.toList == s.toList then _ else _) = _
  rw [h]; rfl
theorem findN_no {x s : ByteArray} {l : List ByteArray} {i : Int} (h : (x.toList == s.toList) = false) : findN (x :: l) i s = findN l (i + 1) s := by
  show (bif x.toList == s.toList then _ else _) = _
  rw [h]; rfl
theorem ifB_intro {R : List It → SS → Prop} {c c3 : Code} {k : List It} {s : SS} {p : Bool} (h1 : p = true → R (.code c :: k) s) (h2 : p = false → R (.code c3 :: k) s) : ifB R c c3 k s p := ⟨h1, h2⟩
def findS (s : ByteArray) : Int × Int := findN (pNames.drop 1) 1 s
set_option maxRecDepth 100000 in
set_option maxHeartbeats 8000000 in
theorem Find_any (s : ByteArray) (bn on cn ba oa ca : Nat) (h4 : 4 ≤ cn) (h3 : 3 ≤ ca) (w : World) (hg : allRd w.heap.size w (gHp bn on cn ba oa ca)) :
    Calls Tryz.prog 22 #[.string s] w fun e w' => e = .returned (.tuple #[.int .i64 (findS s).1, .int .i64 (findS s).2]) ∧ Below w.heap.size w w' := by
  obtain ⟨r, hr⟩ : ∃ r, r = findS s := ⟨_, rfl⟩
  rw [← hr]
  replace hr : r = findN (pNames.drop 1) 1 s := hr
  refine calls_run (args := [.v (.string s)]) (hp := gHp bn on cn ba oa ca) (nx := 1000) (n := 4000) (U := [(2, 42), (1000000, 9)]) (V := []) (T := lookT tiT) (G := gamFind) (post := fun s ys => ys = [.v (.int .i64 r.1), .v (.int .i64 r.2)])
    followP tiT_ok gamFind_ok Tryz.func22 rfl (by kernel_rfl) (by show 1 ≤ 23; decide) (hh_list hg) (free_list (by simp [allLt, gHp])) ?_ ?_
  · rintro s ys w' rfl H
    exact ⟨rfl, H.below⟩
  rw [Tryz.results22]
  repeat (
    simp (maxSteps := 1000000) only [En.evs0, En.evs1, En.evs2, En.evs3, En.evs4, En.evs5, En.evs6, En.evs7, En.evs8, En.evs9, En.evs10, En.evs11, List.toList_toArray, cond_true, cond_false, Nat.reduceBEq, Nat.reduceAdd, Nat.reduceMul, Nat.reduceEqDiff, Nat.reduceLeDiff, Nat.reduceLT, Bool.true_and, Bool.and_true, Bool.false_and, Bool.and_false, true_and, and_true, and_self, ne_eq, not_false_eq_true, reduceCtorEq, Bool.not_true, Bool.not_false, true_implies, not_true_eq_false, false_or, or_false, true_or, or_true, List.nil_append, List.cons_append, List.append_nil, List.map_cons, List.map_nil, Nat.le_refl, eq_self, forall_const, decide_true, decide_false, beq_self_eq_true, bne_self_eq_false, beq_true, beq_false, imp_self, Bool.true_beq, Bool.false_beq, Bool.bne_true, Bool.bne_false, Bool.true_bne, Bool.false_bne, Int.cast_ofNat_Int, Int.natCast_zero, Int.natCast_one, Int.reduceBEq, Int.reduceBNe, Int.reduceAdd, Int.reduceSub, Int.reduceMul, Int.reduceTDiv, Int.reduceTMod, Int.reduceNeg, Nat.add_sub_cancel_left, Nat.sub_self, Nat.le_add_right, List.append_eq, List.getD_cons_zero, List.getD_cons_succ, implies_true, false_implies, Bool.not_not, Bool.or_true, Bool.true_or, Bool.or_false, Bool.false_or, En.bitN, Nat.testBit, Nat.reduceShiftRight, Nat.reduceShiftLeft, Nat.reduceAnd, Nat.reduceOr, Nat.reduceBNe, Nat.zero_or, Nat.or_zero, Nat.sub_zero, Int.reduceToNat, Nat.reduceSub, Nat.zero_add, Nat.add_zero, List.length_cons, List.length_nil, Nat.zero_mul, Nat.reduceLeDiff, Int.reduceLE, Int.reduceLT, List.cons_ne_nil, tiT, tiP, gamFind, spTable_q, globR_q, gHp, oneAt_one, twoAt_one, h4, h3, tblUps_q, tblCells_q, En.inr, En.lo, En.hi]
    first
    | with_reducible refine stR_new (by simp) fun b => ?_
    | with_reducible refine stR_many (by simp) fun M => ?_
    | (with_reducible refine ifB_intro (fun h => ?_) (fun h => ?_)
       · simp (maxSteps := 1000000) only [En.evs0, En.evs1, En.evs2, En.evs3, En.evs4, En.evs5, En.evs6, En.evs7, En.evs8, En.evs9, En.evs10, En.evs11, List.toList_toArray, cond_true, cond_false, Nat.reduceBEq, Nat.reduceAdd, Nat.reduceMul, Nat.reduceEqDiff, Nat.reduceLeDiff, Nat.reduceLT, Bool.true_and, Bool.and_true, Bool.false_and, Bool.and_false, true_and, and_true, and_self, ne_eq, not_false_eq_true, reduceCtorEq, Bool.not_true, Bool.not_false, true_implies, not_true_eq_false, false_or, or_false, true_or, or_true, List.nil_append, List.cons_append, List.append_nil, List.map_cons, List.map_nil, Nat.le_refl, eq_self, forall_const, decide_true, decide_false, beq_self_eq_true, bne_self_eq_false, beq_true, beq_false, imp_self, Bool.true_beq, Bool.false_beq, Bool.bne_true, Bool.bne_false, Bool.true_bne, Bool.false_bne, Int.cast_ofNat_Int, Int.natCast_zero, Int.natCast_one, Int.reduceBEq, Int.reduceBNe, Int.reduceAdd, Int.reduceSub, Int.reduceMul, Int.reduceTDiv, Int.reduceTMod, Int.reduceNeg, Nat.add_sub_cancel_left, Nat.sub_self, Nat.le_add_right, List.append_eq, List.getD_cons_zero, List.getD_cons_succ, implies_true, false_implies, Bool.not_not, Bool.or_true, Bool.true_or, Bool.or_false, Bool.false_or, En.bitN, Nat.testBit, Nat.reduceShiftRight, Nat.reduceShiftLeft, Nat.reduceAnd, Nat.reduceOr, Nat.reduceBNe, Nat.zero_or, Nat.or_zero, Nat.sub_zero, Int.reduceToNat, Nat.reduceSub, Nat.zero_add, Nat.add_zero, List.length_cons, List.length_nil, Nat.zero_mul, Nat.reduceLeDiff, Int.reduceLE, Int.reduceLT, List.cons_ne_nil, tiT, tiP, gamFind, spTable_q, globR_q, gHp, oneAt_one, twoAt_one, h4, h3, tblUps_q, tblCells_q, En.inr, En.lo, En.hi]
         rw [hr.trans (findN_yes h)]; try rfl
       replace hr := hr.trans (findN_no h)
       clear h))
  simp (maxSteps := 1000000) only [En.evs0, En.evs1, En.evs2, En.evs3, En.evs4, En.evs5, En.evs6, En.evs7, En.evs8, En.evs9, En.evs10, En.evs11, List.toList_toArray, cond_true, cond_false, Nat.reduceBEq, Nat.reduceAdd, Nat.reduceMul, Nat.reduceEqDiff, Nat.reduceLeDiff, Nat.reduceLT, Bool.true_and, Bool.and_true, Bool.false_and, Bool.and_false, true_and, and_true, and_self, ne_eq, not_false_eq_true, reduceCtorEq, Bool.not_true, Bool.not_false, true_implies, not_true_eq_false, false_or, or_false, true_or, or_true, List.nil_append, List.cons_append, List.append_nil, List.map_cons, List.map_nil, Nat.le_refl, eq_self, forall_const, decide_true, decide_false, beq_self_eq_true, bne_self_eq_false, beq_true, beq_false, imp_self, Bool.true_beq, Bool.false_beq, Bool.bne_true, Bool.bne_false, Bool.true_bne, Bool.false_bne, Int.cast_ofNat_Int, Int.natCast_zero, Int.natCast_one, Int.reduceBEq, Int.reduceBNe, Int.reduceAdd, Int.reduceSub, Int.reduceMul, Int.reduceTDiv, Int.reduceTMod, Int.reduceNeg, Nat.add_sub_cancel_left, Nat.sub_self, Nat.le_add_right, List.append_eq, List.getD_cons_zero, List.getD_cons_succ, implies_true, false_implies, Bool.not_not, Bool.or_true, Bool.true_or, Bool.or_false, Bool.false_or, En.bitN, Nat.testBit, Nat.reduceShiftRight, Nat.reduceShiftLeft, Nat.reduceAnd, Nat.reduceOr, Nat.reduceBNe, Nat.zero_or, Nat.or_zero, Nat.sub_zero, Int.reduceToNat, Nat.reduceSub, Nat.zero_add, Nat.add_zero, List.length_cons, List.length_nil, Nat.zero_mul, Nat.reduceLeDiff, Int.reduceLE, Int.reduceLT, List.cons_ne_nil, tiT, tiP, gamFind, spTable_q, globR_q, gHp, oneAt_one, twoAt_one, h4, h3, tblUps_q, tblCells_q, En.inr, En.lo, En.hi]
  rw [hr]; try rfl
end Pr
end Go.Proofs.YtaelfhjdmljblaaGreatDoor
/-
The reference's names (chapter 12).
-/
set_option linter.unusedSimpArgs false
set_option linter.unusedVariables false
namespace Go.Proofs.YtaelfhjdmljblaaGreatDoor
namespace Pr
open Go Go.RowKit En
end Pr
end Go.Proofs.YtaelfhjdmljblaaGreatDoor
/-
The reference's Name, Arity (chapter 12).
-/
set_option linter.unusedSimpArgs false
set_option linter.unusedVariables false
namespace Go.Proofs.YtaelfhjdmljblaaGreatDoor
namespace Pr
open Go Go.RowKit En
theorem known_yes {p : Int} (h : known40 p = true) : decide (p < 1) = false ∧ decide (40 < p) = false ∧ 1 ≤ p ∧ p ≤ 40 := by
  unfold known40 at h
  simp at h
  exact ⟨by simp; omega, by simp; omega, h.1, h.2⟩
theorem nameAt_no {p : Int} (h : known40 p = false) : nameAt p = ⟨#[]⟩ := by
  unfold known40 at h
  simp at h
  unfold nameAt
  by_cases h1 : p < 1
  · rw [show p.toNat = 0 by omega]; rfl
  · have : 41 ≤ p.toNat := by have := h (by omega); omega
    rw [List.getD_eq_getElem?_getD, List.getElem?_eq_none (Nat.le_trans (by decide) this)]; rfl
theorem arE_val {p : Int} (h : known40 p = true) : arE p = if p ≤ 14 then 1 else 2 := by
  have key : ∀ i : Fin 41, i.val = 0 ∨ ((((pLines.getD i.val []).getD 0 ByteArray.empty).size : Int).tdiv 2 - 1 = if (i.val : Int) ≤ 14 then 1 else 2) := by decide +kernel
  obtain ⟨_, _, h1, h2⟩ := known_yes h
  have := key ⟨p.toNat, by omega⟩
  rcases this with h0 | h0
  · simp only at h0; omega
  · rw [show arE p = arityOf p from if_pos h]
    unfold arityOf linesAt
    rw [h0]
    simp only
    rw [Int.toNat_of_nonneg (by omega)]
end Pr
end Go.Proofs.YtaelfhjdmljblaaGreatDoor
/-
prims.Errors and the reference's; Same of two lists of errors (chapter 12).
-/
set_option linter.unusedSimpArgs false
set_option linter.unusedVariables false
namespace Go.Proofs.YtaelfhjdmljblaaGreatDoor
namespace Pr
open Go Go.RowKit En
def getNC (A : Option Addr) (n c : Nat) : Ch → Option (List Int)
  | .ints A' c' .i64 xs => if A = A' ∧ n = xs.length ∧ c = c' then some xs else none
  | .rowV A' c' _ 1 n' cs => if A = A' ∧ n = n' ∧ c = c' ∧ cs.length = n then intsOf cs else none
  | _ => none
theorem getN_q {H : Nat → Ch} {key : Nat} {A : Option Addr} {n c : Nat} : getN H (.g key A n c) = getNC A n c (H key) := by
  unfold getN getNC
  rfl
theorem getN_gp {H : Nat → Ch} {key b o n c : Nat} : getN H (.gp key b o n c) = if n ≤ c then (showC b o n (H key)).bind intsOf else none := (rfl)
theorem getNC_i {A A' : Option Addr} {n c c' : Nat} {xs : List Int} : getNC A n c (.ints A' c' .i64 xs) = if A = A' ∧ n = xs.length ∧ c = c' then some xs else none := (rfl)
theorem intsOf_mapv (xs : List Int) : intsOf (xs.map fun x => .v (.int .i64 x)) = some xs := by
  induction xs with
  | nil => rfl
  | cons x l ih => simp only [List.map_cons, intsOf, ih]; rfl
theorem allOne_mapv (k : IntKind) (xs : List Int) : allOne (xs.map fun x => .v (.int k x)) = true := by
  induction xs with
  | nil => rfl
  | cons x l ih => simp only [List.map_cons, allOne, ih]; rfl
theorem clone_any (A : Option Addr) (c : Nat) (xs : List Int) (hl : xs.length ≤ 1000) (w : World) (h : Hold w.heap.size w (.ints A c .i64 xs)) :
    Calls Tryz.prog 45 #[.slice A xs.length c] w fun e w' => ∃ (s : SS) (x : SV), e = .returned (den x) ∧ getN (lookH s.hp) x = some xs ∧ ownS (lookH s.hp) x = true ∧ HH w (oldOf [(1000, .ints A c .i64 xs)]) s.hp w' := by
  refine calls_run (args := [.g 1000 A xs.length c]) (hp := [(1000, .ints A c .i64 xs)]) (nx := 1001) (n := 400) (U := []) (V := []) (T := lookT tiT) (G := gnil) (post := fun s ys => ∃ x, ys = [x] ∧ getN (lookH s.hp) x = some xs ∧ ownS (lookH s.hp) x = true)
    followP tiT_ok gOk_nil Tryz.func45 rfl (by kernel_rfl) (by show 1 ≤ 8; decide) (hh_list ⟨⟨h, rfl⟩, trivial⟩) (free_list (by simp [allLt])) ?_ ?_
  · rintro s ys w' ⟨x, rfl, h1, h2⟩ H
    exact ⟨s, x, rfl, h1, h2, H⟩
  rw [Tryz.results45]
  cases A with
  | none =>
    have : xs = [] := by
      apply Classical.byContradiction
      intro hne
      obtain ⟨b, o, e, _⟩ := h.2 (by simpa using hne)
      cases e
    subst this
    simp (maxSteps := 1000000) only [En.evs0, En.evs1, En.evs2, En.evs3, En.evs4, En.evs5, En.evs6, En.evs7, En.evs8, En.evs9, En.evs10, En.evs11, En.evx0, List.toList_toArray, cond_true, cond_false, Nat.reduceBEq, Nat.reduceAdd, Nat.reduceMul, Nat.reduceEqDiff, Nat.reduceLeDiff, Nat.reduceLT, Bool.true_and, Bool.and_true, Bool.false_and, Bool.and_false, true_and, and_true, and_self, ne_eq, not_false_eq_true, reduceCtorEq, Bool.not_true, Bool.not_false, true_implies, not_true_eq_false, false_or, or_false, true_or, or_true, List.nil_append, List.cons_append, List.append_nil, List.map_cons, List.map_nil, Nat.le_refl, eq_self, forall_const, decide_true, decide_false, beq_self_eq_true, bne_self_eq_false, beq_true, beq_false, imp_self, Bool.true_beq, Bool.false_beq, Bool.bne_true, Bool.bne_false, Bool.true_bne, Bool.false_bne, Int.cast_ofNat_Int, Int.natCast_zero, Int.natCast_one, Int.reduceBEq, Int.reduceBNe, Int.reduceAdd, Int.reduceSub, Int.reduceMul, Int.reduceTDiv, Int.reduceTMod, Int.reduceNeg, Nat.add_sub_cancel_left, Nat.sub_self, Nat.le_add_right, List.append_eq, List.getD_cons_zero, List.getD_cons_succ, implies_true, false_implies, Bool.not_not, Bool.or_true, Bool.true_or, Bool.or_false, Bool.false_or, En.bitN, Nat.testBit, Nat.reduceShiftRight, Nat.reduceShiftLeft, Nat.reduceAnd, Nat.reduceOr, Nat.reduceBNe, Nat.zero_or, Nat.or_zero, Nat.sub_zero, Int.reduceToNat, Nat.reduceSub, Nat.zero_add, Nat.add_zero, List.length_cons, List.length_nil, Nat.zero_mul, Nat.reduceLeDiff, Int.reduceLE, Int.reduceLT, List.cons_ne_nil, tiT, tiP]
    exact ⟨_, rfl, rfl, rfl⟩
  | some a =>
    simp (maxSteps := 1000000) only [En.evs0, En.evs1, En.evs2, En.evs3, En.evs4, En.evs5, En.evs6, En.evs7, En.evs8, En.evs9, En.evs10, En.evs11, En.evx0, List.toList_toArray, cond_true, cond_false, Nat.reduceBEq, Nat.reduceAdd, Nat.reduceMul, Nat.reduceEqDiff, Nat.reduceLeDiff, Nat.reduceLT, Bool.true_and, Bool.and_true, Bool.false_and, Bool.and_false, true_and, and_true, and_self, ne_eq, not_false_eq_true, reduceCtorEq, Bool.not_true, Bool.not_false, true_implies, not_true_eq_false, false_or, or_false, true_or, or_true, List.nil_append, List.cons_append, List.append_nil, List.map_cons, List.map_nil, Nat.le_refl, eq_self, forall_const, decide_true, decide_false, beq_self_eq_true, bne_self_eq_false, beq_true, beq_false, imp_self, Bool.true_beq, Bool.false_beq, Bool.bne_true, Bool.bne_false, Bool.true_bne, Bool.false_bne, Int.cast_ofNat_Int, Int.natCast_zero, Int.natCast_one, Int.reduceBEq, Int.reduceBNe, Int.reduceAdd, Int.reduceSub, Int.reduceMul, Int.reduceTDiv, Int.reduceTMod, Int.reduceNeg, Nat.add_sub_cancel_left, Nat.sub_self, Nat.le_add_right, List.append_eq, List.getD_cons_zero, List.getD_cons_succ, implies_true, false_implies, Bool.not_not, Bool.or_true, Bool.true_or, Bool.or_false, Bool.false_or, En.bitN, Nat.testBit, Nat.reduceShiftRight, Nat.reduceShiftLeft, Nat.reduceAnd, Nat.reduceOr, Nat.reduceBNe, Nat.zero_or, Nat.or_zero, Nat.sub_zero, Int.reduceToNat, Nat.reduceSub, Nat.zero_add, Nat.add_zero, List.length_cons, List.length_nil, Nat.zero_mul, Nat.reduceLeDiff, Int.reduceLE, Int.reduceLT, List.cons_ne_nil, tiT, tiP]
    refine fun b => ⟨?_, fun B d => ⟨_, rfl, ?_, rfl⟩⟩
    · simp [allOne_mapv, lenS_eq]; omega
    · show getN _ _ = _
      rw [getN_q]
      simp [lookH, getNC, intsOf_mapv]
def cloneR (nx : Nat) : Option (List Int) → Res
  | some xs => .val (xs.length ≤ 1000) fun A c => (.g nx A xs.length c, [(nx, .ints A c .i64 xs)])
  | none => .bad
def spClone : Spc
  | [x], H, nx => cloneR nx (getN H x)
  | _, _, _ => .bad
theorem spClone_q {x : SV} {H : Nat → Ch} {nx : Nat} : spClone [x] H nx = cloneR nx (getN H x) := (rfl)
theorem cloneR_q {nx : Nat} {xs : List Int} : cloneR nx (some xs) = .val (xs.length ≤ 1000) fun A c => (.g nx A xs.length c, [(nx, .ints A c .i64 xs)]) := (rfl)
/-- a slice of numbers of the call's own lies in new memory -/
theorem own_src {O : Nat → Prop} {w0 w : World} {hp : Hp} {x : SV} {A : Option Addr} {n c b : Nat} (H : HH w0 O hp w) (ho : ownS (lookH hp) x = true) (e : den x = .slice A n c) (hf : foot (lookH hp (keyS x)) b) (hb : ∃ a, A = some a ∧ a.block = b) : w0.heap.size ≤ b := by
  rcases own_mut ho with hm | e'
  · exact (H.hold _).ge hm b hf
  · subst e'
    obtain ⟨a, ha, _⟩ := hb
    have : A = none := by
      have e1 : Value.slice none 0 0 = .slice A n c := e
      injection e1 with q1; exact q1.symm
    rw [this] at ha; cases ha
theorem spClone_ok : SpecOk Tryz.prog 45 spClone := by
  intro args hp nx w0 O w H hv
  match args, hv with
  | [x], hv =>
    rw [spClone_q] at hv ⊢
    cases hx : getN (lookH hp) x with
    | none => rw [hx] at hv; exact hv.elim
    | some xs =>
      rw [hx] at hv
      have hv : xs.length ≤ 1000 := hv
      obtain ⟨A, c, e1, s1, f1⟩ := getN_ok H hx
      have hh := clone_any A c xs hv w (by exact s1)
      rw [show dens [x] = [Value.slice A xs.length c] by simp [dens, e1]]
      refine hh.mono ?_
      rintro e w' ⟨s, y, rfl, h1, h2, HS⟩
      obtain ⟨B, d, e2, s2, f2⟩ := getN_ok HS h1
      refine ⟨⟨0, B, d, none, 0, mz⟩, by rw [e2]; rfl, Stp.one (c := .ints B d .i64 xs) HS.below s2 fun b hb => .inl ?_⟩
      exact own_src HS h2 e2 (f2 hb.1 b hb.2) hb.2
def gamErrors : Gam := gcons 31 spFind (gcons 45 spClone gnil)
theorem gamErrors_ok : GOk Tryz.prog gamErrors := gOk_cons (by kernel_rfl) spFind_ok <| gOk_cons (by kernel_rfl) spClone_ok gOk_nil
theorem errs_len {p : Int} : (errsAt p).length ≤ 3 := getD_all (P := fun x => List.length x ≤ 3) (l := pErrs) (by decide) (by decide) _
def ErrsPost (p : Int) (s : SS) (ys : List SV) : Prop := ∃ x, ys = [x, .v (.int .i64 (findE p))] ∧ getN (lookH s.hp) x = some (errsAt p)
theorem Errors_any (p : Int) (bn on cn ba oa ca : Nat) (h4 : 4 ≤ cn) (h3 : 3 ≤ ca) (w : World) (hg : allRd w.heap.size w (gHp bn on cn ba oa ca)) :
    Calls Tryz.prog 19 #[.int .i64 p] w fun e w' => ∃ s ys, e = .returned (oneV ys) ∧ ErrsPost p s ys ∧ HH w (oldOf (gHp bn on cn ba oa ca)) s.hp w' := by
  refine calls_run (args := [.v (.int .i64 p)]) (hp := gHp bn on cn ba oa ca) (nx := 1000) (n := 400) (U := [(1000000, 6)]) (V := []) (T := lookT tiT) (G := gamErrors) (post := ErrsPost p)
    followP tiT_ok gamErrors_ok Tryz.func19 rfl (by kernel_rfl) (by show 1 ≤ 15; decide) (hh_list hg) (free_list (by simp [allLt, gHp])) ?_ ?_
  · exact fun s xs w' hp H => ⟨s, xs, rfl, hp, H⟩
  rw [Tryz.results19]
  have hl : (errsAt p).length ≤ 1000 := Nat.le_trans errs_len (by decide)
  simp (maxSteps := 1000000) only [En.evs0, En.evs1, En.evs2, En.evs3, En.evs4, En.evs5, En.evs6, En.evs7, En.evs8, En.evs9, En.evs10, En.evs11, En.evx0, List.toList_toArray, cond_true, cond_false, Nat.reduceBEq, Nat.reduceAdd, Nat.reduceMul, Nat.reduceEqDiff, Nat.reduceLeDiff, Nat.reduceLT, Bool.true_and, Bool.and_true, Bool.false_and, Bool.and_false, true_and, and_true, and_self, ne_eq, not_false_eq_true, reduceCtorEq, Bool.not_true, Bool.not_false, true_implies, not_true_eq_false, false_or, or_false, true_or, or_true, List.nil_append, List.cons_append, List.append_nil, List.map_cons, List.map_nil, Nat.le_refl, eq_self, forall_const, decide_true, decide_false, beq_self_eq_true, bne_self_eq_false, beq_true, beq_false, imp_self, Bool.true_beq, Bool.false_beq, Bool.bne_true, Bool.bne_false, Bool.true_bne, Bool.false_bne, Int.cast_ofNat_Int, Int.natCast_zero, Int.natCast_one, Int.reduceBEq, Int.reduceBNe, Int.reduceAdd, Int.reduceSub, Int.reduceMul, Int.reduceTDiv, Int.reduceTMod, Int.reduceNeg, Nat.add_sub_cancel_left, Nat.sub_self, Nat.le_add_right, List.append_eq, List.getD_cons_zero, List.getD_cons_succ, implies_true, false_implies, Bool.not_not, Bool.or_true, Bool.true_or, Bool.or_false, Bool.false_or, En.bitN, Nat.testBit, Nat.reduceShiftRight, Nat.reduceShiftLeft, Nat.reduceAnd, Nat.reduceOr, Nat.reduceBNe, Nat.zero_or, Nat.or_zero, Nat.sub_zero, Int.reduceToNat, Nat.reduceSub, Nat.zero_add, Nat.add_zero, List.length_cons, List.length_nil, Nat.zero_mul, Nat.reduceLeDiff, Int.reduceLE, Int.reduceLT, List.cons_ne_nil, tiT, tiP, gamErrors, spFind_q, spClone_q, getN_q, getNC_i, cloneR_q, globR_q, gHp, oneAt_one, twoAt_one, h4, h3, if_true, and_self, hl]
  intros
  refine ⟨_, rfl, ?_⟩
  simp [getN, lookH]
def spErrors : Spc
  | [.v (.int .i64 p)], H, nx => .val (globR (H 0) (H 1) (H 2) (H 3)) fun A c => (.tup [.g nx A (errsAt p).length c, .v (.int .i64 (findE p))], [(nx, .ints A c .i64 (errsAt p))])
  | _, _, _ => .bad
theorem spErrors_q {p : Int} {H : Nat → Ch} {nx : Nat} : spErrors [.v (.int .i64 p)] H nx = .val (globR (H 0) (H 1) (H 2) (H 3)) fun A c => (.tup [.g nx A (errsAt p).length c, .v (.int .i64 (findE p))], [(nx, .ints A c .i64 (errsAt p))]) := (rfl)
theorem spErrors_ok : SpecOk Tryz.prog 19 spErrors := by
  intro args hp nx w0 O w H hv
  unfold spErrors at hv ⊢
  split at hv
  · next nx x0 x1 x2 p =>
    obtain ⟨bn, on, cn, ba, oa, ca, hr, h4, h3, hk⟩ := globR_ok H hv
    refine (Errors_any p bn on cn ba oa ca h4 h3 w hr).mono ?_
    rintro e w' ⟨s, ys, rfl, ⟨x, rfl, hx⟩, HS⟩
    obtain ⟨A, c, e1, s1, f1⟩ := getN_ok HS hx
    refine ⟨⟨0, A, c, none, 0, mz⟩, by simp [oneV, Res.out, den, dens, e1], Stp.one (c := .ints A c .i64 (errsAt p)) HS.below s1 fun b hb => ?_⟩
    rcases old_src hk (HS.old _ b (f1 hb.1 b hb.2)) with h | ⟨j, h⟩
    · exact .inl h
    · exact .inr ⟨rfl, j, h⟩
  · exact hv.elim
end Pr
end Go.Proofs.YtaelfhjdmljblaaGreatDoor
