/-
prims.Fits (chapter 12).
-/
import Derived.Test.YtnpkmimbnjnicaaGreatDoorPa3
import Derived.Test.YtnpkmimbnjnicaaGreatDoorPa1
import Derived.Test.YtnpkmimbnjnicaaGreatDoorPa5
set_option linter.unusedSimpArgs false
set_option linter.unusedVariables false
namespace Go.Proofs.YtnpkmimbnjnicaaGreatDoor
namespace Pr
open Go Go.RowKit En
def matchR (l : ByteArray) : Option (List Int) → Option (List Int) → Res
  | some ks, some rs => .is (l ∈ allLines ∧ ks.length = arl l ∧ rs.length = arl l) (.tup [.v (.int .i64 (matchM l ks rs).kind), .v (.int .i64 (matchM l ks rs).rank), .v (.bool (matchM l ks rs).fst), .v (.bool (matchM l ks rs).snd)])
  | _, _ => .bad
def spMatch : Spc
  | [.v (.string l), K, R], H, _ => matchR l (getN H K) (getN H R)
  | _, _, _ => .bad
theorem spMatch_q {l : ByteArray} {K R : SV} {H : Nat → Ch} {nx : Nat} : spMatch [.v (.string l), K, R] H nx = matchR l (getN H K) (getN H R) := (rfl)
theorem matchR_q {l : ByteArray} {ks rs : List Int} : matchR l (some ks) (some rs) = .is (l ∈ allLines ∧ ks.length = arl l ∧ rs.length = arl l) (.tup [.v (.int .i64 (matchM l ks rs).kind), .v (.int .i64 (matchM l ks rs).rank), .v (.bool (matchM l ks rs).fst), .v (.bool (matchM l ks rs).snd)]) := (rfl)
theorem spMatch_ok : SpecOk Tryz.prog 63 spMatch := by
  intro args hp nx w0 O w H hv
  unfold spMatch at hv ⊢
  split at hv
  · next l K R =>
    cases hK : getN (lookH hp) K with
    | none => rw [hK] at hv; exact hv.elim
    | some ks =>
      cases hR : getN (lookH hp) R with
      | none => rw [hK, hR] at hv; exact hv.elim
      | some rs =>
        rw [hK, hR] at hv
        obtain ⟨h1, h2, h3⟩ := hv
        obtain ⟨A, c, e1, s1, _⟩ := getN_ok H hK
        obtain ⟨B, d, e2, s2, _⟩ := getN_ok H hR
        rw [show dens [.v (.string l), K, R] = [Value.string l, .slice A ks.length c, .slice B rs.length d] by simp [dens, den, e1, e2]]
        refine (match_any l h1 ks rs h2 h3 A B c d w s1 s2).mono ?_
        rintro e w' ⟨rfl, hb⟩
        exact ⟨⟨0, none, 0, none, 0, mz⟩, rfl, .still hb⟩
  · exact hv.elim
def fitsF (ks rs : List Int) : List ByteArray → Int → Int × Int × Int
  | [], e => (0, 0, e)
  | l :: ls, e => bif (bif (matchM l ks rs).fst then (matchM l ks rs).snd else false) then ((matchM l ks rs).kind, (matchM l ks rs).rank, 0) else fitsF ks rs ls (bif (matchM l ks rs).fst then 22 else e)
def fitsV (p : Int) (ks rs : List Int) : Int × Int × Int :=
  if known40 p = true then (if (ks.length : Int) = arityOf p ∧ (rs.length : Int) = arityOf p then fitsF ks rs (linesAt p) 21 else (0, 0, 23)) else (0, 0, 2)
theorem mem_of_data {l : ByteArray} {L : List ByteArray} (h : (L.map fun x => x.data.toList).contains l.data.toList = true) : l ∈ L := by
  obtain ⟨x, hx, e⟩ := List.mem_map.1 (List.contains_iff_mem.1 h)
  have : x = l := by
    cases x; cases l
    simp only [ByteArray.mk.injEq]
    exact Array.ext' e
  exact this ▸ hx
theorem lines_all {p : Int} (h : known40 p = true) : (∀ l ∈ linesAt p, l ∈ allLines ∧ (arl l : Int) = arityOf p) ∧ 1 ≤ (linesAt p).length ∧ (linesAt p).length ≤ 3 := by
  have key : ∀ i : Fin 41, i.val = 0 ∨ (((pLines.getD i.val []).all (fun l => (allLines.map fun x => x.data.toList).contains l.data.toList && decide ((arl l : Int) = (((pLines.getD i.val []).getD 0 ByteArray.empty).size : Int).tdiv 2 - 1)) = true) ∧ 1 ≤ (pLines.getD i.val []).length ∧ (pLines.getD i.val []).length ≤ 3) := by decide +kernel
  unfold known40 at h
  simp at h
  rcases key ⟨p.toNat, by omega⟩ with h0 | ⟨h0, h1, h2⟩
  · simp only at h0; omega
  · refine ⟨fun l hl => ?_, h1, h2⟩
    have := List.all_eq_true.1 h0 l hl
    rw [Bool.and_eq_true] at this
    exact ⟨mem_of_data this.1, of_decide_eq_true this.2⟩
theorem ifB_fst {R : List It → SS → Prop} {c c3 : Code} {k : List It} {s : SS} {m : MS} : ifB R c c3 k s m.fst = ((m.fst = true → R (.code c :: k) s) ∧ (m.fst = false → R (.code c3 :: k) s)) := (rfl)
def gamFits : Gam := gcons 61 spFind (gcons 62 spArity (gcons 63 spMatch gnil))
theorem gamFits_ok : GOk Tryz.prog gamFits := gOk_cons (by kernel_rfl) spFind_ok <| gOk_cons (by kernel_rfl) spArity_ok <| gOk_cons (by kernel_rfl) spMatch_ok gOk_nil
theorem tiFits_ok : TyAll Tryz.prog (lookT ((62, ⟨true, false, 1, [.v (.slice none 0 0)], [], 3, 0, 8, 1, 1⟩) :: tiT)) := tyAll_cons (.mk' (by kernel_rfl) (by kernel_rfl) (by decide) (by decide) (by kernel_rfl) (by kernel_rfl)) tiT_ok
abbrev tiFits : List (TypeId × TI) := (62, ⟨true, false, 1, [.v (.slice none 0 0)], [], 3, 0, 8, 1, 1⟩) :: tiT
def fitsHp (A B : Option Addr) (c d : Nat) (ks rs : List Int) (bn on cn ba oa ca : Nat) : Hp := (1000, .ints A c .i64 ks) :: (1001, .ints B d .i64 rs) :: gHp bn on cn ba oa ca
set_option maxRecDepth 100000 in
set_option maxHeartbeats 4000000 in
theorem Fits_any (p : Int) (ks rs : List Int) (A B : Option Addr) (c d : Nat) (bn on cn ba oa ca : Nat) (h4 : 4 ≤ cn) (h3 : 3 ≤ ca) (w : World) (hg : allRd w.heap.size w (fitsHp A B c d ks rs bn on cn ba oa ca)) :
    Calls Tryz.prog 36 #[.int .i64 p, .slice A ks.length c, .slice B rs.length d] w fun e w' => e = .returned (.tuple #[.int .i64 (fitsV p ks rs).1, .int .i64 (fitsV p ks rs).2.1, .int .i64 (fitsV p ks rs).2.2]) ∧ Below w.heap.size w w' := by
  obtain ⟨r, hr⟩ : ∃ r, r = fitsV p ks rs := ⟨_, rfl⟩
  rw [← hr]
  refine calls_run (args := [.v (.int .i64 p), .g 1000 A ks.length c, .g 1001 B rs.length d]) (hp := fitsHp A B c d ks rs bn on cn ba oa ca) (nx := 1002) (n := 400) (U := [(8, 4), (1000000, 40)]) (V := []) (T := lookT tiFits) (G := gamFits) (post := fun s ys => ys = [.v (.int .i64 r.1), .v (.int .i64 r.2.1), .v (.int .i64 r.2.2)])
    followP tiFits_ok gamFits_ok Tryz.func36 rfl (by kernel_rfl) (by show 3 ≤ 63; decide) (hh_list hg) (free_list (by simp [allLt, gHp, fitsHp])) ?_ ?_
  · rintro s ys w' rfl H
    exact ⟨rfl, H.below⟩
  rw [Tryz.results36]
  unfold fitsV at hr
  cases hk : known40 p
  · have hf := findE_no hk
    rw [hk, if_neg (by decide)] at hr
    simp (maxSteps := 1000000) only [En.E, En.evsC, List.map_cons, List.map_nil, Nat.reduceBEq, Nat.reduceAdd, Nat.reduceMul, Nat.reduceEqDiff, Nat.reduceLeDiff, Nat.reduceLT, ne_eq, reduceCtorEq, Int.reduceBEq, Int.reduceBNe, Int.reduceAdd, Int.reduceSub, Int.reduceMul, Int.reduceTDiv, Int.reduceTMod, Int.reduceNeg, En.bitN, Nat.testBit, Nat.reduceShiftRight, Nat.reduceShiftLeft, Nat.reduceAnd, Nat.reduceOr, Nat.reduceBNe, Int.reduceToNat, Nat.reduceSub, Int.reduceLE, Int.reduceLT, tiFits, tiT, tiP, gamFits, fitsHp, spFind_q, spArity_q, arityS_q, spMatch_q, getN_q, getNC_i, matchR_q, if_true, and_self, globR_q, gHp, oneAt_one, twoAt_one, h4, h3, hf, hr]
  · have hf := findE_yes hk
    rw [hk, if_pos rfl] at hr
    obtain ⟨l1, l2⟩ := lines_ok hk
    obtain ⟨l3, l4, l5⟩ := lines_all hk
    have ha : (((linesAt p).getD 0 ByteArray.empty).size : Int).tdiv 2 - 1 = arityOf p := rfl
    by_cases e1 : (ks.length : Int) = arityOf p
    · have d1 : ((ks.length : Int) != arityOf p) = false := by simpa using e1
      by_cases e2 : (rs.length : Int) = arityOf p
      · have d2 : ((rs.length : Int) != arityOf p) = false := by simpa using e2
        rw [if_pos ⟨e1, e2⟩] at hr
        have key : ∀ l ∈ linesAt p, l ∈ allLines ∧ ks.length = arl l ∧ rs.length = arl l := fun l hl => ⟨(l3 l hl).1, by have := (l3 l hl).2; omega, by have := (l3 l hl).2; omega⟩
        match hL : linesAt p, l4, l5, key, l1, l2 with
        | [a], _, _, key, l1, l2 =>
          rw [hL] at hr
          replace ha : (a.size : Int).tdiv 2 - 1 = arityOf p := by rw [hL] at ha; exact ha
          have l2' : a.size ≤ 1000 := l2
          have l1' : (0 : Nat) < List.length _ := l1
          have l3' : (0 : Int) < List.length _ := Int.ofNat_lt.2 l1
          have k0 := key a (by simp)
          have hlr : rs.length = ks.length := k0.2.2.trans k0.2.1.symm
          simp (maxSteps := 1000000) only [En.E, En.evsC, List.map_cons, List.map_nil, Nat.reduceBEq, Nat.reduceAdd, Nat.reduceMul, Nat.reduceEqDiff, Nat.reduceLeDiff, Nat.reduceLT, ne_eq, reduceCtorEq, Int.reduceBEq, Int.reduceBNe, Int.reduceAdd, Int.reduceSub, Int.reduceMul, Int.reduceTDiv, Int.reduceTMod, Int.reduceNeg, En.bitN, Nat.testBit, Nat.reduceShiftRight, Nat.reduceShiftLeft, Nat.reduceAnd, Nat.reduceOr, Nat.reduceBNe, Int.reduceToNat, Nat.reduceSub, Int.reduceLE, Int.reduceLT, tiFits, tiT, tiP, gamFits, fitsHp, spFind_q, spArity_q, arityS_q, spMatch_q, getN_q, getNC_i, matchR_q, if_true, and_self, globR_q, gHp, oneAt_one, twoAt_one, h4, h3, hf, hL, ha, d1, d2, l1', l2', l3', ifB_fst]
          simp only [hr, fitsF]
          cases f0 : (matchM a ks rs).fst <;> cases g0 : (matchM a ks rs).snd <;> simp [k0, f0, g0, En.inr, En.lo, En.hi]
        | [a, b], _, _, key, l1, l2 =>
          rw [hL] at hr
          replace ha : (a.size : Int).tdiv 2 - 1 = arityOf p := by rw [hL] at ha; exact ha
          have l2' : a.size ≤ 1000 := l2
          have l1' : (0 : Nat) < List.length _ := l1
          have l3' : (0 : Int) < List.length _ := Int.ofNat_lt.2 l1
          have k0 := key a (by simp)
          have hlr : rs.length = ks.length := k0.2.2.trans k0.2.1.symm
          have k1 := key b (by simp)
          simp (maxSteps := 1000000) only [En.E, En.evsC, List.map_cons, List.map_nil, Nat.reduceBEq, Nat.reduceAdd, Nat.reduceMul, Nat.reduceEqDiff, Nat.reduceLeDiff, Nat.reduceLT, ne_eq, reduceCtorEq, Int.reduceBEq, Int.reduceBNe, Int.reduceAdd, Int.reduceSub, Int.reduceMul, Int.reduceTDiv, Int.reduceTMod, Int.reduceNeg, En.bitN, Nat.testBit, Nat.reduceShiftRight, Nat.reduceShiftLeft, Nat.reduceAnd, Nat.reduceOr, Nat.reduceBNe, Int.reduceToNat, Nat.reduceSub, Int.reduceLE, Int.reduceLT, tiFits, tiT, tiP, gamFits, fitsHp, spFind_q, spArity_q, arityS_q, spMatch_q, getN_q, getNC_i, matchR_q, if_true, and_self, globR_q, gHp, oneAt_one, twoAt_one, h4, h3, hf, hL, ha, d1, d2, l1', l2', l3', ifB_fst]
          simp only [hr, fitsF]
          cases f0 : (matchM a ks rs).fst <;> cases g0 : (matchM a ks rs).snd <;> cases f1 : (matchM b ks rs).fst <;> cases g1 : (matchM b ks rs).snd <;> simp [k0.1, k1.1, ← k0.2.1, ← k0.2.2, ← k1.2.1, ← k1.2.2, f0, g0, f1, g1, hlr, En.inr, En.lo, En.hi]
        | [a, b, c], _, _, key, l1, l2 =>
          rw [hL] at hr
          replace ha : (a.size : Int).tdiv 2 - 1 = arityOf p := by rw [hL] at ha; exact ha
          have l2' : a.size ≤ 1000 := l2
          have l1' : (0 : Nat) < List.length _ := l1
          have l3' : (0 : Int) < List.length _ := Int.ofNat_lt.2 l1
          have k0 := key a (by simp)
          have hlr : rs.length = ks.length := k0.2.2.trans k0.2.1.symm
          have k1 := key b (by simp)
          have k2 := key c (by simp)
          simp (maxSteps := 1000000) only [En.E, En.evsC, List.map_cons, List.map_nil, Nat.reduceBEq, Nat.reduceAdd, Nat.reduceMul, Nat.reduceEqDiff, Nat.reduceLeDiff, Nat.reduceLT, ne_eq, reduceCtorEq, Int.reduceBEq, Int.reduceBNe, Int.reduceAdd, Int.reduceSub, Int.reduceMul, Int.reduceTDiv, Int.reduceTMod, Int.reduceNeg, En.bitN, Nat.testBit, Nat.reduceShiftRight, Nat.reduceShiftLeft, Nat.reduceAnd, Nat.reduceOr, Nat.reduceBNe, Int.reduceToNat, Nat.reduceSub, Int.reduceLE, Int.reduceLT, tiFits, tiT, tiP, gamFits, fitsHp, spFind_q, spArity_q, arityS_q, spMatch_q, getN_q, getNC_i, matchR_q, if_true, and_self, globR_q, gHp, oneAt_one, twoAt_one, h4, h3, hf, hL, ha, d1, d2, l1', l2', l3', ifB_fst]
          simp only [hr, fitsF]
          cases f0 : (matchM a ks rs).fst <;> cases g0 : (matchM a ks rs).snd <;> cases f1 : (matchM b ks rs).fst <;> cases g1 : (matchM b ks rs).snd <;> cases f2 : (matchM c ks rs).fst <;> cases g2 : (matchM c ks rs).snd <;> simp [k0.1, k1.1, k2.1, ← k0.2.1, ← k0.2.2, ← k1.2.1, ← k1.2.2, ← k2.2.1, ← k2.2.2, f0, g0, f1, g1, f2, g2, hlr, En.inr, En.lo, En.hi]
      · have d2 : ((rs.length : Int) != arityOf p) = true := by simpa using e2
        rw [if_neg (fun h => e2 h.2)] at hr
        simp (maxSteps := 1000000) only [En.E, En.evsC, List.map_cons, List.map_nil, Nat.reduceBEq, Nat.reduceAdd, Nat.reduceMul, Nat.reduceEqDiff, Nat.reduceLeDiff, Nat.reduceLT, ne_eq, reduceCtorEq, Int.reduceBEq, Int.reduceBNe, Int.reduceAdd, Int.reduceSub, Int.reduceMul, Int.reduceTDiv, Int.reduceTMod, Int.reduceNeg, En.bitN, Nat.testBit, Nat.reduceShiftRight, Nat.reduceShiftLeft, Nat.reduceAnd, Nat.reduceOr, Nat.reduceBNe, Int.reduceToNat, Nat.reduceSub, Int.reduceLE, Int.reduceLT, tiFits, tiT, tiP, gamFits, fitsHp, spFind_q, spArity_q, arityS_q, spMatch_q, getN_q, getNC_i, matchR_q, if_true, and_self, globR_q, gHp, oneAt_one, twoAt_one, h4, h3, hf, ha, d1, d2, l1, l2, hr]
    · have d1 : ((ks.length : Int) != arityOf p) = true := by simpa using e1
      rw [if_neg (fun h => e1 h.1)] at hr
      simp (maxSteps := 1000000) only [En.E, En.evsC, List.map_cons, List.map_nil, Nat.reduceBEq, Nat.reduceAdd, Nat.reduceMul, Nat.reduceEqDiff, Nat.reduceLeDiff, Nat.reduceLT, ne_eq, reduceCtorEq, Int.reduceBEq, Int.reduceBNe, Int.reduceAdd, Int.reduceSub, Int.reduceMul, Int.reduceTDiv, Int.reduceTMod, Int.reduceNeg, En.bitN, Nat.testBit, Nat.reduceShiftRight, Nat.reduceShiftLeft, Nat.reduceAnd, Nat.reduceOr, Nat.reduceBNe, Int.reduceToNat, Nat.reduceSub, Int.reduceLE, Int.reduceLT, tiFits, tiT, tiP, gamFits, fitsHp, spFind_q, spArity_q, arityS_q, spMatch_q, getN_q, getNC_i, matchR_q, if_true, and_self, globR_q, gHp, oneAt_one, twoAt_one, h4, h3, hf, ha, d1, l1, l2, hr]
end Pr
end Go.Proofs.YtnpkmimbnjnicaaGreatDoor
/-
The reference's Fits (chapter 12).
-/
set_option linter.unusedSimpArgs false
set_option linter.unusedVariables false
namespace Go.Proofs.YtnpkmimbnjnicaaGreatDoor
namespace Pr
open Go Go.RowKit En
def fitsR (g : Prop) (p : Int) : Option (List Int) → Option (List Int) → Res
  | some ks, some rs => .is g (.tup [.v (.int .i64 (fitsV p ks rs).1), .v (.int .i64 (fitsV p ks rs).2.1), .v (.int .i64 (fitsV p ks rs).2.2)])
  | _, _ => .bad
def spFits : Spc
  | [.v (.int .i64 p), K, R], H, _ => fitsR (globR (H 0) (H 1) (H 2) (H 3)) p (getN H K) (getN H R)
  | _, _, _ => .bad
theorem spFits_q {p : Int} {K R : SV} {H : Nat → Ch} {nx : Nat} : spFits [.v (.int .i64 p), K, R] H nx = fitsR (globR (H 0) (H 1) (H 2) (H 3)) p (getN H K) (getN H R) := (rfl)
theorem fitsR_q {g : Prop} {p : Int} {ks rs : List Int} : fitsR g p (some ks) (some rs) = .is g (.tup [.v (.int .i64 (fitsV p ks rs).1), .v (.int .i64 (fitsV p ks rs).2.1), .v (.int .i64 (fitsV p ks rs).2.2)]) := (rfl)
theorem spFits_ok : SpecOk Tryz.prog 36 spFits := by
  intro args hp nx w0 O w H hv
  unfold spFits at hv ⊢
  split at hv
  · next nx x0 x1 x2 p K R =>
    cases hK : getN (lookH hp) K with
    | none => rw [hK] at hv; exact hv.elim
    | some ks =>
      cases hR : getN (lookH hp) R with
      | none => rw [hK, hR] at hv; exact hv.elim
      | some rs =>
        rw [hK, hR] at hv
        obtain ⟨bn, on, cn, ba, oa, ca, hr, h4, h3, hk⟩ := globR_ok H hv
        obtain ⟨A, c, e1, s1, _⟩ := getN_ok H hK
        obtain ⟨B, d, e2, s2, _⟩ := getN_ok H hR
        rw [show dens [.v (.int .i64 p), K, R] = [Value.int .i64 p, .slice A ks.length c, .slice B rs.length d] by simp [dens, den, e1, e2]]
        refine (Fits_any p ks rs A B c d bn on cn ba oa ca h4 h3 w ⟨⟨s1, rfl⟩, ⟨s2, rfl⟩, hr⟩).mono ?_
        rintro e w' ⟨rfl, hb⟩
        exact ⟨⟨0, none, 0, none, 0, mz⟩, rfl, .still hb⟩
  · exact hv.elim
def rInts (p : Int) : Bool × Bool :=
  if p = 4 ∨ p = 5 ∨ p = 6 ∨ p = 7 ∨ p = 12 ∨ p = 23 ∨ p = 24 ∨ p = 37 ∨ p = 39 then (false, false)
  else if p = 33 ∨ p = 34 ∨ p = 35 ∨ p = 36 ∨ p = 40 then (true, false) else if p = 38 then (false, true) else (true, true)
def okK (k : Int) : Bool := k == 1 || k == 2
def rKinds (p : Int) : List Int → Bool
  | [k] => okK k && !((rInts p).1 && k != 1)
  | [k, l] => okK k && okK l && !((rInts p).1 && k != 1 || (rInts p).2 && l != 1) && (bif (bif bif bif p != 23 then p != 24 else false then p != 37 else false then p != 39 else false) then true else k == l)
  | _ => false
def rTab1 (p a : Int) : Bool × Int :=
  bif p == 1 then (true, a) else bif p == 2 then (true, a) else bif p == 3 then (true, a) else bif p == 4 then (true, 1) else bif p == 5 then (true, 1) else bif p == 6 then (decide (0 < a), a) else bif p == 13 then (decide (0 < a), a) else bif p == 7 then (a == 2, 2) else bif p == 8 then (a == 0, 1) else bif p == 9 then (decide (0 < a), a - 1) else bif p == 10 then (decide (0 < a), a - 1) else bif p == 11 then (decide (0 < a), a - 1) else bif p == 12 then (decide (0 < a), a - 1) else (a == 1, 1)
def rTab2 (p a b : Int) : Bool × Int :=
  bif p == 33 then (bif a == 0 then b == 1 else false, 1) else bif p == 34 then (bif a == 0 then b == 1 else false, 1) else bif p == 35 then (bif a == 0 then b == 0 else false, 1) else bif p == 36 then (bif a == 1 then b == 1 else false, 2) else bif p == 37 then (bif a == b then decide (0 < a) else false, a) else bif p == 38 then (bif a == 1 then decide (b < 2) else false, b) else bif p == 39 then (b == 1, a) else bif p == 40 then (bif a == 1 then b == 1 else false, 1) else (bif (bif a == b then true else a == 0) then true else b == 0, if b > a then b else a)
def badR (a : Int) : Bool := bif decide (a < 0) then true else decide (2 < a)
def pickRank (x : Bool × Int) : Int := bif x.1 then x.2 else -1
def rRanks (p : Int) : List Int → Int
  | [a] => bif badR a then -1 else pickRank (rTab1 p a)
  | [a, b] => bif badR a then -1 else bif badR b then -1 else pickRank (rTab2 p a b)
  | _ => -1
def rKind (p : Int) (l : List Int) : Int :=
  if p = 5 ∨ p = 6 ∨ p = 7 ∨ p = 37 ∨ p = 38 then l.getD 0 0 else if p = 33 ∨ p = 34 ∨ p = 35 ∨ p = 36 ∨ p = 40 then l.getD 1 0 else 1
theorem rints_any (p : Int) (w : World) : Calls Tryz.prog 117 #[.int .i64 p] w fun e w' => e = .returned (.tuple #[.bool (rInts p).1, .bool (rInts p).2]) ∧ Below w.heap.size w w' := by
  obtain ⟨r, hr⟩ : ∃ r, r = rInts p := ⟨_, rfl⟩
  rw [← hr]
  refine calls_run (args := [.v (.int .i64 p)]) (hp := []) (nx := 1000) (n := 400) (U := []) (V := []) (T := lookT tiFits) (G := gnil) (post := fun s ys => ys = [.v (.bool r.1), .v (.bool r.2)])
    followP tiFits_ok gOk_nil Tryz.func117 rfl (by kernel_rfl) (by show 1 ≤ 23; decide) (hh_list trivial) (fun _ _ => rfl) ?_ ?_
  · rintro s ys w' rfl H
    exact ⟨rfl, H.below⟩
  rw [Tryz.results117]
  simp (maxSteps := 1000000) only [En.E, En.evsC, List.map_cons, List.map_nil, Nat.reduceBEq, Nat.reduceAdd, Nat.reduceMul, Nat.reduceEqDiff, Nat.reduceLeDiff, Nat.reduceLT, ne_eq, reduceCtorEq, Int.reduceBEq, Int.reduceBNe, Int.reduceAdd, Int.reduceSub, Int.reduceMul, Int.reduceTDiv, Int.reduceTMod, Int.reduceNeg, En.bitN, Nat.testBit, Nat.reduceShiftRight, Nat.reduceShiftLeft, Nat.reduceAnd, Nat.reduceOr, Nat.reduceBNe, Int.reduceToNat, Nat.reduceSub, Int.reduceLE, Int.reduceLT, tiFits, tiT, tiP]
  subst hr
  simp +contextual [rInts]
def spRInts : Spc
  | [.v (.int .i64 p)], _, _ => .is True (.tup [.v (.bool (rInts p).1), .v (.bool (rInts p).2)])
  | _, _, _ => .bad
theorem spRInts_q {p : Int} {H : Nat → Ch} {nx : Nat} : spRInts [.v (.int .i64 p)] H nx = .is True (.tup [.v (.bool (rInts p).1), .v (.bool (rInts p).2)]) := (rfl)
theorem spRInts_ok : SpecOk Tryz.prog 117 spRInts := by
  intro args hp nx w0 O w H hv
  unfold spRInts at hv ⊢
  split at hv
  · next p =>
    refine (rints_any p w).mono ?_
    rintro e w' ⟨rfl, hb⟩
    exact ⟨⟨0, none, 0, none, 0, mz⟩, rfl, .still hb⟩
  · exact hv.elim
def gamRK : Gam := gcons 117 spRInts gnil
theorem gamRK_ok : GOk Tryz.prog gamRK := gOk_cons (by kernel_rfl) spRInts_ok gOk_nil
theorem gnil_ok : GOk Tryz.prog gnil := gOk_nil
end Pr
end Go.Proofs.YtnpkmimbnjnicaaGreatDoor
/-
The reference's ranks (chapter 12).
-/
set_option linter.unusedSimpArgs false
set_option linter.unusedVariables false
namespace Go.Proofs.YtnpkmimbnjnicaaGreatDoor
namespace Pr
open Go Go.RowKit En
set_option maxRecDepth 100000 in
set_option maxHeartbeats 8000000 in
theorem rranks1 (p : Int) (k : Int) (hp : 1 ≤ p ∧ p ≤ 14) (A : Option Addr) (c : Nat) (w : World) (h : Hold w.heap.size w (.ints A c .i64 [k])) :
    Calls Tryz.prog 87 #[.int .i64 p, .slice A 1 c] w fun e w' => e = .returned (.int .i64 (rRanks p [k])) ∧ Below w.heap.size w w' := by
  refine calls_run (args := [.v (.int .i64 p), .g 1000 A 1 c]) (hp := [(1000, .ints A c .i64 [k])]) (nx := 1001) (n := 400) (U := [(2, 3), (1000000, 40)]) (V := []) (T := lookT tiFits) (G := gnil) (post := fun s ys => ys = [.v (.int .i64 (rRanks p [k]))])
    followP tiFits_ok gnil_ok Tryz.func87 rfl (by kernel_rfl) (by show 2 ≤ 147; decide) (hh_list ⟨⟨h, rfl⟩, trivial⟩) (free_list (by simp [allLt])) ?_ ?_
  · rintro s ys w' rfl H
    exact ⟨rfl, H.below⟩
  rw [Tryz.results87]
  have hc : p = 1 ∨ p = 2 ∨ p = 3 ∨ p = 4 ∨ p = 5 ∨ p = 6 ∨ p = 7 ∨ p = 8 ∨ p = 9 ∨ p = 10 ∨ p = 11 ∨ p = 12 ∨ p = 13 ∨ p = 14 := by omega
  rcases hc with rfl | rfl | rfl | rfl | rfl | rfl | rfl | rfl | rfl | rfl | rfl | rfl | rfl | rfl
  all_goals
    simp (maxSteps := 1000000) only [En.E, En.evsC, List.map_cons, List.map_nil, Nat.reduceBEq, Nat.reduceAdd, Nat.reduceMul, Nat.reduceEqDiff, Nat.reduceLeDiff, Nat.reduceLT, ne_eq, reduceCtorEq, Int.reduceBEq, Int.reduceBNe, Int.reduceAdd, Int.reduceSub, Int.reduceMul, Int.reduceTDiv, Int.reduceTMod, Int.reduceNeg, En.bitN, Nat.testBit, Nat.reduceShiftRight, Nat.reduceShiftLeft, Nat.reduceAnd, Nat.reduceOr, Nat.reduceBNe, Int.reduceToNat, Nat.reduceSub, Int.reduceLE, Int.reduceLT, tiFits, tiT, tiP, ]
    simp [rRanks, rTab1, badR, pickRank, En.inr, En.lo, En.hi, Bool.cond_eq_ite]
    try omega
set_option maxRecDepth 100000 in
set_option maxHeartbeats 8000000 in
theorem rranks2 (p : Int) (k l : Int) (hp : 15 ≤ p ∧ p ≤ 40) (A : Option Addr) (c : Nat) (w : World) (h : Hold w.heap.size w (.ints A c .i64 [k, l])) :
    Calls Tryz.prog 87 #[.int .i64 p, .slice A 2 c] w fun e w' => e = .returned (.int .i64 (rRanks p [k, l])) ∧ Below w.heap.size w w' := by
  refine calls_run (args := [.v (.int .i64 p), .g 1000 A 2 c]) (hp := [(1000, .ints A c .i64 [k, l])]) (nx := 1001) (n := 400) (U := [(2, 3), (1000000, 40)]) (V := []) (T := lookT tiFits) (G := gnil) (post := fun s ys => ys = [.v (.int .i64 (rRanks p [k, l]))])
    followP tiFits_ok gnil_ok Tryz.func87 rfl (by kernel_rfl) (by show 2 ≤ 147; decide) (hh_list ⟨⟨h, rfl⟩, trivial⟩) (free_list (by simp [allLt])) ?_ ?_
  · rintro s ys w' rfl H
    exact ⟨rfl, H.below⟩
  rw [Tryz.results87]
  have hc : p = 15 ∨ p = 16 ∨ p = 17 ∨ p = 18 ∨ p = 19 ∨ p = 20 ∨ p = 21 ∨ p = 22 ∨ p = 23 ∨ p = 24 ∨ p = 25 ∨ p = 26 ∨ p = 27 ∨ p = 28 ∨ p = 29 ∨ p = 30 ∨ p = 31 ∨ p = 32 ∨ p = 33 ∨ p = 34 ∨ p = 35 ∨ p = 36 ∨ p = 37 ∨ p = 38 ∨ p = 39 ∨ p = 40 := by omega
  rcases hc with rfl | rfl | rfl | rfl | rfl | rfl | rfl | rfl | rfl | rfl | rfl | rfl | rfl | rfl | rfl | rfl | rfl | rfl | rfl | rfl | rfl | rfl | rfl | rfl | rfl | rfl
  all_goals
    simp (maxSteps := 1000000) only [En.E, En.evsC, List.map_cons, List.map_nil, Nat.reduceBEq, Nat.reduceAdd, Nat.reduceMul, Nat.reduceEqDiff, Nat.reduceLeDiff, Nat.reduceLT, ne_eq, reduceCtorEq, Int.reduceBEq, Int.reduceBNe, Int.reduceAdd, Int.reduceSub, Int.reduceMul, Int.reduceTDiv, Int.reduceTMod, Int.reduceNeg, En.bitN, Nat.testBit, Nat.reduceShiftRight, Nat.reduceShiftLeft, Nat.reduceAnd, Nat.reduceOr, Nat.reduceBNe, Int.reduceToNat, Nat.reduceSub, Int.reduceLE, Int.reduceLT, tiFits, tiT, tiP, ]
    simp [rRanks, rTab2, badR, pickRank, En.inr, En.lo, En.hi, Bool.cond_eq_ite]
    try omega
end Pr
end Go.Proofs.YtnpkmimbnjnicaaGreatDoor
/-
The reference's kinds, kind (chapter 12).
-/
set_option linter.unusedSimpArgs false
set_option linter.unusedVariables false
namespace Go.Proofs.YtnpkmimbnjnicaaGreatDoor
namespace Pr
open Go Go.RowKit En
set_option maxRecDepth 100000 in
set_option maxHeartbeats 8000000 in
theorem rkind1 (p : Int) (k : Int) (hp : 1 ≤ p ∧ p ≤ 14) (A : Option Addr) (c : Nat) (w : World) (h : Hold w.heap.size w (.ints A c .i64 [k])) :
    Calls Tryz.prog 88 #[.int .i64 p, .slice A 1 c] w fun e w' => e = .returned (.int .i64 (rKind p [k])) ∧ Below w.heap.size w w' := by
  refine calls_run (args := [.v (.int .i64 p), .g 1000 A 1 c]) (hp := [(1000, .ints A c .i64 [k])]) (nx := 1001) (n := 400) (U := []) (V := []) (T := lookT tiFits) (G := gnil) (post := fun s ys => ys = [.v (.int .i64 (rKind p [k]))])
    followP tiFits_ok gnil_ok Tryz.func88 rfl (by kernel_rfl) (by show 2 ≤ 24; decide) (hh_list ⟨⟨h, rfl⟩, trivial⟩) (free_list (by simp [allLt])) ?_ ?_
  · rintro s ys w' rfl H
    exact ⟨rfl, H.below⟩
  rw [Tryz.results88]
  have hc : p = 1 ∨ p = 2 ∨ p = 3 ∨ p = 4 ∨ p = 5 ∨ p = 6 ∨ p = 7 ∨ p = 8 ∨ p = 9 ∨ p = 10 ∨ p = 11 ∨ p = 12 ∨ p = 13 ∨ p = 14 := by omega
  rcases hc with rfl | rfl | rfl | rfl | rfl | rfl | rfl | rfl | rfl | rfl | rfl | rfl | rfl | rfl
  all_goals
    simp (maxSteps := 1000000) only [En.E, En.evsC, List.map_cons, List.map_nil, Nat.reduceBEq, Nat.reduceAdd, Nat.reduceMul, Nat.reduceEqDiff, Nat.reduceLeDiff, Nat.reduceLT, ne_eq, reduceCtorEq, Int.reduceBEq, Int.reduceBNe, Int.reduceAdd, Int.reduceSub, Int.reduceMul, Int.reduceTDiv, Int.reduceTMod, Int.reduceNeg, En.bitN, Nat.testBit, Nat.reduceShiftRight, Nat.reduceShiftLeft, Nat.reduceAnd, Nat.reduceOr, Nat.reduceBNe, Int.reduceToNat, Nat.reduceSub, Int.reduceLE, Int.reduceLT, tiFits, tiT, tiP, ]
    simp [rKind]
set_option maxRecDepth 100000 in
set_option maxHeartbeats 8000000 in
theorem rkind2 (p : Int) (k l : Int) (hp : 15 ≤ p ∧ p ≤ 40) (A : Option Addr) (c : Nat) (w : World) (h : Hold w.heap.size w (.ints A c .i64 [k, l])) :
    Calls Tryz.prog 88 #[.int .i64 p, .slice A 2 c] w fun e w' => e = .returned (.int .i64 (rKind p [k, l])) ∧ Below w.heap.size w w' := by
  refine calls_run (args := [.v (.int .i64 p), .g 1000 A 2 c]) (hp := [(1000, .ints A c .i64 [k, l])]) (nx := 1001) (n := 400) (U := []) (V := []) (T := lookT tiFits) (G := gnil) (post := fun s ys => ys = [.v (.int .i64 (rKind p [k, l]))])
    followP tiFits_ok gnil_ok Tryz.func88 rfl (by kernel_rfl) (by show 2 ≤ 24; decide) (hh_list ⟨⟨h, rfl⟩, trivial⟩) (free_list (by simp [allLt])) ?_ ?_
  · rintro s ys w' rfl H
    exact ⟨rfl, H.below⟩
  rw [Tryz.results88]
  have hc : p = 15 ∨ p = 16 ∨ p = 17 ∨ p = 18 ∨ p = 19 ∨ p = 20 ∨ p = 21 ∨ p = 22 ∨ p = 23 ∨ p = 24 ∨ p = 25 ∨ p = 26 ∨ p = 27 ∨ p = 28 ∨ p = 29 ∨ p = 30 ∨ p = 31 ∨ p = 32 ∨ p = 33 ∨ p = 34 ∨ p = 35 ∨ p = 36 ∨ p = 37 ∨ p = 38 ∨ p = 39 ∨ p = 40 := by omega
  rcases hc with rfl | rfl | rfl | rfl | rfl | rfl | rfl | rfl | rfl | rfl | rfl | rfl | rfl | rfl | rfl | rfl | rfl | rfl | rfl | rfl | rfl | rfl | rfl | rfl | rfl | rfl
  all_goals
    simp (maxSteps := 1000000) only [En.E, En.evsC, List.map_cons, List.map_nil, Nat.reduceBEq, Nat.reduceAdd, Nat.reduceMul, Nat.reduceEqDiff, Nat.reduceLeDiff, Nat.reduceLT, ne_eq, reduceCtorEq, Int.reduceBEq, Int.reduceBNe, Int.reduceAdd, Int.reduceSub, Int.reduceMul, Int.reduceTDiv, Int.reduceTMod, Int.reduceNeg, En.bitN, Nat.testBit, Nat.reduceShiftRight, Nat.reduceShiftLeft, Nat.reduceAnd, Nat.reduceOr, Nat.reduceBNe, Int.reduceToNat, Nat.reduceSub, Int.reduceLE, Int.reduceLT, tiFits, tiT, tiP, ]
    simp [rKind]
set_option maxRecDepth 100000 in
set_option maxHeartbeats 8000000 in
theorem rkinds1 (p : Int) (k : Int) (hp : 1 ≤ p ∧ p ≤ 14) (A : Option Addr) (c : Nat) (w : World) (h : Hold w.heap.size w (.ints A c .i64 [k])) :
    Calls Tryz.prog 86 #[.int .i64 p, .slice A 1 c] w fun e w' => e = .returned (.bool (rKinds p [k])) ∧ Below w.heap.size w w' := by
  refine calls_run (args := [.v (.int .i64 p), .g 1000 A 1 c]) (hp := [(1000, .ints A c .i64 [k])]) (nx := 1001) (n := 400) (U := [(2, 3), (1000000, 8)]) (V := []) (T := lookT tiFits) (G := gamRK) (post := fun s ys => ys = [.v (.bool (rKinds p [k]))])
    followP tiFits_ok gamRK_ok Tryz.func86 rfl (by kernel_rfl) (by show 2 ≤ 75; decide) (hh_list ⟨⟨h, rfl⟩, trivial⟩) (free_list (by simp [allLt])) ?_ ?_
  · rintro s ys w' rfl H
    exact ⟨rfl, H.below⟩
  rw [Tryz.results86]
  have hc : p = 1 ∨ p = 2 ∨ p = 3 ∨ p = 4 ∨ p = 5 ∨ p = 6 ∨ p = 7 ∨ p = 8 ∨ p = 9 ∨ p = 10 ∨ p = 11 ∨ p = 12 ∨ p = 13 ∨ p = 14 := by omega
  rcases hc with rfl | rfl | rfl | rfl | rfl | rfl | rfl | rfl | rfl | rfl | rfl | rfl | rfl | rfl
  all_goals
    simp (maxSteps := 1000000) only [En.E, En.evsC, List.map_cons, List.map_nil, Nat.reduceBEq, Nat.reduceAdd, Nat.reduceMul, Nat.reduceEqDiff, Nat.reduceLeDiff, Nat.reduceLT, ne_eq, reduceCtorEq, Int.reduceBEq, Int.reduceBNe, Int.reduceAdd, Int.reduceSub, Int.reduceMul, Int.reduceTDiv, Int.reduceTMod, Int.reduceNeg, En.bitN, Nat.testBit, Nat.reduceShiftRight, Nat.reduceShiftLeft, Nat.reduceAnd, Nat.reduceOr, Nat.reduceBNe, Int.reduceToNat, Nat.reduceSub, Int.reduceLE, Int.reduceLT, tiFits, tiT, tiP, gamRK, spRInts_q]
    simp [rKinds, okK, rInts, En.inr, En.lo, En.hi, Bool.cond_eq_ite]
    try grind
set_option maxRecDepth 100000 in
set_option maxHeartbeats 8000000 in
theorem rkinds2 (p : Int) (k l : Int) (hp : 15 ≤ p ∧ p ≤ 40) (A : Option Addr) (c : Nat) (w : World) (h : Hold w.heap.size w (.ints A c .i64 [k, l])) :
    Calls Tryz.prog 86 #[.int .i64 p, .slice A 2 c] w fun e w' => e = .returned (.bool (rKinds p [k, l])) ∧ Below w.heap.size w w' := by
  refine calls_run (args := [.v (.int .i64 p), .g 1000 A 2 c]) (hp := [(1000, .ints A c .i64 [k, l])]) (nx := 1001) (n := 400) (U := [(2, 3), (1000000, 8)]) (V := []) (T := lookT tiFits) (G := gamRK) (post := fun s ys => ys = [.v (.bool (rKinds p [k, l]))])
    followP tiFits_ok gamRK_ok Tryz.func86 rfl (by kernel_rfl) (by show 2 ≤ 75; decide) (hh_list ⟨⟨h, rfl⟩, trivial⟩) (free_list (by simp [allLt])) ?_ ?_
  · rintro s ys w' rfl H
    exact ⟨rfl, H.below⟩
  rw [Tryz.results86]
  have hc : p = 15 ∨ p = 16 ∨ p = 17 ∨ p = 18 ∨ p = 19 ∨ p = 20 ∨ p = 21 ∨ p = 22 ∨ p = 23 ∨ p = 24 ∨ p = 25 ∨ p = 26 ∨ p = 27 ∨ p = 28 ∨ p = 29 ∨ p = 30 ∨ p = 31 ∨ p = 32 ∨ p = 33 ∨ p = 34 ∨ p = 35 ∨ p = 36 ∨ p = 37 ∨ p = 38 ∨ p = 39 ∨ p = 40 := by omega
  rcases hc with rfl | rfl | rfl | rfl | rfl | rfl | rfl | rfl | rfl | rfl | rfl | rfl | rfl | rfl | rfl | rfl | rfl | rfl | rfl | rfl | rfl | rfl | rfl | rfl | rfl | rfl
  all_goals
    simp (maxSteps := 1000000) only [En.E, En.evsC, List.map_cons, List.map_nil, Nat.reduceBEq, Nat.reduceAdd, Nat.reduceMul, Nat.reduceEqDiff, Nat.reduceLeDiff, Nat.reduceLT, ne_eq, reduceCtorEq, Int.reduceBEq, Int.reduceBNe, Int.reduceAdd, Int.reduceSub, Int.reduceMul, Int.reduceTDiv, Int.reduceTMod, Int.reduceNeg, En.bitN, Nat.testBit, Nat.reduceShiftRight, Nat.reduceShiftLeft, Nat.reduceAnd, Nat.reduceOr, Nat.reduceBNe, Int.reduceToNat, Nat.reduceSub, Int.reduceLE, Int.reduceLT, tiFits, tiT, tiP, gamRK, spRInts_q]
    simp [rKinds, okK, rInts, En.inr, En.lo, En.hi, Bool.cond_eq_ite]
    try grind
end Pr
end Go.Proofs.YtnpkmimbnjnicaaGreatDoor
