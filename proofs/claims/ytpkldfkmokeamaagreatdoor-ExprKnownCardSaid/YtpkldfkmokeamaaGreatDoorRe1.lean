/-
The reference's words of an expression: how many operands, the place after a subtree, the operands (chapter 15).
-/
import Derived.Test.YtpkldfkmokeamaaGreatDoorCh1
import Derived.Test.YtpkldfkmokeamaaGreatDoorNdB
set_option linter.unusedSimpArgs false
set_option linter.unusedVariables false
namespace Go.Proofs.YtpkldfkmokeamaaGreatDoor
namespace Pr
open Go Go.RowKit En
open Ex
def manyV (d : Nd) : Int := bif opN d then d.c else 0
theorem many_any (d : Nd) (w : World) : Calls Tryz.prog 71 #[den (.agg (ndC d))] w fun e w' => e = .returned (.int .i64 (manyV d)) ∧ Below w.heap.size w w' := by
  obtain ⟨q, hq⟩ : ∃ q, q = manyV d := ⟨_, rfl⟩
  rw [← hq]
  refine calls_go (args := [.agg (ndC d)]) (hp := []) (nx := 1000) (n := 100) (U := []) (V := []) (tl := tlNd) (gl := gl0) (post := fun s ys => ys = [.v (.int .i64 q)])
    followP tlNd_ok gl0_ok Tryz.func71 rfl (by kernel_rfl) (Nat.le_of_ble_eq_true (by kernel_rfl)) (by kernel_rfl) (by kernel_rfl) (hh_list trivial) (fun _ _ => rfl) ?_ ?_
  · rintro s ys w' rfl H
    exact ⟨rfl, H.below⟩
  intro L F T G nd va hE
  obtain ⟨hL, hF, hs, hv, hT, hG, hR, hI, hJ, hW⟩ := hE
  rw [Tryz.results71] at hF
  simp (maxSteps := 1000000) only [En.nN, En.E, En.evsC, List.map_cons, List.map_nil, Nat.reduceBEq, Nat.reduceAdd, Nat.reduceMul, Nat.reduceEqDiff, Nat.reduceLeDiff, Nat.reduceLT, ne_eq, reduceCtorEq, Int.reduceBEq, Int.reduceBNe, Int.reduceAdd, Int.reduceSub, Int.reduceMul, Int.reduceNeg, Nat.reduceBNe, Int.reduceToNat, Nat.reduceSub, Int.reduceLE, Int.reduceLT] at hv
  simp only [En.at_nil, En.at_cons, En.ag_nil, En.ag_cons, and_true, tlNd, gl0, tyInt, tyI64, tyBool, tyStr, tyErr, tyNode] at hT hG
  rw [manyV, opN] at hq
  cases h5 : d.k == 5
  · cases h6 : d.k == 6
    · rw [h5, h6] at hq
      simp (maxSteps := 10000000) only [En.E, En.evsC, List.map_cons, List.map_nil, Nat.reduceBEq, Nat.reduceAdd, Nat.reduceMul, Nat.reduceEqDiff, Nat.reduceLeDiff, Nat.reduceLT, ne_eq, reduceCtorEq, Int.reduceBEq, Int.reduceBNe, Int.reduceAdd, Int.reduceSub, Int.reduceMul, Int.reduceNeg, Nat.reduceBNe, Int.reduceToNat, Nat.reduceSub, Int.reduceLE, Int.reduceLT, En.vV, hs, hv, hT, hG, hF, ndC, h5, h6, hq]
    · rw [h5, h6] at hq
      simp (maxSteps := 10000000) only [En.E, En.evsC, List.map_cons, List.map_nil, Nat.reduceBEq, Nat.reduceAdd, Nat.reduceMul, Nat.reduceEqDiff, Nat.reduceLeDiff, Nat.reduceLT, ne_eq, reduceCtorEq, Int.reduceBEq, Int.reduceBNe, Int.reduceAdd, Int.reduceSub, Int.reduceMul, Int.reduceNeg, Nat.reduceBNe, Int.reduceToNat, Nat.reduceSub, Int.reduceLE, Int.reduceLT, En.vV, hs, hv, hT, hG, hF, ndC, h5, h6, hq]
  · rw [h5] at hq
    simp (maxSteps := 10000000) only [En.E, En.evsC, List.map_cons, List.map_nil, Nat.reduceBEq, Nat.reduceAdd, Nat.reduceMul, Nat.reduceEqDiff, Nat.reduceLeDiff, Nat.reduceLT, ne_eq, reduceCtorEq, Int.reduceBEq, Int.reduceBNe, Int.reduceAdd, Int.reduceSub, Int.reduceMul, Int.reduceNeg, Nat.reduceBNe, Int.reduceToNat, Nat.reduceSub, Int.reduceLE, Int.reduceLT, En.vV, hs, hv, hT, hG, hF, ndC, h5, hq]
def spMany : Spc
  | [.agg [.v (.int .i64 k), .v (.int .i64 p), .v (.int .i64 c), .v (.string nm), .v (.string tx), .v (.int .i64 n), .v (.int .i64 s)]], _, _ => .is True (.v (.int .i64 (manyV ⟨k, p, c, nm, tx, n, s⟩)))
  | _, _, _ => .bad
theorem spMany_c {d : Nd} {H : Nat → Ch} {nx : Nat} : spMany [.agg (ndC d)] H nx = .is True (.v (.int .i64 (manyV d))) := (rfl)
theorem cut_ndC {d : Nd} : cut (ndC d) 0 7 = ndC d := (rfl)
theorem ndC_n : (∀ d, nth (ndC d) 0 = .v (.int .i64 d.k)) ∧ (∀ d, nth (ndC d) 1 = .v (.int .i64 d.p)) ∧ (∀ d, nth (ndC d) 2 = .v (.int .i64 d.c)) ∧ (∀ d, nth (ndC d) 3 = .v (.string d.nm)) ∧ (∀ d, nth (ndC d) 4 = .v (.string d.tx)) ∧ (∀ d, nth (ndC d) 5 = .v (.int .i64 d.n)) ∧ (∀ d, nth (ndC d) 6 = .v (.int .i64 d.s)) ∧ (∀ d, cut (ndC d) 0 7 = ndC d) :=
  ⟨fun _ => rfl, fun _ => rfl, fun _ => rfl, fun _ => rfl, fun _ => rfl, fun _ => rfl, fun _ => rfl, fun _ => rfl⟩
theorem spMany_ok : SpecOk Tryz.prog 71 spMany := specOk_is fun args H nx => by
  unfold spMany; split
  · next k p c nm tx n s => exact fun _ w => many_any ⟨k, p, c, nm, tx, n, s⟩ w
  · trivial
theorem manyV_M {l : List Nd} (hg : Good l) {i : Nat} (hi : i < l.length) : manyV (ndAt l i) = (Ms l i : Int) := by
  rw [manyV, Ms, Mn]
  cases ho : opN (ndAt l i) with
  | false => rfl
  | true => rw [if_pos rfl]; rcases hg.op i hi ho with h | h <;> rw [h] <;> rfl
theorem M_lt {l : List Nd} (hg : Good l) {i : Nat} (hi : i < l.length) : Ms l i = 0 ∨ Ms l i = 1 ∨ Ms l i = 2 := by
  rw [Ms, Mn]
  split
  · next ho => rcases hg.op i hi ho with h | h <;> rw [h] <;> simp
  · exact .inl rfl
def eR (l : List Nd) (i : Nat) : Nat := EndR l.length (Ms l) (Ks l) i
def endV (l : List Nd) (a : Int) : Int := (eR l a.toNat : Int)
def spEndN (D : Nat) : Spc
  | [.g k A n c, .v (.int .i64 a)], H, _ => .is (NdR A n c (H k) ∧ Good (chL n (H k)) ∧ 0 ≤ a ∧ a ≤ 1000000 ∧ n ≤ a.toNat + D) (.v (.int .i64 (endV (chL n (H k)) a)))
  | _, _, _ => .bad
theorem spEndN_q {D k n c : Nat} {A : Option Addr} {a : Int} {H : Nat → Ch} {nx : Nat} : spEndN D [.g k A n c, .v (.int .i64 a)] H nx = .is (NdR A n c (H k) ∧ Good (chL n (H k)) ∧ 0 ≤ a ∧ a ≤ 1000000 ∧ n ≤ a.toNat + D) (.v (.int .i64 (endV (chL n (H k)) a))) := rfl
def tlRe : List (TypeId × TI) := [tyInt, tyI64, tyBool, tyStr, tyErr, tyNode, tyNodes, tyInts]
theorem tlRe_ok : TyAll Tryz.prog (lookT tlRe) := tyAll_p tyInt_ok <| tyAll_p tyI64_ok <| tyAll_p tyBool_ok <| tyAll_p tyStr_ok <| tyAll_p tyErr_ok <| tyAll_p tyNode_ok <| tyAll_p tyNodes_ok <| tyAll_p tyInts_ok tyAll_nil
def glEnd (D : Nat) : List (FuncId × Spc) := [(71, spMany), (42, spEndN D)]
def rdH (l : List Nd) (A : Option Addr) (c : Nat) : Hp := [(1000, .recs A c 7 l.length fun i => ndC (ndAt l i))]
theorem end_out (l : List Nd) (hg : Good l) (a : Nat) (ha : l.length ≤ a) (A : Option Addr) (c : Nat) (w : World) (h : allRd w.heap.size w (rdH l A c)) :
    Calls Tryz.prog 42 #[.slice A l.length c, .int .i64 a] w fun e w' => e = .returned (.int .i64 (endV l a)) ∧ Below w.heap.size w w' := by
  have hlen := hg.len
  have hq : endV l a = (l.length : Int) + 1 := by rw [endV, Int.toNat_natCast, eR, EndR_out ha]; rfl
  rw [hq]
  have i1 : inr .i64 ((l.length : Int) + 1) := by simp only [En.inr, En.lo, En.hi]; omega
  have d0 : decide ((a : Int) ≥ (l.length : Int)) = true := decide_eq_true (by omega)
  refine calls_go (args := [.g 1000 A l.length c, .v (.int .i64 a)]) (hp := rdH l A c) (nx := 1001) (n := 400) (U := []) (V := []) (tl := tlRe) (gl := gl0) (post := fun s ys => ys = [.v (.int .i64 ((l.length : Int) + 1))])
    followP tlRe_ok gl0_ok Tryz.func42 rfl (by kernel_rfl) (Nat.le_of_ble_eq_true (by kernel_rfl)) (by kernel_rfl) (by kernel_rfl) (hh_list h) (free_list (by simp [allLt, rdH])) ?_ ?_
  · rintro s ys w' rfl H
    exact ⟨rfl, H.below⟩
  intro L F T G nd va hE
  obtain ⟨hL, hF, hs, hv, hT, hG, hR, hI, hJ, hW⟩ := hE
  rw [Tryz.results42] at hF
  simp (maxSteps := 1000000) only [En.nN, En.E, En.evsC, List.map_cons, List.map_nil, Nat.reduceBEq, Nat.reduceAdd, Nat.reduceMul, Nat.reduceEqDiff, Nat.reduceLeDiff, Nat.reduceLT, ne_eq, reduceCtorEq, Int.reduceBEq, Int.reduceBNe, Int.reduceAdd, Int.reduceSub, Int.reduceMul, Int.reduceNeg, Nat.reduceBNe, Int.reduceToNat, Nat.reduceSub, Int.reduceLE, Int.reduceLT] at hv
  simp only [En.at_nil, En.at_cons, En.ag_nil, En.ag_cons, and_true, tlRe, gl0, tyInt, tyI64, tyBool, tyStr, tyErr, tyNode, tyNodes, tyInts] at hT hG
  simp (maxSteps := 10000000) only [En.E, En.evsC, List.map_cons, List.map_nil, Nat.reduceBEq, Nat.reduceAdd, Nat.reduceMul, Nat.reduceEqDiff, Nat.reduceLeDiff, Nat.reduceLT, ne_eq, reduceCtorEq, Int.reduceBEq, Int.reduceBNe, Int.reduceAdd, Int.reduceSub, Int.reduceMul, Int.reduceNeg, Nat.reduceBNe, Int.reduceToNat, Nat.reduceSub, Int.reduceLE, Int.reduceLT, En.vV, hs, hv, hT, hG, hF, rdH, d0, i1]
def enI (l : List Nd) (A : Option Addr) (c a tt i : Nat) : SS := ⟨[(0, .g 1000 A l.length c), (1, .v (.int .i64 a)), (5, .v (.int .i64 tt)), (6, .v (.int .i64 i))], rdH l A c, 3000⟩
set_option maxRecDepth 100000 in
set_option maxHeartbeats 4000000 in
theorem end_in (D : Nat) (hG : GOk Tryz.prog (lookG (glEnd D))) (l : List Nd) (hg : Good l) (a : Nat) (ha : a < l.length) (hD : l.length ≤ a + (D + 1)) (A : Option Addr) (c : Nat) (w : World) (h : allRd w.heap.size w (rdH l A c)) :
    Calls Tryz.prog 42 #[.slice A l.length c, .int .i64 a] w fun e w' => e = .returned (.int .i64 (endV l a)) ∧ Below w.heap.size w w' := by
  have hlen := hg.len
  have hFi := hg.fine
  obtain ⟨q, hq⟩ : ∃ q, q = eR l a := ⟨_, rfl⟩
  have hqq : endV l a = (q : Int) := by rw [endV, Int.toNat_natCast, ← hq]
  rw [hqq]
  have hrec := EndR_rec (M := Ms l) hFi ha
  rw [show EndR l.length (Ms l) (Ks l) a = q from hq.symm] at hrec
  have d0 : decide ((a : Int) ≥ (l.length : Int)) = false := decide_eq_false (by omega)
  have i1 : inr .i64 ((a : Int) + 1) := by simp only [En.inr, En.lo, En.hi]; omega
  have g1 : (0 : Int) ≤ a ∧ (a : Int) < l.length := by omega
  have g2 : (0 : Int) ≤ a ∧ a < l.length := by omega
  have hA : ¬A = none := slok_some h.1.1.1 (by omega)
  refine calls_go (args := [.g 1000 A l.length c, .v (.int .i64 a)]) (hp := rdH l A c) (nx := 1001) (n := 1000) (U := [(1000000, 49)]) (V := []) (tl := tlRe) (gl := glEnd D) (post := fun s ys => ys = [.v (.int .i64 q)])
    followP tlRe_ok hG Tryz.func42 rfl (by kernel_rfl) (Nat.le_of_ble_eq_true (by kernel_rfl)) (by kernel_rfl) (by kernel_rfl) (hh_list h) (free_list (by simp [allLt, rdH])) ?_ ?_
  · rintro s ys w' rfl H
    exact ⟨rfl, H.below⟩
  intro L F T G nd va hE
  obtain ⟨hL, hF, hs, hv, hT, hG, hR, hI, hJ, hW⟩ := hE
  rw [Tryz.results42] at hF
  simp (maxSteps := 1000000) only [En.nN, En.E, En.evsC, List.map_cons, List.map_nil, Nat.reduceBEq, Nat.reduceAdd, Nat.reduceMul, Nat.reduceEqDiff, Nat.reduceLeDiff, Nat.reduceLT, ne_eq, reduceCtorEq, Int.reduceBEq, Int.reduceBNe, Int.reduceAdd, Int.reduceSub, Int.reduceMul, Int.reduceNeg, Nat.reduceBNe, Int.reduceToNat, Nat.reduceSub, Int.reduceLE, Int.reduceLT] at hv
  simp only [En.at_nil, En.at_cons, En.ag_nil, En.ag_cons, and_true, tlRe, glEnd, tyInt, tyI64, tyBool, tyStr, tyErr, tyNode, tyNodes, tyInts] at hT hG
  by_cases h3 : (ndAt l a).k = 3
  · have d3 : ((ndAt l a).k == 3) = true := by rw [h3]; rfl
    obtain ⟨hc0, hc1⟩ := hg.ls a ha h3
    have hK : (ndAt l a).c = (Ks l a : Int) := by simp only [Ks, Kn, if_pos h3]; omega
    have hM : Ms l a = 0 := by simp [Ms, Mn, opN, h3]
    rw [hM] at hrec
    have hq2 : (a : Int) + 1 + (Ks l a : Int) = (q : Int) := by rw [hrec, wkR]; omega
    have i2 : inr .i64 (q : Int) := by simp only [En.inr, En.lo, En.hi]; omega
    simp (maxSteps := 10000000) only [En.E, En.evsC, List.map_cons, List.map_nil, Nat.reduceBEq, Nat.reduceAdd, Nat.reduceMul, Nat.reduceEqDiff, Nat.reduceLeDiff, Nat.reduceLT, ne_eq, reduceCtorEq, Int.reduceBEq, Int.reduceBNe, Int.reduceAdd, Int.reduceSub, Int.reduceMul, Int.reduceNeg, Nat.reduceBNe, Int.reduceToNat, Nat.reduceSub, Int.reduceLE, Int.reduceLT, En.vV, hs, hv, hT, hG, hF, rdH, d0, d3, i1, i2, ndC, hK, hq2, g1, g2, hA, Int.toNat_natCast]
  · have d3 : ((ndAt l a).k == 3) = false := by simpa using h3
    have hK : Ks l a = 0 := if_neg h3
    rw [hK, Nat.add_zero] at hrec
    have hM := manyV_M hg ha
    have hm := M_lt hg ha
    simp (maxSteps := 10000000) only [En.E, En.evsC, List.map_cons, List.map_nil, Nat.reduceBEq, Nat.reduceAdd, Nat.reduceMul, Nat.reduceEqDiff, Nat.reduceLeDiff, Nat.reduceLT, ne_eq, reduceCtorEq, Int.reduceBEq, Int.reduceBNe, Int.reduceAdd, Int.reduceSub, Int.reduceMul, Int.reduceNeg, Nat.reduceBNe, Int.reduceToNat, Nat.reduceSub, Int.reduceLE, Int.reduceLT, En.vV, hs, hv, hT, hG, hF, rdH, d0, d3, i1, ndC, g1, g2, hA, Int.toNat_natCast]
    refine hI {x : Nat × Nat // x.1 ≤ Ms l a ∧ a + 1 ≤ x.2 ∧ x.2 ≤ l.length + 1 ∧ wkR l.length (Ms l) (Ks l) (Ms l a - x.1) x.2 = q} (fun x => enI l A c a x.1.2 x.1.1) (fun x => Ms l a - x.1.1) _ _ _
      ⟨(0, a + 1), Nat.zero_le _, Nat.le_refl _, by simp only; omega, by simpa using hrec.symm⟩ (sle_all [1000] (by decide) (by simp only [En.E, En.evsC, List.map_cons, List.map_nil, Nat.reduceBEq, Nat.reduceAdd, Nat.reduceMul, Nat.reduceEqDiff, Nat.reduceLeDiff, Nat.reduceLT, ne_eq, reduceCtorEq, Int.reduceBEq, Int.reduceBNe, Int.reduceAdd, Int.reduceSub, Int.reduceMul, Int.reduceNeg, Nat.reduceBNe, Int.reduceToNat, Nat.reduceSub, Int.reduceLE, Int.reduceLT, En.slLe, En.hpLe, En.chE, En.allLt, enI, rdH, ndC, Int.natCast_add, Int.cast_ofNat_Int])) ?_
    rintro ⟨⟨i, tt⟩, hi, ht0, ht1, hw⟩
    simp only at hi ht0 ht1 hw
    refine hR 1000 _ _ ?_
    have i2 : inr .i64 ((i : Int) + 1) := by simp only [En.inr, En.lo, En.hi]; omega
    by_cases hlt : i < Ms l a
    · have d1 : decide ((i : Int) < (Ms l a : Int)) = true := decide_eq_true (by omega)
      obtain ⟨m, hm'⟩ : ∃ m, Ms l a - i = m + 1 := ⟨Ms l a - i - 1, by omega⟩
      rw [hm', wkR] at hw
      by_cases hto : tt ≤ l.length
      · have d2 : decide ((tt : Int) ≤ (l.length : Int)) = true := decide_eq_true (by omega)
        rw [if_pos hto] at hw
        have e1 : endV l (tt : Int) = (eR l tt : Int) := by rw [endV, Int.toNat_natCast]
        have c1 : (tt : Int) ≤ 1000000 := by omega
        have c2 : l.length ≤ tt + D := by omega
        have c0 : (0 : Int) ≤ (tt : Int) := by omega
        have hb : tt ≤ eR l tt ∧ eR l tt ≤ l.length + 1 := by
          rcases Nat.lt_or_ge tt l.length with h1 | h1
          · have := EndR_gt (M := Ms l) hFi h1
            simp only [eR]; omega
          · rw [eR, EndR_out h1]; omega
        simp (maxSteps := 10000000) only [En.E, En.evsC, List.map_cons, List.map_nil, Nat.reduceBEq, Nat.reduceAdd, Nat.reduceMul, Nat.reduceEqDiff, Nat.reduceLeDiff, Nat.reduceLT, ne_eq, reduceCtorEq, Int.reduceBEq, Int.reduceBNe, Int.reduceAdd, Int.reduceSub, Int.reduceMul, Int.reduceNeg, Nat.reduceBNe, Int.reduceToNat, Nat.reduceSub, Int.reduceLE, Int.reduceLT, En.vV, hs, hv, hT, hG, hF, enI, rdH, d1, d2, i2, cut_ndC, spMany_c, hM, spEndN_q, NdR_q, chL_q, hg, c0, c1, c2, e1, g1, g2, hA, Int.toNat_natCast]
        exact ⟨⟨(i + 1, eR l tt), by simp only; omega, by simp only; omega, by simp only; omega, by simp only; rw [show Ms l a - (i + 1) = m by omega]; exact hw⟩, (sle_all [1000] (by decide) (by simp only [En.E, En.evsC, List.map_cons, List.map_nil, Nat.reduceBEq, Nat.reduceAdd, Nat.reduceMul, Nat.reduceEqDiff, Nat.reduceLeDiff, Nat.reduceLT, ne_eq, reduceCtorEq, Int.reduceBEq, Int.reduceBNe, Int.reduceAdd, Int.reduceSub, Int.reduceMul, Int.reduceNeg, Nat.reduceBNe, Int.reduceToNat, Nat.reduceSub, Int.reduceLE, Int.reduceLT, En.slLe, En.hpLe, En.chE, En.allLt, enI, rdH, Int.natCast_add, Int.cast_ofNat_Int])), by simp only; omega⟩
      · have d2 : decide ((tt : Int) ≤ (l.length : Int)) = false := decide_eq_false (by omega)
        rw [if_neg hto] at hw
        subst hw
        simp (maxSteps := 10000000) only [En.E, En.evsC, List.map_cons, List.map_nil, Nat.reduceBEq, Nat.reduceAdd, Nat.reduceMul, Nat.reduceEqDiff, Nat.reduceLeDiff, Nat.reduceLT, ne_eq, reduceCtorEq, Int.reduceBEq, Int.reduceBNe, Int.reduceAdd, Int.reduceSub, Int.reduceMul, Int.reduceNeg, Nat.reduceBNe, Int.reduceToNat, Nat.reduceSub, Int.reduceLE, Int.reduceLT, En.vV, hs, hv, hT, hG, hF, enI, rdH, d1, d2, i2, cut_ndC, spMany_c, hM, g1, g2, hA, Int.toNat_natCast]
    · have d1 : decide ((i : Int) < (Ms l a : Int)) = false := decide_eq_false (by omega)
      rw [show Ms l a - i = 0 by omega, wkR] at hw
      subst hw
      simp (maxSteps := 10000000) only [En.E, En.evsC, List.map_cons, List.map_nil, Nat.reduceBEq, Nat.reduceAdd, Nat.reduceMul, Nat.reduceEqDiff, Nat.reduceLeDiff, Nat.reduceLT, ne_eq, reduceCtorEq, Int.reduceBEq, Int.reduceBNe, Int.reduceAdd, Int.reduceSub, Int.reduceMul, Int.reduceNeg, Nat.reduceBNe, Int.reduceToNat, Nat.reduceSub, Int.reduceLE, Int.reduceLT, En.vV, hs, hv, hT, hG, hF, enI, rdH, d1, i2, cut_ndC, spMany_c, hM, g1, g2, hA, Int.toNat_natCast]
theorem spEndN_ok : ∀ D, SpecOk Tryz.prog 42 (spEndN D) := by
  have run1 : ∀ D, (∀ (l : List Nd), Good l → ∀ a : Nat, a < l.length → l.length ≤ a + D → ∀ (A : Option Addr) (c : Nat) (w : World), allRd w.heap.size w (rdH l A c) →
      Calls Tryz.prog 42 #[.slice A l.length c, .int .i64 a] w fun e w' => e = .returned (.int .i64 (endV l a)) ∧ Below w.heap.size w w') → SpecOk Tryz.prog 42 (spEndN D) := by
    intro D hin args hp nx w0 O w H hv
    unfold spEndN at hv ⊢
    split at hv
    · next k A n c a =>
      obtain ⟨h1, hg, ha0, ha1, hD⟩ := hv
      obtain ⟨hl, hh⟩ := NdR_hold h1 (H.hold k)
      generalize chL n (lookH hp k) = l at hl hh hg ⊢
      subst hl
      obtain ⟨a, rfl⟩ : ∃ b : Nat, a = (b : Int) := ⟨a.toNat, by omega⟩
      rw [Int.toNat_natCast] at hD
      rcases Nat.lt_or_ge a l.length with hlt | hge
      · refine (hin l hg a hlt hD A c w ⟨⟨hh _, rfl⟩, trivial⟩).mono ?_
        rintro e w' ⟨rfl, hb⟩
        exact ⟨⟨0, none, 0, none, 0, mz⟩, rfl, .still hb⟩
      · refine (end_out l hg a hge A c w ⟨⟨hh _, rfl⟩, trivial⟩).mono ?_
        rintro e w' ⟨rfl, hb⟩
        exact ⟨⟨0, none, 0, none, 0, mz⟩, rfl, .still hb⟩
    · exact hv.elim
  intro D
  induction D with
  | zero => exact run1 0 fun l hg a ha hD => absurd ha (by omega)
  | succ D ih => exact run1 (D + 1) fun l hg a ha hD A c w h => end_in D (lG_cons (by kernel_rfl) spMany_ok <| lG_cons (by kernel_rfl) ih lG_nil) l hg a ha hD A c w h
def spEnd : Spc
  | [.g k A n c, .v (.int .i64 a)], H, _ => .is (NdR A n c (H k) ∧ Good (chL n (H k)) ∧ 0 ≤ a ∧ a ≤ 1000000) (.v (.int .i64 (endV (chL n (H k)) a)))
  | _, _, _ => .bad
theorem spEnd_q {k n c : Nat} {A : Option Addr} {a : Int} {H : Nat → Ch} {nx : Nat} : spEnd [.g k A n c, .v (.int .i64 a)] H nx = .is (NdR A n c (H k) ∧ Good (chL n (H k)) ∧ 0 ≤ a ∧ a ≤ 1000000) (.v (.int .i64 (endV (chL n (H k)) a))) := rfl
theorem spEnd_ok : SpecOk Tryz.prog 42 spEnd := by
  intro args hp nx w0 O w H hv
  unfold spEnd at hv ⊢
  split at hv
  · next nx k A n c a =>
    obtain ⟨h1, hg, ha0, ha1⟩ := hv
    exact spEndN_ok n [.g k A n c, .v (.int .i64 a)] hp nx w0 O w H ⟨h1, hg, ha0, ha1, by omega⟩
  · exact hv.elim
def kidI (l : List Nd) (i : Nat) : List Int := (kidsR l.length (Ms l) (Ks l) i).map fun p : Nat => (p : Int)
def glKid : List (FuncId × Spc) := [(71, spMany), (42, spEnd)]
theorem glKid_ok : GOk Tryz.prog (lookG glKid) := lG_cons (by kernel_rfl) spMany_ok <| lG_cons (by kernel_rfl) spEnd_ok lG_nil
def KidP (xs : List Int) (s : SS) (ys : List SV) : Prop := (xs = [] ∧ ys = [.v (.slice none 0 0)]) ∨ ∃ k A c e, ys = [.g k A xs.length c] ∧ lookH s.hp k = .rowV A c e 1 xs.length (xs.map fun x => .v (.int .i64 x))
set_option maxRecDepth 100000 in
set_option maxHeartbeats 4000000 in
theorem kids_any (l : List Nd) (hg : Good l) (a : Nat) (ha : a < l.length) (A : Option Addr) (c : Nat) (w : World) (h : allRd w.heap.size w (rdH l A c)) :
    Calls Tryz.prog 55 #[.slice A l.length c, .int .i64 a] w fun e w' => ∃ B d, e = .returned (.slice B (kidI l a).length d) ∧ Below w.heap.size w w' ∧ Hold w.heap.size w' (.ints B d .i64 (kidI l a)) ∧ (kidI l a ≠ [] → ∀ x, B = some x → w.heap.size ≤ x.block) := by
  have hlen := hg.len
  have hFi := hg.fine
  obtain ⟨q, hq⟩ : ∃ q, q = kidI l a := ⟨_, rfl⟩
  rw [← hq]
  have i1 : inr .i64 ((a : Int) + 1) := by simp only [En.inr, En.lo, En.hi]; omega
  have g1 : (0 : Int) ≤ a ∧ (a : Int) < l.length := by omega
  have g2 : (0 : Int) ≤ a ∧ a < l.length := by omega
  have hA : ¬A = none := slok_some h.1.1.1 (by omega)
  refine calls_go (args := [.g 1000 A l.length c, .v (.int .i64 a)]) (hp := rdH l A c) (nx := 1001) (n := 1000) (U := [(4, 3), (1000000, 27)]) (V := []) (tl := tlRe) (gl := glKid) (post := KidP q)
    followP tlRe_ok glKid_ok Tryz.func55 rfl (by kernel_rfl) (Nat.le_of_ble_eq_true (by kernel_rfl)) (by kernel_rfl) (by kernel_rfl) (hh_list h) (free_list (by simp [allLt, rdH])) ?_ ?_
  · rintro s ys w' (⟨hx, rfl⟩ | ⟨k, B, d, e, rfl, hk⟩) H
    · subst hx
      exact ⟨none, 0, rfl, H.below, ⟨Nat.le_refl 0, fun hn => absurd rfl hn⟩, fun hn => absurd rfl hn⟩
    · have hh := hk ▸ H.hold k
      refine ⟨B, d, rfl, H.below, (row_sl hh).congr fun i hi j hj => ?_, fun _ x hx => (World.ownsRow.lt hh x.block (row_own ⟨x, hx, rfl⟩)).1⟩
      obtain rfl : j = 0 := by omega
      simp [dens_eq, List.getD_eq_getElem?_getD, hi, den]
  intro L F T G nd va hE
  obtain ⟨hL, hF, hs, hv, hT, hG, hR, hI, hJ, hW⟩ := hE
  rw [Tryz.results55] at hF
  simp (maxSteps := 1000000) only [En.nN, En.E, En.evsC, List.map_cons, List.map_nil, Nat.reduceBEq, Nat.reduceAdd, Nat.reduceMul, Nat.reduceEqDiff, Nat.reduceLeDiff, Nat.reduceLT, ne_eq, reduceCtorEq, Int.reduceBEq, Int.reduceBNe, Int.reduceAdd, Int.reduceSub, Int.reduceMul, Int.reduceNeg, Nat.reduceBNe, Int.reduceToNat, Nat.reduceSub, Int.reduceLE, Int.reduceLT] at hv
  simp only [En.at_nil, En.at_cons, En.ag_nil, En.ag_cons, and_true, tlRe, glKid, tyInt, tyI64, tyBool, tyStr, tyErr, tyNode, tyNodes, tyInts] at hT hG
  have hM := manyV_M hg ha
  have hK : Ms l a ≠ 0 → Ks l a = 0 := by
    intro hm
    refine if_neg fun h3 => hm ?_
    simp [Ms, Mn, opN, h3]
  have l0 : decide ((0 : Int) < 0) = false := rfl
  have l1 : decide ((0 : Int) < 1) = true := rfl
  have l2 : decide ((1 : Int) < 1) = false := rfl
  have l3 : decide ((0 : Int) < 2) = true := rfl
  have l4 : decide ((1 : Int) < 2) = true := rfl
  have l5 : decide ((2 : Int) < 2) = false := rfl
  have j1 : inr .i64 1 := by simp only [En.inr, En.lo, En.hi]; omega
  have j2 : inr .i64 2 := by simp only [En.inr, En.lo, En.hi]; omega
  have c1 : (a : Int) + 1 ≤ 1000000 := by omega
  have c0 : (0 : Int) ≤ (a : Int) + 1 := by omega
  have e1 : endV l ((a : Int) + 1) = (eR l (a + 1) : Int) := by rw [endV, show ((a : Int) + 1).toNat = a + 1 by omega]
  rw [kidI, kidsR] at hq
  rcases M_lt hg ha with hm | hm | hm
  · rw [hm] at hM hq
    simp (maxSteps := 10000000) only [En.E, En.evsC, List.map_cons, List.map_nil, Nat.reduceBEq, Nat.reduceAdd, Nat.reduceMul, Nat.reduceEqDiff, Nat.reduceLeDiff, Nat.reduceLT, ne_eq, reduceCtorEq, Int.reduceBEq, Int.reduceBNe, Int.reduceAdd, Int.reduceSub, Int.reduceMul, Int.reduceNeg, Nat.reduceBNe, Int.reduceToNat, Nat.reduceSub, Int.reduceLE, Int.reduceLT, En.vV, hs, hv, hT, hG, hF, rdH, i1, cut_ndC, spMany_c, hM, l0, g1, g2, hA, Int.toNat_natCast]
    exact .inl ⟨by rw [hq]; rfl, rfl⟩
  · rw [hm] at hM hq
    rw [hK (by omega)] at hq
    simp (maxSteps := 10000000) only [En.E, En.evsC, List.map_cons, List.map_nil, Nat.reduceBEq, Nat.reduceAdd, Nat.reduceMul, Nat.reduceEqDiff, Nat.reduceLeDiff, Nat.reduceLT, ne_eq, reduceCtorEq, Int.reduceBEq, Int.reduceBNe, Int.reduceAdd, Int.reduceSub, Int.reduceMul, Int.reduceNeg, Nat.reduceBNe, Int.reduceToNat, Nat.reduceSub, Int.reduceLE, Int.reduceLT, En.vV, hs, hv, hT, hG, hF, rdH, i1, cut_ndC, spMany_c, hM, l1, l2, j1, j2, g1, g2, hA, Int.toNat_natCast, spEnd_q, NdR_q, chL_q, hg, c0, c1, e1]
    have hq' : q = [(a : Int) + 1] := by rw [hq]; simp [plcR]
    subst hq'
    exact fun b A1 c1 => .inr ⟨1513, A1, c1, _, rfl, rfl⟩
  · rw [hm] at hM hq
    rw [hK (by omega)] at hq
    have hb : eR l (a + 1) ≤ l.length + 1 := by
      rcases Nat.lt_or_ge (a + 1) l.length with h1 | h1
      · exact (EndR_gt (M := Ms l) hFi h1).2
      · rw [eR, EndR_out h1]; omega
    have c2 : (eR l (a + 1) : Int) ≤ 1000000 := by omega
    have c3 : (0 : Int) ≤ (eR l (a + 1) : Int) := by omega
    simp (maxSteps := 10000000) only [En.E, En.evsC, List.map_cons, List.map_nil, Nat.reduceBEq, Nat.reduceAdd, Nat.reduceMul, Nat.reduceEqDiff, Nat.reduceLeDiff, Nat.reduceLT, ne_eq, reduceCtorEq, Int.reduceBEq, Int.reduceBNe, Int.reduceAdd, Int.reduceSub, Int.reduceMul, Int.reduceNeg, Nat.reduceBNe, Int.reduceToNat, Nat.reduceSub, Int.reduceLE, Int.reduceLT, En.vV, hs, hv, hT, hG, hF, rdH, i1, cut_ndC, spMany_c, hM, l3, l4, l5, j1, j2, g1, g2, hA, Int.toNat_natCast, spEnd_q, NdR_q, chL_q, hg, c0, c1, c2, c3, e1]
    have hq' : q = [(a : Int) + 1, (eR l (a + 1) : Int)] := by rw [hq]; simp [plcR, eR]
    subst hq'
    exact fun b A1 c1 b1 A2 c2 => .inr ⟨2537, A2, c2, _, rfl, rfl⟩
def spKids : Spc
  | [.g k A n c, .v (.int .i64 a)], H, nx => .val (NdR A n c (H k) ∧ Good (chL n (H k)) ∧ 0 ≤ a ∧ a < n) fun B d => (.g nx B (kidI (chL n (H k)) a.toNat).length d, [(nx, .ints B d .i64 (kidI (chL n (H k)) a.toNat))])
  | _, _, _ => .bad
theorem spKids_q {k n c : Nat} {A : Option Addr} {a : Int} {H : Nat → Ch} {nx : Nat} : spKids [.g k A n c, .v (.int .i64 a)] H nx = .val (NdR A n c (H k) ∧ Good (chL n (H k)) ∧ 0 ≤ a ∧ a < n) fun B d => (.g nx B (kidI (chL n (H k)) a.toNat).length d, [(nx, .ints B d .i64 (kidI (chL n (H k)) a.toNat))]) := rfl
theorem spKids_ok : SpecOk Tryz.prog 55 spKids := by
  intro args hp nx w0 O w H hv
  unfold spKids at hv ⊢
  split at hv
  · next nx k A n c a =>
    obtain ⟨h1, hg, ha0, ha1⟩ := hv
    obtain ⟨hl, hh⟩ := NdR_hold h1 (H.hold k)
    generalize chL n (lookH hp k) = l at hl hh hg ⊢
    subst hl
    obtain ⟨a, rfl⟩ : ∃ b : Nat, a = (b : Int) := ⟨a.toNat, by omega⟩
    rw [Int.toNat_natCast]
    refine (kids_any l hg a (by omega) A c w ⟨⟨hh _, rfl⟩, trivial⟩).mono ?_
    rintro e w' ⟨B, d, rfl, hb, hs, hf⟩
    refine ⟨⟨0, B, d, none, 0, mz⟩, rfl, Stp.rd hb ⟨⟨hs, rfl⟩, trivial⟩ fun k b' hx => .inl ?_⟩
    refine foot_look (Q := fun b => w.heap.size ≤ b) (l := [(_, _)]) ⟨?_, trivial⟩ hx
    rintro _ ⟨hne, x, h, rfl⟩; exact hf hne x h
  · exact hv.elim
end Pr
end Go.Proofs.YtpkldfkmokeamaaGreatDoor
/-
The reference's depth of a subtree (chapter 15).
-/
set_option linter.unusedSimpArgs false
set_option linter.unusedVariables false
namespace Go.Proofs.YtpkldfkmokeamaaGreatDoor
namespace Pr
open Go Go.RowKit En
open Ex
def dpV (l : List Nd) (i : Nat) : Nat := Dep l.length (Ms l) (Ks l) i
def spDepN (D : Nat) : Spc
  | [.g k A n c, .v (.int .i64 a)], H, _ => .is (NdR A n c (H k) ∧ Good (chL n (H k)) ∧ 0 ≤ a ∧ Whole n (Ms (chL n (H k))) (Ks (chL n (H k))) a.toNat ∧ n ≤ a.toNat + D) (.v (.int .i64 (dpV (chL n (H k)) a.toNat)))
  | _, _, _ => .bad
theorem spDepN_q {D k n c : Nat} {A : Option Addr} {a : Int} {H : Nat → Ch} {nx : Nat} : spDepN D [.g k A n c, .v (.int .i64 a)] H nx = .is (NdR A n c (H k) ∧ Good (chL n (H k)) ∧ 0 ≤ a ∧ Whole n (Ms (chL n (H k))) (Ks (chL n (H k))) a.toNat ∧ n ≤ a.toNat + D) (.v (.int .i64 (dpV (chL n (H k)) a.toNat))) := rfl
def glDep (D : Nat) : List (FuncId × Spc) := [(55, spKids), (43, spDepN D)]
theorem most_take {f : Nat → Nat} {l : List Nat} {i : Nat} (h : i < l.length) : most ((l.take (i + 1)).map f) = max (most ((l.take i).map f)) (f l[i]) := by
  rw [List.take_succ_eq_append_getElem h, List.map_append, most, List.foldl_append]; rfl
section
variable (l : List Nd) (A : Option Addr) (c a : Nat) (B : Option Addr) (d : Nat)
def deH : Hp := (1001, .ints B d .i64 (kidI l a)) :: rdH l A c
def deM (i : Nat) : Nat := most (((kidsR l.length (Ms l) (Ks l) a).take i).map (dpV l))
def deI (i : Nat) : SS := ⟨[(0, .g 1000 A l.length c), (5, .g 1001 B (kidI l a).length d), (6, .v (.int .i64 (deM l a i))), (7, .v (.int .i64 i))], deH l A c a B d, 3000⟩
end
theorem kidI_len (l : List Nd) (a : Nat) : (kidI l a).length = (kidsR l.length (Ms l) (Ks l) a).length := by simp [kidI]
theorem kidI_at {l : List Nd} {a i : Nat} (h : i < (kidsR l.length (Ms l) (Ks l) a).length) : (kidI l a).getD i 0 = ((kidsR l.length (Ms l) (Ks l) a)[i] : Int) := by
  simp [kidI, List.getD_eq_getElem?_getD, h]
set_option maxRecDepth 100000 in
set_option maxHeartbeats 4000000 in
theorem dep_in (D : Nat) (hG : GOk Tryz.prog (lookG (glDep D))) (l : List Nd) (hg : Good l) (a : Nat) (ha : Whole l.length (Ms l) (Ks l) a) (hD : l.length ≤ a + (D + 1)) (A : Option Addr) (c : Nat) (w : World) (h : allRd w.heap.size w (rdH l A c)) :
    Calls Tryz.prog 43 #[.slice A l.length c, .int .i64 a] w fun e w' => e = .returned (.int .i64 (dpV l a)) ∧ Below w.heap.size w w' := by
  have hlen := hg.len
  have hFi := hg.fine
  have hal := ha.lt
  have hk := ha.kids hFi
  have hrec := Dep_recR hFi ha
  obtain ⟨q, hq⟩ : ∃ q, q = dpV l a := ⟨_, rfl⟩
  rw [← hq]
  have c0 : (0 : Int) ≤ (a : Int) := by omega
  have c1 : (a : Int) < (l.length : Int) := by omega
  refine calls_go (args := [.g 1000 A l.length c, .v (.int .i64 a)]) (hp := rdH l A c) (nx := 1001) (n := 1000) (U := [(1000000, 30)]) (V := []) (tl := tlRe) (gl := glDep D) (post := fun s ys => ys = [.v (.int .i64 q)])
    followP tlRe_ok hG Tryz.func43 rfl (by kernel_rfl) (Nat.le_of_ble_eq_true (by kernel_rfl)) (by kernel_rfl) (by kernel_rfl) (hh_list h) (free_list (by simp [allLt, rdH])) ?_ ?_
  · rintro s ys w' rfl H
    exact ⟨rfl, H.below⟩
  intro L F T G nd va hE
  obtain ⟨hL, hF, hs, hv, hT, hG, hR, hI, hJ, hW⟩ := hE
  rw [Tryz.results43] at hF
  simp (maxSteps := 1000000) only [En.nN, En.E, En.evsC, List.map_cons, List.map_nil, Nat.reduceBEq, Nat.reduceAdd, Nat.reduceMul, Nat.reduceEqDiff, Nat.reduceLeDiff, Nat.reduceLT, ne_eq, reduceCtorEq, Int.reduceBEq, Int.reduceBNe, Int.reduceAdd, Int.reduceSub, Int.reduceMul, Int.reduceNeg, Nat.reduceBNe, Int.reduceToNat, Nat.reduceSub, Int.reduceLE, Int.reduceLT] at hv
  simp only [En.at_nil, En.at_cons, En.ag_nil, En.ag_cons, and_true, tlRe, glDep, tyInt, tyI64, tyBool, tyStr, tyErr, tyNode, tyNodes, tyInts] at hT hG
  simp (maxSteps := 10000000) only [En.E, En.evsC, List.map_cons, List.map_nil, Nat.reduceBEq, Nat.reduceAdd, Nat.reduceMul, Nat.reduceEqDiff, Nat.reduceLeDiff, Nat.reduceLT, ne_eq, reduceCtorEq, Int.reduceBEq, Int.reduceBNe, Int.reduceAdd, Int.reduceSub, Int.reduceMul, Int.reduceNeg, Nat.reduceBNe, Int.reduceToNat, Nat.reduceSub, Int.reduceLE, Int.reduceLT, En.vV, hs, hv, hT, hG, hF, rdH, spKids_q, NdR_q, chL_q, hg, c0, c1, Int.toNat_natCast]
  intro B d
  refine hI {i : Nat // i ≤ (kidsR l.length (Ms l) (Ks l) a).length} (fun x => deI l A c a B d x.1) (fun x => (kidsR l.length (Ms l) (Ks l) a).length - x.1) _ _ _
    ⟨0, Nat.zero_le _⟩ (sle_all [1001, 1000] (by decide) (by simp only [En.E, En.evsC, List.map_cons, List.map_nil, Nat.reduceBEq, Nat.reduceAdd, Nat.reduceMul, Nat.reduceEqDiff, Nat.reduceLeDiff, Nat.reduceLT, ne_eq, reduceCtorEq, Int.reduceBEq, Int.reduceBNe, Int.reduceAdd, Int.reduceSub, Int.reduceMul, Int.reduceNeg, Nat.reduceBNe, Int.reduceToNat, Nat.reduceSub, Int.reduceLE, Int.reduceLT, En.slLe, En.hpLe, En.chE, En.allLt, deI, deH, deM, rdH, List.take_zero, most, List.foldl_nil, Int.natCast_add, Int.cast_ofNat_Int])) ?_
  rintro ⟨i, hi⟩
  refine hR 1000 _ _ ?_
  have hle : (kidsR l.length (Ms l) (Ks l) a).length ≤ 2 := by
    rw [← hk.1, hk.2.2]; rcases M_lt hg hal with h | h | h <;> omega
  have i2 : inr .i64 ((i : Int) + 1) := by simp only [En.inr, En.lo, En.hi]; omega
  by_cases hlt : i < (kidsR l.length (Ms l) (Ks l) a).length
  · have d1 : decide ((i : Int) < ((kidI l a).length : Int)) = true := by rw [kidI_len]; exact decide_eq_true (by omega)
    obtain ⟨p, hp⟩ : ∃ p, p = (kidsR l.length (Ms l) (Ks l) a)[i] := ⟨_, rfl⟩
    have hpm : p ∈ kidsP l.length (Ms l) (Ks l) a := by rw [hk.1, hp]; exact List.getElem_mem hlt
    have hw := hk.2.1 p hpm
    have hin := kidsP_in hFi hpm
    have e1 : (kidI l a).getD i 0 = (p : Int) := by rw [kidI_at hlt, hp]
    have hmt : deM l a (i + 1) = max (deM l a i) (dpV l p) := by rw [deM, most_take hlt, ← hp]; rfl
    have g1 : (0 : Int) ≤ i ∧ (i : Int) < (kidI l a).length := by rw [kidI_len]; omega
    have g2 : (0 : Int) ≤ i ∧ i < (kidI l a).length := by rw [kidI_len]; omega
    have c2 : (0 : Int) ≤ (p : Int) := by omega
    have c3 : l.length ≤ p + D := by omega
    simp (maxSteps := 10000000) only [En.E, En.evsC, List.map_cons, List.map_nil, Nat.reduceBEq, Nat.reduceAdd, Nat.reduceMul, Nat.reduceEqDiff, Nat.reduceLeDiff, Nat.reduceLT, ne_eq, reduceCtorEq, Int.reduceBEq, Int.reduceBNe, Int.reduceAdd, Int.reduceSub, Int.reduceMul, Int.reduceNeg, Nat.reduceBNe, Int.reduceToNat, Nat.reduceSub, Int.reduceLE, Int.reduceLT, En.vV, hs, hv, hT, hG, hF, deI, deH, rdH, d1, i2, e1, g1, g2, spDepN_q, NdR_q, chL_q, hg, c2, c3, hw, Int.toNat_natCast]
    refine ⟨fun hd => ?_, fun hd => ?_⟩
    · have hd' := of_decide_eq_true hd
      have e3 : deM l a (i + 1) = dpV l p := by rw [hmt]; omega
      exact ⟨⟨i + 1, hlt⟩, (sle_all [1001, 1000] (by decide) (by simp only [En.E, En.evsC, List.map_cons, List.map_nil, Nat.reduceBEq, Nat.reduceAdd, Nat.reduceMul, Nat.reduceEqDiff, Nat.reduceLeDiff, Nat.reduceLT, ne_eq, reduceCtorEq, Int.reduceBEq, Int.reduceBNe, Int.reduceAdd, Int.reduceSub, Int.reduceMul, Int.reduceNeg, Nat.reduceBNe, Int.reduceToNat, Nat.reduceSub, Int.reduceLE, Int.reduceLT, En.slLe, En.hpLe, En.chE, En.allLt, deI, deH, rdH, e3, Int.natCast_add, Int.cast_ofNat_Int])), by simp only; omega⟩
    · have hd' := of_decide_eq_false hd
      have e3 : deM l a (i + 1) = deM l a i := by rw [hmt]; omega
      exact ⟨⟨i + 1, hlt⟩, (sle_all [1001, 1000] (by decide) (by simp only [En.E, En.evsC, List.map_cons, List.map_nil, Nat.reduceBEq, Nat.reduceAdd, Nat.reduceMul, Nat.reduceEqDiff, Nat.reduceLeDiff, Nat.reduceLT, ne_eq, reduceCtorEq, Int.reduceBEq, Int.reduceBNe, Int.reduceAdd, Int.reduceSub, Int.reduceMul, Int.reduceNeg, Nat.reduceBNe, Int.reduceToNat, Nat.reduceSub, Int.reduceLE, Int.reduceLT, En.slLe, En.hpLe, En.chE, En.allLt, deI, deH, rdH, e3, Int.natCast_add, Int.cast_ofNat_Int])), by simp only; omega⟩
  · have d1 : decide ((i : Int) < ((kidI l a).length : Int)) = false := by rw [kidI_len]; exact decide_eq_false (by omega)
    obtain rfl : i = (kidsR l.length (Ms l) (Ks l) a).length := by omega
    have hm : deM l a (kidsR l.length (Ms l) (Ks l) a).length = most ((kidsR l.length (Ms l) (Ks l) a).map (dpV l)) := by rw [deM, List.take_length]
    have hqq : ((most ((kidsR l.length (Ms l) (Ks l) a).map (dpV l)) : Nat) : Int) + 1 = (q : Int) := by rw [hq, dpV, hrec]; rfl
    have i3 : inr .i64 (q : Int) := by
      have := Dep_le (M := Ms l) hFi _ a (Nat.le_refl _) hal
      simp only [En.inr, En.lo, En.hi, hq, dpV]; omega
    simp (maxSteps := 10000000) only [En.E, En.evsC, List.map_cons, List.map_nil, Nat.reduceBEq, Nat.reduceAdd, Nat.reduceMul, Nat.reduceEqDiff, Nat.reduceLeDiff, Nat.reduceLT, ne_eq, reduceCtorEq, Int.reduceBEq, Int.reduceBNe, Int.reduceAdd, Int.reduceSub, Int.reduceMul, Int.reduceNeg, Nat.reduceBNe, Int.reduceToNat, Nat.reduceSub, Int.reduceLE, Int.reduceLT, En.vV, hs, hv, hT, hG, hF, deI, deH, rdH, d1, hm, hqq, i3]
theorem spDepN_ok : ∀ D, SpecOk Tryz.prog 43 (spDepN D) := by
  have run1 : ∀ D, (∀ (l : List Nd), Good l → ∀ a : Nat, Whole l.length (Ms l) (Ks l) a → l.length ≤ a + D → ∀ (A : Option Addr) (c : Nat) (w : World), allRd w.heap.size w (rdH l A c) →
      Calls Tryz.prog 43 #[.slice A l.length c, .int .i64 a] w fun e w' => e = .returned (.int .i64 (dpV l a)) ∧ Below w.heap.size w w') → SpecOk Tryz.prog 43 (spDepN D) := by
    intro D hin args hp nx w0 O w H hv
    unfold spDepN at hv ⊢
    split at hv
    · next k A n c a =>
      obtain ⟨h1, hg, ha0, hwh, hD⟩ := hv
      obtain ⟨hl, hh⟩ := NdR_hold h1 (H.hold k)
      generalize chL n (lookH hp k) = l at hl hh hg hwh ⊢
      subst hl
      obtain ⟨a, rfl⟩ : ∃ b : Nat, a = (b : Int) := ⟨a.toNat, by omega⟩
      rw [Int.toNat_natCast] at hD hwh ⊢
      refine (hin l hg a hwh hD A c w ⟨⟨hh _, rfl⟩, trivial⟩).mono ?_
      rintro e w' ⟨rfl, hb⟩
      exact ⟨⟨0, none, 0, none, 0, mz⟩, rfl, .still hb⟩
    · exact hv.elim
  intro D
  induction D with
  | zero => exact run1 0 fun l hg a ha hD => absurd ha.lt (by omega)
  | succ D ih => exact run1 (D + 1) fun l hg a ha hD A c w h => dep_in D (lG_cons (by kernel_rfl) spKids_ok <| lG_cons (by kernel_rfl) ih lG_nil) l hg a ha hD A c w h
def spDep : Spc
  | [.g k A n c, .v (.int .i64 a)], H, _ => .is (NdR A n c (H k) ∧ Good (chL n (H k)) ∧ 0 ≤ a ∧ Whole n (Ms (chL n (H k))) (Ks (chL n (H k))) a.toNat) (.v (.int .i64 (dpV (chL n (H k)) a.toNat)))
  | _, _, _ => .bad
theorem spDep_q {k n c : Nat} {A : Option Addr} {a : Int} {H : Nat → Ch} {nx : Nat} : spDep [.g k A n c, .v (.int .i64 a)] H nx = .is (NdR A n c (H k) ∧ Good (chL n (H k)) ∧ 0 ≤ a ∧ Whole n (Ms (chL n (H k))) (Ks (chL n (H k))) a.toNat) (.v (.int .i64 (dpV (chL n (H k)) a.toNat))) := rfl
theorem spDep_ok : SpecOk Tryz.prog 43 spDep := by
  intro args hp nx w0 O w H hv
  unfold spDep at hv ⊢
  split at hv
  · next nx k A n c a =>
    obtain ⟨h1, hg, ha0, ha1⟩ := hv
    exact spDepN_ok n [.g k A n c, .v (.int .i64 a)] hp nx w0 O w H ⟨h1, hg, ha0, ha1, by omega⟩
  · exact hv.elim
def lsI (l : List Nd) (A : Option Addr) (c a i : Nat) : SS := ⟨[(0, .g 1000 A l.length c), (1, .v (.int .i64 a)), (5, .v (.int .i64 i))], rdH l A c, 3000⟩
set_option maxRecDepth 100000 in
set_option maxHeartbeats 4000000 in
theorem listed_any (l : List Nd) (hlen : l.length ≤ 100000) (a : Nat) (ha : a < l.length) (h3 : (ndAt l a).k = 3) (hc : 0 ≤ (ndAt l a).c ∧ (ndAt l a).c < 400) (A : Option Addr) (c : Nat) (w : World) (h : allRd w.heap.size w (rdH l A c)) :
    Calls Tryz.prog 41 #[.slice A l.length c, .int .i64 a] w fun e w' => e = .returned (.bool (!badL l a)) ∧ Below w.heap.size w w' := by
  obtain ⟨q, hq⟩ : ∃ q, q = badL l a := ⟨_, rfl⟩
  rw [← hq]
  have hK : (ndAt l a).c = (Ks l a : Int) := by simp only [Ks, Kn, if_pos h3]; omega
  have hk3 : ((ndAt l a).k == 3) = true := by rw [h3]; rfl
  have hKb : Ks l a < 400 := by omega
  rw [badL, hk3, Bool.true_and] at hq
  have i1 : inr .i64 ((a : Int) + 1) := by simp only [En.inr, En.lo, En.hi]; omega
  have i3 : inr .i64 ((a : Int) + (Ks l a : Int)) := by simp only [En.inr, En.lo, En.hi]; omega
  have g1 : (0 : Int) ≤ a ∧ (a : Int) < l.length := by omega
  have g2 : (0 : Int) ≤ a ∧ a < l.length := by omega
  have hA : ¬A = none := slok_some h.1.1.1 (by omega)
  refine calls_go (args := [.g 1000 A l.length c, .v (.int .i64 a)]) (hp := rdH l A c) (nx := 1001) (n := 1000) (U := [(1000000, 31)]) (V := []) (tl := tlRe) (gl := gl0) (post := fun s ys => ys = [.v (.bool (!q))])
    followP tlRe_ok gl0_ok Tryz.func41 rfl (by kernel_rfl) (Nat.le_of_ble_eq_true (by kernel_rfl)) (by kernel_rfl) (by kernel_rfl) (hh_list h) (free_list (by simp [allLt, rdH])) ?_ ?_
  · rintro s ys w' rfl H
    exact ⟨rfl, H.below⟩
  intro L F T G nd va hE
  obtain ⟨hL, hF, hs, hv, hT, hG, hR, hI, hJ, hW⟩ := hE
  rw [Tryz.results41] at hF
  simp (maxSteps := 1000000) only [En.nN, En.E, En.evsC, List.map_cons, List.map_nil, Nat.reduceBEq, Nat.reduceAdd, Nat.reduceMul, Nat.reduceEqDiff, Nat.reduceLeDiff, Nat.reduceLT, ne_eq, reduceCtorEq, Int.reduceBEq, Int.reduceBNe, Int.reduceAdd, Int.reduceSub, Int.reduceMul, Int.reduceNeg, Nat.reduceBNe, Int.reduceToNat, Nat.reduceSub, Int.reduceLE, Int.reduceLT] at hv
  simp only [En.at_nil, En.at_cons, En.ag_nil, En.ag_cons, and_true, tlRe, gl0, tyInt, tyI64, tyBool, tyStr, tyErr, tyNode, tyNodes, tyInts] at hT hG
  simp (maxSteps := 10000000) only [En.E, En.evsC, List.map_cons, List.map_nil, Nat.reduceBEq, Nat.reduceAdd, Nat.reduceMul, Nat.reduceEqDiff, Nat.reduceLeDiff, Nat.reduceLT, ne_eq, reduceCtorEq, Int.reduceBEq, Int.reduceBNe, Int.reduceAdd, Int.reduceSub, Int.reduceMul, Int.reduceNeg, Nat.reduceBNe, Int.reduceToNat, Nat.reduceSub, Int.reduceLE, Int.reduceLT, En.vV, hs, hv, hT, hG, hF, rdH, i1]
  refine hI {i : Nat // a + 1 ≤ i ∧ i ≤ a + Ks l a + 1 ∧ ∀ j, j < i - (a + 1) → a + 1 + j < l.length ∧ (ndAt l (a + 1 + j)).k = 1} (fun x => lsI l A c a x.1) (fun x => a + Ks l a + 1 - x.1) _ _ _
    ⟨a + 1, Nat.le_refl _, by omega, fun j hj => absurd hj (by omega)⟩ (sle_all [1000] (by decide) (by simp only [En.E, En.evsC, List.map_cons, List.map_nil, Nat.reduceBEq, Nat.reduceAdd, Nat.reduceMul, Nat.reduceEqDiff, Nat.reduceLeDiff, Nat.reduceLT, ne_eq, reduceCtorEq, Int.reduceBEq, Int.reduceBNe, Int.reduceAdd, Int.reduceSub, Int.reduceMul, Int.reduceNeg, Nat.reduceBNe, Int.reduceToNat, Nat.reduceSub, Int.reduceLE, Int.reduceLT, En.slLe, En.hpLe, En.chE, En.allLt, lsI, rdH, Int.natCast_add, Int.cast_ofNat_Int])) ?_
  rintro ⟨i, hi0, hi1, hp⟩
  refine hR 1000 _ _ ?_
  have i2 : inr .i64 ((i : Int) + 1) := by simp only [En.inr, En.lo, En.hi]; omega
  by_cases hlt : i ≤ a + Ks l a
  · have d1 : decide ((i : Int) ≤ (a : Int) + (Ks l a : Int)) = true := decide_eq_true (by omega)
    by_cases hil : l.length ≤ i
    · have d2 : decide ((i : Int) ≥ (l.length : Int)) = true := decide_eq_true (by omega)
      have hqq : q = true := by rw [hq, decide_eq_true (show l.length ≤ a + Ks l a by omega)]; rfl
      simp (maxSteps := 10000000) only [En.E, En.evsC, List.map_cons, List.map_nil, Nat.reduceBEq, Nat.reduceAdd, Nat.reduceMul, Nat.reduceEqDiff, Nat.reduceLeDiff, Nat.reduceLT, ne_eq, reduceCtorEq, Int.reduceBEq, Int.reduceBNe, Int.reduceAdd, Int.reduceSub, Int.reduceMul, Int.reduceNeg, Nat.reduceBNe, Int.reduceToNat, Nat.reduceSub, Int.reduceLE, Int.reduceLT, En.vV, hs, hv, hT, hG, hF, lsI, rdH, d1, d2, ndC, hK, i3, g1, g2, hA, Int.toNat_natCast, hqq]
    · have d2 : decide ((i : Int) ≥ (l.length : Int)) = false := decide_eq_false (by omega)
      have g3 : (0 : Int) ≤ i ∧ (i : Int) < l.length := by omega
      have g4 : (0 : Int) ≤ i ∧ i < l.length := by omega
      by_cases h1 : (ndAt l i).k = 1
      · have d3 : ((ndAt l i).k != 1) = false := by simp [h1]
        simp (maxSteps := 10000000) only [En.E, En.evsC, List.map_cons, List.map_nil, Nat.reduceBEq, Nat.reduceAdd, Nat.reduceMul, Nat.reduceEqDiff, Nat.reduceLeDiff, Nat.reduceLT, ne_eq, reduceCtorEq, Int.reduceBEq, Int.reduceBNe, Int.reduceAdd, Int.reduceSub, Int.reduceMul, Int.reduceNeg, Nat.reduceBNe, Int.reduceToNat, Nat.reduceSub, Int.reduceLE, Int.reduceLT, En.vV, hs, hv, hT, hG, hF, lsI, rdH, d1, d2, d3, ndC, hK, i2, i3, g1, g2, g3, g4, hA, Int.toNat_natCast]
        refine ⟨⟨i + 1, by omega, by omega, fun j hj => ?_⟩, (sle_all [1000] (by decide) (by simp only [En.E, En.evsC, List.map_cons, List.map_nil, Nat.reduceBEq, Nat.reduceAdd, Nat.reduceMul, Nat.reduceEqDiff, Nat.reduceLeDiff, Nat.reduceLT, ne_eq, reduceCtorEq, Int.reduceBEq, Int.reduceBNe, Int.reduceAdd, Int.reduceSub, Int.reduceMul, Int.reduceNeg, Nat.reduceBNe, Int.reduceToNat, Nat.reduceSub, Int.reduceLE, Int.reduceLT, En.slLe, En.hpLe, En.chE, En.allLt, lsI, rdH, ndC, Int.natCast_add, Int.cast_ofNat_Int])), by simp only; omega⟩
        by_cases e : j = i - (a + 1)
        · subst e
          rw [show a + 1 + (i - (a + 1)) = i by omega]
          exact ⟨by omega, h1⟩
        · exact hp j (by omega)
      · have d3 : ((ndAt l i).k != 1) = true := by simp [h1]
        have hqq : q = true := by
          rw [hq, Bool.or_eq_true]
          refine .inr (List.any_eq_true.2 ⟨i - (a + 1), List.mem_range.2 (by omega), ?_⟩)
          rw [show a + 1 + (i - (a + 1)) = i by omega]; exact d3
        simp (maxSteps := 10000000) only [En.E, En.evsC, List.map_cons, List.map_nil, Nat.reduceBEq, Nat.reduceAdd, Nat.reduceMul, Nat.reduceEqDiff, Nat.reduceLeDiff, Nat.reduceLT, ne_eq, reduceCtorEq, Int.reduceBEq, Int.reduceBNe, Int.reduceAdd, Int.reduceSub, Int.reduceMul, Int.reduceNeg, Nat.reduceBNe, Int.reduceToNat, Nat.reduceSub, Int.reduceLE, Int.reduceLT, En.vV, hs, hv, hT, hG, hF, lsI, rdH, d1, d2, d3, ndC, hK, i2, i3, g1, g2, g3, g4, hA, Int.toNat_natCast, hqq]
  · have d1 : decide ((i : Int) ≤ (a : Int) + (Ks l a : Int)) = false := decide_eq_false (by omega)
    have hqq : q = false := by
      rw [hq, Bool.or_eq_false_iff]
      refine ⟨decide_eq_false ?_, List.any_eq_false.2 fun j hj => ?_⟩
      · by_cases hz : Ks l a = 0
        · omega
        · have := (hp (Ks l a - 1) (by omega)).1
          omega
      · have := (hp j (by have := List.mem_range.1 hj; omega)).2
        simp [this]
    simp (maxSteps := 10000000) only [En.E, En.evsC, List.map_cons, List.map_nil, Nat.reduceBEq, Nat.reduceAdd, Nat.reduceMul, Nat.reduceEqDiff, Nat.reduceLeDiff, Nat.reduceLT, ne_eq, reduceCtorEq, Int.reduceBEq, Int.reduceBNe, Int.reduceAdd, Int.reduceSub, Int.reduceMul, Int.reduceNeg, Nat.reduceBNe, Int.reduceToNat, Nat.reduceSub, Int.reduceLE, Int.reduceLT, En.vV, hs, hv, hT, hG, hF, lsI, rdH, d1, ndC, hK, i3, g1, g2, hA, Int.toNat_natCast, hqq]
def spLsd : Spc
  | [.g k A n c, .v (.int .i64 a)], H, _ => .is (NdR A n c (H k) ∧ n ≤ 100000 ∧ 0 ≤ a ∧ a < n ∧ (ndAt (chL n (H k)) a.toNat).k = 3 ∧ 0 ≤ (ndAt (chL n (H k)) a.toNat).c ∧ (ndAt (chL n (H k)) a.toNat).c < 400) (.v (.bool (!badL (chL n (H k)) a.toNat)))
  | _, _, _ => .bad
theorem spLsd_q {k n c : Nat} {A : Option Addr} {a : Int} {H : Nat → Ch} {nx : Nat} : spLsd [.g k A n c, .v (.int .i64 a)] H nx = .is (NdR A n c (H k) ∧ n ≤ 100000 ∧ 0 ≤ a ∧ a < n ∧ (ndAt (chL n (H k)) a.toNat).k = 3 ∧ 0 ≤ (ndAt (chL n (H k)) a.toNat).c ∧ (ndAt (chL n (H k)) a.toNat).c < 400) (.v (.bool (!badL (chL n (H k)) a.toNat))) := rfl
theorem spLsd_ok : SpecOk Tryz.prog 41 spLsd := by
  intro args hp nx w0 O w H hv
  unfold spLsd at hv ⊢
  split at hv
  · next k A n c a =>
    obtain ⟨h1, hn, ha0, ha1, hk, hc⟩ := hv
    obtain ⟨hl, hh⟩ := NdR_hold h1 (H.hold k)
    generalize chL n (lookH hp k) = l at hl hh hk hc ⊢
    subst hl
    obtain ⟨a, rfl⟩ : ∃ b : Nat, a = (b : Int) := ⟨a.toNat, by omega⟩
    rw [Int.toNat_natCast] at hk hc ⊢
    refine (listed_any l hn a (by omega) hk hc A c w ⟨⟨hh _, rfl⟩, trivial⟩).mono ?_
    rintro e w' ⟨rfl, hb⟩
    exact ⟨⟨0, none, 0, none, 0, mz⟩, rfl, .still hb⟩
  · exact hv.elim
end Pr
end Go.Proofs.YtpkldfkmokeamaaGreatDoor
/-
The reference's Check of an expression (chapter 15).
-/
set_option linter.unusedSimpArgs false
set_option linter.unusedVariables false
namespace Go.Proofs.YtpkldfkmokeamaaGreatDoor
namespace Pr
open Go Go.RowKit En
open Ex
def glRc : List (FuncId × Spc) := [(40, spWrong), (41, spLsd), (42, spEnd), (43, spDep)]
theorem glRc_ok : GOk Tryz.prog (lookG glRc) := lG_cons (by kernel_rfl) spWrong_ok <| lG_cons (by kernel_rfl) spLsd_ok <| lG_cons (by kernel_rfl) spEnd_ok <| lG_cons (by kernel_rfl) spDep_ok lG_nil
section
variable (l : List Nd) (A : Option Addr) (c : Nat)
def rcI (i : Nat) : SS := ⟨[(0, .g 1000 A l.length c), (4, .v (.int .i64 i))], rdH l A c, 3000⟩
def rcJ (i : Nat) : SS := ⟨[(0, .g 1000 A l.length c), (6, .v (.int .i64 i))], rdH l A c, 3000⟩
end
set_option maxRecDepth 100000 in
set_option maxHeartbeats 4000000 in
theorem rcheck_any (l : List Nd) (hlen : l.length ≤ 100000) (hz : zsN l) (A : Option Addr) (c : Nat) (w : World) (h : allRd w.heap.size w (rdH l A c)) :
    Calls Tryz.prog 14 #[.slice A l.length c] w fun e w' => e = .returned (.tuple #[.int .i64 (chkV l).1, .int .i64 (chkV l).2]) ∧ Below w.heap.size w w' := by
  obtain ⟨q, hq⟩ : ∃ q, q = chkV l := ⟨_, rfl⟩
  rw [← hq]
  refine calls_go (args := [.g 1000 A l.length c]) (hp := rdH l A c) (nx := 1001) (n := 2000) (U := [(1000000, 64)]) (V := []) (tl := tlRe) (gl := glRc) (post := fun s ys => ys = [.v (.int .i64 q.1), .v (.int .i64 q.2)])
    followP tlRe_ok glRc_ok Tryz.func14 rfl (by kernel_rfl) (Nat.le_of_ble_eq_true (by kernel_rfl)) (by kernel_rfl) (by kernel_rfl) (hh_list h) (free_list (by simp [allLt, rdH])) ?_ ?_
  · rintro s ys w' rfl H
    exact ⟨rfl, H.below⟩
  intro L F T G nd va hE
  obtain ⟨hL, hF, hs, hv, hT, hG, hR, hI, hJ, hW⟩ := hE
  rw [Tryz.results14] at hF
  simp (maxSteps := 1000000) only [En.nN, En.E, En.evsC, List.map_cons, List.map_nil, Nat.reduceBEq, Nat.reduceAdd, Nat.reduceMul, Nat.reduceEqDiff, Nat.reduceLeDiff, Nat.reduceLT, ne_eq, reduceCtorEq, Int.reduceBEq, Int.reduceBNe, Int.reduceAdd, Int.reduceSub, Int.reduceMul, Int.reduceNeg, Nat.reduceBNe, Int.reduceToNat, Nat.reduceSub, Int.reduceLE, Int.reduceLT] at hv
  simp only [En.at_nil, En.at_cons, En.ag_nil, En.ag_cons, and_true, tlRe, glRc, tyInt, tyI64, tyBool, tyStr, tyErr, tyNode, tyNodes, tyInts] at hT hG
  by_cases h0 : l.length = 0
  · have d0 : ((l.length : Int) == 0) = true := by rw [h0]; rfl
    rw [chk0 h0] at hq
    simp (maxSteps := 10000000) only [En.E, En.evsC, List.map_cons, List.map_nil, Nat.reduceBEq, Nat.reduceAdd, Nat.reduceMul, Nat.reduceEqDiff, Nat.reduceLeDiff, Nat.reduceLT, ne_eq, reduceCtorEq, Int.reduceBEq, Int.reduceBNe, Int.reduceAdd, Int.reduceSub, Int.reduceMul, Int.reduceNeg, Nat.reduceBNe, Int.reduceToNat, Nat.reduceSub, Int.reduceLE, Int.reduceLT, En.vV, hs, hv, hT, hG, hF, rdH, d0, hq]
  have d0 : ((l.length : Int) == 0) = false := by rw [beq_eq_false_iff_ne]; omega
  by_cases h1 : 400 < l.length
  · have d1 : decide ((l.length : Int) > 400) = true := decide_eq_true (by omega)
    rw [chk1 h0 h1] at hq
    simp (maxSteps := 10000000) only [En.E, En.evsC, List.map_cons, List.map_nil, Nat.reduceBEq, Nat.reduceAdd, Nat.reduceMul, Nat.reduceEqDiff, Nat.reduceLeDiff, Nat.reduceLT, ne_eq, reduceCtorEq, Int.reduceBEq, Int.reduceBNe, Int.reduceAdd, Int.reduceSub, Int.reduceMul, Int.reduceNeg, Nat.reduceBNe, Int.reduceToNat, Nat.reduceSub, Int.reduceLE, Int.reduceLT, En.vV, hs, hv, hT, hG, hF, rdH, d0, d1, hq]
  have d1 : decide ((l.length : Int) > 400) = false := decide_eq_false (by omega)
  have hA : ¬A = none := slok_some h.1.1.1 (by omega)
  simp (maxSteps := 10000000) only [En.E, En.evsC, List.map_cons, List.map_nil, Nat.reduceBEq, Nat.reduceAdd, Nat.reduceMul, Nat.reduceEqDiff, Nat.reduceLeDiff, Nat.reduceLT, ne_eq, reduceCtorEq, Int.reduceBEq, Int.reduceBNe, Int.reduceAdd, Int.reduceSub, Int.reduceMul, Int.reduceNeg, Nat.reduceBNe, Int.reduceToNat, Nat.reduceSub, Int.reduceLE, Int.reduceLT, En.vV, hs, hv, hT, hG, hF, rdH, d0, d1]
  refine hI {i : Nat // i ≤ l.length ∧ ∀ j, j < i → faultV (ndAt l j) = 0} (fun x => rcI l A c x.1) (fun x => l.length - x.1) _ _ _ ⟨0, Nat.zero_le _, fun j hj => absurd hj (Nat.not_lt_zero j)⟩ (sle_all [1000] (by decide) (by simp only [En.E, En.evsC, List.map_cons, List.map_nil, Nat.reduceBEq, Nat.reduceAdd, Nat.reduceMul, Nat.reduceEqDiff, Nat.reduceLeDiff, Nat.reduceLT, ne_eq, reduceCtorEq, Int.reduceBEq, Int.reduceBNe, Int.reduceAdd, Int.reduceSub, Int.reduceMul, Int.reduceNeg, Nat.reduceBNe, Int.reduceToNat, Nat.reduceSub, Int.reduceLE, Int.reduceLT, En.slLe, En.hpLe, En.chE, En.allLt, rcI, rdH, Int.cast_ofNat_Int])) ?_
  rintro ⟨i, hi, hf⟩
  refine hR 2000 _ _ ?_
  by_cases hlt : i < l.length
  · have d2 : decide ((i : Int) < (l.length : Int)) = true := decide_eq_true (by omega)
    have i1 : inr .i64 ((i : Int) + 1) := by simp only [En.inr, En.lo, En.hi]; omega
    have g3 : (0 : Int) ≤ i ∧ (i : Int) < l.length := by omega
    have g4 : (0 : Int) ≤ i ∧ i < l.length := by omega
    obtain ⟨z1, z2⟩ := hz i hlt
    by_cases he : faultV (ndAt l i) = 0
    · have d3 : (faultV (ndAt l i) != 0) = false := by rw [he]; rfl
      simp (maxSteps := 10000000) only [En.E, En.evsC, List.map_cons, List.map_nil, Nat.reduceBEq, Nat.reduceAdd, Nat.reduceMul, Nat.reduceEqDiff, Nat.reduceLeDiff, Nat.reduceLT, ne_eq, reduceCtorEq, Int.reduceBEq, Int.reduceBNe, Int.reduceAdd, Int.reduceSub, Int.reduceMul, Int.reduceNeg, Nat.reduceBNe, Int.reduceToNat, Nat.reduceSub, Int.reduceLE, Int.reduceLT, En.vV, hs, hv, hT, hG, hF, rcI, rdH, d2, d3, i1, ndC, nd_eta, spWrong_q, z1, z2, g3, g4, hA, Int.toNat_natCast]
      refine ⟨⟨i + 1, by omega, fun j hj => ?_⟩, (sle_all [1000] (by decide) (by simp only [En.E, En.evsC, List.map_cons, List.map_nil, Nat.reduceBEq, Nat.reduceAdd, Nat.reduceMul, Nat.reduceEqDiff, Nat.reduceLeDiff, Nat.reduceLT, ne_eq, reduceCtorEq, Int.reduceBEq, Int.reduceBNe, Int.reduceAdd, Int.reduceSub, Int.reduceMul, Int.reduceNeg, Nat.reduceBNe, Int.reduceToNat, Nat.reduceSub, Int.reduceLE, Int.reduceLT, En.slLe, En.hpLe, En.chE, En.allLt, rcI, rdH, ndC, Int.natCast_add, Int.cast_ofNat_Int])), by simp only; omega⟩
      by_cases e : j = i
      · rw [e]; exact he
      · exact hf j (by omega)
    · have d3 : (faultV (ndAt l i) != 0) = true := by simpa using he
      rw [chk2 h0 h1 hlt hf he] at hq
      simp (maxSteps := 10000000) only [En.E, En.evsC, List.map_cons, List.map_nil, Nat.reduceBEq, Nat.reduceAdd, Nat.reduceMul, Nat.reduceEqDiff, Nat.reduceLeDiff, Nat.reduceLT, ne_eq, reduceCtorEq, Int.reduceBEq, Int.reduceBNe, Int.reduceAdd, Int.reduceSub, Int.reduceMul, Int.reduceNeg, Nat.reduceBNe, Int.reduceToNat, Nat.reduceSub, Int.reduceLE, Int.reduceLT, En.vV, hs, hv, hT, hG, hF, rcI, rdH, d2, d3, i1, ndC, nd_eta, spWrong_q, z1, z2, g3, g4, hA, Int.toNat_natCast, hq]
  · have d2 : decide ((i : Int) < (l.length : Int)) = false := decide_eq_false (by omega)
    obtain rfl : i = l.length := by omega
    simp (maxSteps := 10000000) only [En.E, En.evsC, List.map_cons, List.map_nil, Nat.reduceBEq, Nat.reduceAdd, Nat.reduceMul, Nat.reduceEqDiff, Nat.reduceLeDiff, Nat.reduceLT, ne_eq, reduceCtorEq, Int.reduceBEq, Int.reduceBNe, Int.reduceAdd, Int.reduceSub, Int.reduceMul, Int.reduceNeg, Nat.reduceBNe, Int.reduceToNat, Nat.reduceSub, Int.reduceLE, Int.reduceLT, En.vV, hs, hv, hT, hG, hF, rcI, rdH, d2]
    refine hI {i : Nat // i ≤ l.length ∧ ∀ j, j < i → badL l j = false} (fun x => rcJ l A c x.1) (fun x => l.length - x.1) _ _ _ ⟨0, Nat.zero_le _, fun j hj => absurd hj (Nat.not_lt_zero j)⟩ (sle_all [1000] (by decide) (by simp only [En.E, En.evsC, List.map_cons, List.map_nil, Nat.reduceBEq, Nat.reduceAdd, Nat.reduceMul, Nat.reduceEqDiff, Nat.reduceLeDiff, Nat.reduceLT, ne_eq, reduceCtorEq, Int.reduceBEq, Int.reduceBNe, Int.reduceAdd, Int.reduceSub, Int.reduceMul, Int.reduceNeg, Nat.reduceBNe, Int.reduceToNat, Nat.reduceSub, Int.reduceLE, Int.reduceLT, En.slLe, En.hpLe, En.chE, En.allLt, rcJ, rdH, Int.cast_ofNat_Int])) ?_
    rintro ⟨i, hi, hb⟩
    refine hR 2000 _ _ ?_
    by_cases hlt : i < l.length
    · have d2 : decide ((i : Int) < (l.length : Int)) = true := decide_eq_true (by omega)
      have i1 : inr .i64 ((i : Int) + 1) := by simp only [En.inr, En.lo, En.hi]; omega
      have g3 : (0 : Int) ≤ i ∧ (i : Int) < l.length := by omega
      have g4 : (0 : Int) ≤ i ∧ i < l.length := by omega
      have g5 : (0 : Int) ≤ i := by omega
      have g6 : (i : Int) < l.length := by omega
      by_cases h3 : (ndAt l i).k = 3
      · have d3 : ((ndAt l i).k == 3) = true := by rw [h3]; rfl
        obtain ⟨c0, c1⟩ := faultV_list (hf i hlt) h3
        cases hbi : badL l i with
        | true =>
          rw [chk3 h0 h1 hlt hf hb hbi] at hq
          simp (maxSteps := 10000000) only [En.E, En.evsC, List.map_cons, List.map_nil, Nat.reduceBEq, Nat.reduceAdd, Nat.reduceMul, Nat.reduceEqDiff, Nat.reduceLeDiff, Nat.reduceLT, ne_eq, reduceCtorEq, Int.reduceBEq, Int.reduceBNe, Int.reduceAdd, Int.reduceSub, Int.reduceMul, Int.reduceNeg, Nat.reduceBNe, Int.reduceToNat, Nat.reduceSub, Int.reduceLE, Int.reduceLT, En.vV, hs, hv, hT, hG, hF, rcJ, rdH, d2, d3, i1, ndC_n, g3, g4, g5, g6, hA, Int.toNat_natCast, spLsd_q, NdR_q, chL_q, hlen, h3, c0, c1, hbi, hq]
        | false =>
          simp (maxSteps := 10000000) only [En.E, En.evsC, List.map_cons, List.map_nil, Nat.reduceBEq, Nat.reduceAdd, Nat.reduceMul, Nat.reduceEqDiff, Nat.reduceLeDiff, Nat.reduceLT, ne_eq, reduceCtorEq, Int.reduceBEq, Int.reduceBNe, Int.reduceAdd, Int.reduceSub, Int.reduceMul, Int.reduceNeg, Nat.reduceBNe, Int.reduceToNat, Nat.reduceSub, Int.reduceLE, Int.reduceLT, En.vV, hs, hv, hT, hG, hF, rcJ, rdH, d2, d3, i1, ndC_n, g3, g4, g5, g6, hA, Int.toNat_natCast, spLsd_q, NdR_q, chL_q, hlen, h3, c0, c1, hbi]
          exact ⟨⟨i + 1, by omega, fun j hj => by
            by_cases e : j = i
            · rw [e]; exact hbi
            · exact hb j (by omega)⟩, (sle_all [1000] (by decide) (by simp only [En.E, En.evsC, List.map_cons, List.map_nil, Nat.reduceBEq, Nat.reduceAdd, Nat.reduceMul, Nat.reduceEqDiff, Nat.reduceLeDiff, Nat.reduceLT, ne_eq, reduceCtorEq, Int.reduceBEq, Int.reduceBNe, Int.reduceAdd, Int.reduceSub, Int.reduceMul, Int.reduceNeg, Nat.reduceBNe, Int.reduceToNat, Nat.reduceSub, Int.reduceLE, Int.reduceLT, En.slLe, En.hpLe, En.chE, En.allLt, rcJ, rdH, Int.natCast_add, Int.cast_ofNat_Int])), by simp only; omega⟩
      · have d3 : ((ndAt l i).k == 3) = false := by simpa using h3
        have hbi : badL l i = false := by rw [badL, d3]; rfl
        simp (maxSteps := 10000000) only [En.E, En.evsC, List.map_cons, List.map_nil, Nat.reduceBEq, Nat.reduceAdd, Nat.reduceMul, Nat.reduceEqDiff, Nat.reduceLeDiff, Nat.reduceLT, ne_eq, reduceCtorEq, Int.reduceBEq, Int.reduceBNe, Int.reduceAdd, Int.reduceSub, Int.reduceMul, Int.reduceNeg, Nat.reduceBNe, Int.reduceToNat, Nat.reduceSub, Int.reduceLE, Int.reduceLT, En.vV, hs, hv, hT, hG, hF, rcJ, rdH, d2, d3, i1, ndC_n, g3, g4, g5, g6, hA, Int.toNat_natCast, spLsd_q, NdR_q, chL_q, hlen, Bool.false_eq_true]
        exact ⟨⟨i + 1, by omega, fun j hj => by
          by_cases e : j = i
          · rw [e]; exact hbi
          · exact hb j (by omega)⟩, (sle_all [1000] (by decide) (by simp only [En.E, En.evsC, List.map_cons, List.map_nil, Nat.reduceBEq, Nat.reduceAdd, Nat.reduceMul, Nat.reduceEqDiff, Nat.reduceLeDiff, Nat.reduceLT, ne_eq, reduceCtorEq, Int.reduceBEq, Int.reduceBNe, Int.reduceAdd, Int.reduceSub, Int.reduceMul, Int.reduceNeg, Nat.reduceBNe, Int.reduceToNat, Nat.reduceSub, Int.reduceLE, Int.reduceLT, En.slLe, En.hpLe, En.chE, En.allLt, rcJ, rdH, Int.natCast_add, Int.cast_ofNat_Int])), by simp only; omega⟩
    · have d2 : decide ((i : Int) < (l.length : Int)) = false := decide_eq_false (by omega)
      obtain rfl : i = l.length := by omega
      have hgood := good_of (by omega) hf hb
      have hn0 : 0 < l.length := by omega
      rw [chk4 h0 h1 hf hb, lastV, last_same hgood.fine hn0, lastR, show EndR l.length (Ms l) (Ks l) 0 = eR l 0 from rfl] at hq
      have e1 : endV l 0 = (eR l 0 : Int) := rfl
      have c0 : (0 : Int) ≤ 0 := Int.le_refl 0
      have c1 : (0 : Int) ≤ 1000000 := by decide
      by_cases x1 : l.length < eR l 0
      · rw [if_pos x1] at hq
        have d3 : decide ((eR l 0 : Int) > (l.length : Int)) = true := decide_eq_true (by omega)
        simp (maxSteps := 10000000) only [En.E, En.evsC, List.map_cons, List.map_nil, Nat.reduceBEq, Nat.reduceAdd, Nat.reduceMul, Nat.reduceEqDiff, Nat.reduceLeDiff, Nat.reduceLT, ne_eq, reduceCtorEq, Int.reduceBEq, Int.reduceBNe, Int.reduceAdd, Int.reduceSub, Int.reduceMul, Int.reduceNeg, Nat.reduceBNe, Int.reduceToNat, Nat.reduceSub, Int.reduceLE, Int.reduceLT, En.vV, hs, hv, hT, hG, hF, rcJ, rdH, d2, d3, spEnd_q, NdR_q, chL_q, hgood, c0, c1, e1, hq, errC]
      · rw [if_neg x1] at hq
        have d3 : decide ((eR l 0 : Int) > (l.length : Int)) = false := decide_eq_false (by omega)
        by_cases x2 : eR l 0 < l.length
        · rw [if_pos x2] at hq
          have d4 : decide ((eR l 0 : Int) < (l.length : Int)) = true := decide_eq_true (by omega)
          simp (maxSteps := 10000000) only [En.E, En.evsC, List.map_cons, List.map_nil, Nat.reduceBEq, Nat.reduceAdd, Nat.reduceMul, Nat.reduceEqDiff, Nat.reduceLeDiff, Nat.reduceLT, ne_eq, reduceCtorEq, Int.reduceBEq, Int.reduceBNe, Int.reduceAdd, Int.reduceSub, Int.reduceMul, Int.reduceNeg, Nat.reduceBNe, Int.reduceToNat, Nat.reduceSub, Int.reduceLE, Int.reduceLT, En.vV, hs, hv, hT, hG, hF, rcJ, rdH, d2, d3, d4, spEnd_q, NdR_q, chL_q, hgood, c0, c1, e1, hq, errC]
        · rw [if_neg x2] at hq
          have d4 : decide ((eR l 0 : Int) < (l.length : Int)) = false := decide_eq_false (by omega)
          have hw : Whole l.length (Ms l) (Ks l) 0 := (whole_iff hgood.fine hn0).2 (by show eR l 0 ≤ _; omega)
          have c2 : (0 : Int).toNat = 0 := rfl
          by_cases x3 : 24 < dpV l 0
          · rw [if_pos (show 24 < Dep l.length (Ms l) (Ks l) 0 from x3)] at hq
            have d5 : decide ((dpV l 0 : Int) > 24) = true := decide_eq_true (by omega)
            simp (maxSteps := 10000000) only [En.E, En.evsC, List.map_cons, List.map_nil, Nat.reduceBEq, Nat.reduceAdd, Nat.reduceMul, Nat.reduceEqDiff, Nat.reduceLeDiff, Nat.reduceLT, ne_eq, reduceCtorEq, Int.reduceBEq, Int.reduceBNe, Int.reduceAdd, Int.reduceSub, Int.reduceMul, Int.reduceNeg, Nat.reduceBNe, Int.reduceToNat, Nat.reduceSub, Int.reduceLE, Int.reduceLT, En.vV, hs, hv, hT, hG, hF, rcJ, rdH, d2, d3, d4, d5, spEnd_q, spDep_q, NdR_q, chL_q, hgood, c0, c1, c2, hw, e1, hq, errC]
          · rw [if_neg (show ¬ 24 < Dep l.length (Ms l) (Ks l) 0 from x3)] at hq
            have d5 : decide ((dpV l 0 : Int) > 24) = false := decide_eq_false (by omega)
            simp (maxSteps := 10000000) only [En.E, En.evsC, List.map_cons, List.map_nil, Nat.reduceBEq, Nat.reduceAdd, Nat.reduceMul, Nat.reduceEqDiff, Nat.reduceLeDiff, Nat.reduceLT, ne_eq, reduceCtorEq, Int.reduceBEq, Int.reduceBNe, Int.reduceAdd, Int.reduceSub, Int.reduceMul, Int.reduceNeg, Nat.reduceBNe, Int.reduceToNat, Nat.reduceSub, Int.reduceLE, Int.reduceLT, En.vV, hs, hv, hT, hG, hF, rcJ, rdH, d2, d3, d4, d5, spEnd_q, spDep_q, NdR_q, chL_q, hgood, c0, c1, c2, hw, e1, hq, errC]
def spRChk : Spc
  | [.g k A n c], H, _ => .is (NdR A n c (H k) ∧ n ≤ 100000 ∧ zsN (chL n (H k))) (.tup [.v (.int .i64 (chkV (chL n (H k))).1), .v (.int .i64 (chkV (chL n (H k))).2)])
  | _, _, _ => .bad
theorem spRChk_q {k n c : Nat} {A : Option Addr} {H : Nat → Ch} {nx : Nat} : spRChk [.g k A n c] H nx = .is (NdR A n c (H k) ∧ n ≤ 100000 ∧ zsN (chL n (H k))) (.tup [.v (.int .i64 (chkV (chL n (H k))).1), .v (.int .i64 (chkV (chL n (H k))).2)]) := rfl
theorem spRChk_ok : SpecOk Tryz.prog 14 spRChk := by
  intro args hp nx w0 O w H hv
  unfold spRChk at hv ⊢
  split at hv
  · next k A n c =>
    obtain ⟨h1, hn, hz⟩ := hv
    obtain ⟨hl, hh⟩ := NdR_hold h1 (H.hold k)
    generalize chL n (lookH hp k) = l at hl hh hz ⊢
    subst hl
    refine (rcheck_any l hn hz A c w ⟨⟨hh _, rfl⟩, trivial⟩).mono ?_
    rintro e w' ⟨rfl, hb⟩
    exact ⟨⟨0, none, 0, none, 0, mz⟩, rfl, .still hb⟩
  · exact hv.elim
end Pr
end Go.Proofs.YtpkldfkmokeamaaGreatDoor
