/-
The reference's number, asked, order, Order, Kids, Size (chapter 15).
-/
import Derived.Test.YtpkldfkmokeamaaGreatDoorRe1
set_option linter.unusedSimpArgs false
set_option linter.unusedVariables false
namespace Go.Proofs.YtpkldfkmokeamaaGreatDoor
namespace Pr
open Go Go.RowKit En
open Ex
def nuV (l : List Nd) (a : Nat) : Bool := numb (Ks l) a
def nuI (l : List Nd) (A : Option Addr) (c a i : Nat) : SS := ⟨[(0, .g 1000 A l.length c), (1, .v (.int .i64 a)), (5, .v (.int .i64 i))], rdH l A c, 3000⟩
set_option maxRecDepth 100000 in
set_option maxHeartbeats 4000000 in
theorem number_any (l : List Nd) (hg : Good l) (a : Nat) (ha : a ≤ l.length) (A : Option Addr) (c : Nat) (w : World) (h : allRd w.heap.size w (rdH l A c)) :
    Calls Tryz.prog 63 #[.slice A l.length c, .int .i64 a] w fun e w' => e = .returned (.bool (nuV l a)) ∧ Below w.heap.size w w' := by
  have hlen := hg.len
  obtain ⟨q, hq⟩ : ∃ q, q = nuV l a := ⟨_, rfl⟩
  rw [← hq]
  refine calls_go (args := [.g 1000 A l.length c, .v (.int .i64 a)]) (hp := rdH l A c) (nx := 1001) (n := 1000) (U := [(1000000, 28)]) (V := []) (tl := tlRe) (gl := gl0) (post := fun s ys => ys = [.v (.bool q)])
    followP tlRe_ok gl0_ok Tryz.func63 rfl (by kernel_rfl) (Nat.le_of_ble_eq_true (by kernel_rfl)) (by kernel_rfl) (by kernel_rfl) (hh_list h) (free_list (by simp [allLt, rdH])) ?_ ?_
  · rintro s ys w' rfl H
    exact ⟨rfl, H.below⟩
  intro L F T G nd va hE
  obtain ⟨hL, hF, hs, hv, hT, hG, hR, hI, hJ, hW⟩ := hE
  rw [Tryz.results63] at hF
  simp (maxSteps := 1000000) only [En.nN, En.E, En.evsC, List.map_cons, List.map_nil, Nat.reduceBEq, Nat.reduceAdd, Nat.reduceMul, Nat.reduceEqDiff, Nat.reduceLeDiff, Nat.reduceLT, ne_eq, reduceCtorEq, Int.reduceBEq, Int.reduceBNe, Int.reduceAdd, Int.reduceSub, Int.reduceMul, Int.reduceNeg, Nat.reduceBNe, Int.reduceToNat, Nat.reduceSub, Int.reduceLE, Int.reduceLT] at hv
  simp only [En.at_nil, En.at_cons, En.ag_nil, En.ag_cons, and_true, tlRe, gl0, tyInt, tyI64, tyBool, tyStr, tyErr, tyNode, tyNodes, tyInts] at hT hG
  simp (maxSteps := 10000000) only [En.E, En.evsC, List.map_cons, List.map_nil, Nat.reduceBEq, Nat.reduceAdd, Nat.reduceMul, Nat.reduceEqDiff, Nat.reduceLeDiff, Nat.reduceLT, ne_eq, reduceCtorEq, Int.reduceBEq, Int.reduceBNe, Int.reduceAdd, Int.reduceSub, Int.reduceMul, Int.reduceNeg, Nat.reduceBNe, Int.reduceToNat, Nat.reduceSub, Int.reduceLE, Int.reduceLT, En.vV, hs, hv, hT, hG, hF, rdH]
  refine hI {i : Nat // i ≤ a ∧ ∀ j, j < i → ¬ a ≤ j + Ks l j} (fun x => nuI l A c a x.1) (fun x => a - x.1) _ _ _ ⟨0, Nat.zero_le _, fun j hj => absurd hj (Nat.not_lt_zero j)⟩ (sle_all [1000] (by decide) (by simp only [En.E, En.evsC, List.map_cons, List.map_nil, Nat.reduceBEq, Nat.reduceAdd, Nat.reduceMul, Nat.reduceEqDiff, Nat.reduceLeDiff, Nat.reduceLT, ne_eq, reduceCtorEq, Int.reduceBEq, Int.reduceBNe, Int.reduceAdd, Int.reduceSub, Int.reduceMul, Int.reduceNeg, Nat.reduceBNe, Int.reduceToNat, Nat.reduceSub, Int.reduceLE, Int.reduceLT, En.slLe, En.hpLe, En.chE, En.allLt, nuI, rdH, Int.cast_ofNat_Int])) ?_
  rintro ⟨i, hi, hp⟩
  refine hR 1000 _ _ ?_
  by_cases hlt : i < a
  · have d1 : decide ((i : Int) < (a : Int)) = true := decide_eq_true (by omega)
    have i1 : inr .i64 ((i : Int) + 1) := by simp only [En.inr, En.lo, En.hi]; omega
    have g1 : (0 : Int) ≤ i ∧ (i : Int) < l.length := by omega
    have g2 : (0 : Int) ≤ i ∧ i < l.length := by omega
    have hA : ¬A = none := slok_some h.1.1.1 (by omega)
    have go : ¬ a ≤ i + Ks l i → ∃ i' : {i : Nat // i ≤ a ∧ ∀ j, j < i → ¬ a ≤ j + Ks l j}, i'.1 = i + 1 := fun hn => ⟨⟨i + 1, by omega, fun j hj => by
      by_cases e : j = i
      · rw [e]; exact hn
      · exact hp j (by omega)⟩, rfl⟩
    by_cases h3 : (ndAt l i).k = 3
    · have d3 : ((ndAt l i).k == 3) = true := by rw [h3]; rfl
      obtain ⟨c0, c1⟩ := hg.ls i (by omega) h3
      have hK : (ndAt l i).c = (Ks l i : Int) := by simp only [Ks, Kn, if_pos h3]; omega
      have i2 : inr .i64 ((i : Int) + (Ks l i : Int)) := by simp only [En.inr, En.lo, En.hi]; omega
      by_cases hle : a ≤ i + Ks l i
      · have d4 : decide ((a : Int) ≤ (i : Int) + (Ks l i : Int)) = true := decide_eq_true (by omega)
        have hqq : q = true := by rw [hq, nuV, numb_iff]; exact ⟨i, hlt, hle⟩
        simp (maxSteps := 10000000) only [En.E, En.evsC, List.map_cons, List.map_nil, Nat.reduceBEq, Nat.reduceAdd, Nat.reduceMul, Nat.reduceEqDiff, Nat.reduceLeDiff, Nat.reduceLT, ne_eq, reduceCtorEq, Int.reduceBEq, Int.reduceBNe, Int.reduceAdd, Int.reduceSub, Int.reduceMul, Int.reduceNeg, Nat.reduceBNe, Int.reduceToNat, Nat.reduceSub, Int.reduceLE, Int.reduceLT, En.vV, hs, hv, hT, hG, hF, nuI, rdH, d1, d3, d4, i1, i2, g1, g2, hA, ndC_n, hK, Int.toNat_natCast, hqq]
      · have d4 : decide ((a : Int) ≤ (i : Int) + (Ks l i : Int)) = false := decide_eq_false (by omega)
        obtain ⟨x, hx⟩ := go hle
        simp (maxSteps := 10000000) only [En.E, En.evsC, List.map_cons, List.map_nil, Nat.reduceBEq, Nat.reduceAdd, Nat.reduceMul, Nat.reduceEqDiff, Nat.reduceLeDiff, Nat.reduceLT, ne_eq, reduceCtorEq, Int.reduceBEq, Int.reduceBNe, Int.reduceAdd, Int.reduceSub, Int.reduceMul, Int.reduceNeg, Nat.reduceBNe, Int.reduceToNat, Nat.reduceSub, Int.reduceLE, Int.reduceLT, En.vV, hs, hv, hT, hG, hF, nuI, rdH, d1, d3, d4, i1, i2, g1, g2, hA, ndC_n, hK, Int.toNat_natCast]
        exact ⟨x, (sle_all [1000] (by decide) (by simp only [En.E, En.evsC, List.map_cons, List.map_nil, Nat.reduceBEq, Nat.reduceAdd, Nat.reduceMul, Nat.reduceEqDiff, Nat.reduceLeDiff, Nat.reduceLT, ne_eq, reduceCtorEq, Int.reduceBEq, Int.reduceBNe, Int.reduceAdd, Int.reduceSub, Int.reduceMul, Int.reduceNeg, Nat.reduceBNe, Int.reduceToNat, Nat.reduceSub, Int.reduceLE, Int.reduceLT, En.slLe, En.hpLe, En.chE, En.allLt, nuI, rdH, hx, Int.natCast_add, Int.cast_ofNat_Int])), by show a - x.1 < a - i; omega⟩
    · have d3 : ((ndAt l i).k == 3) = false := by simpa using h3
      have hK : Ks l i = 0 := if_neg h3
      obtain ⟨x, hx⟩ := go (by omega)
      simp (maxSteps := 10000000) only [En.E, En.evsC, List.map_cons, List.map_nil, Nat.reduceBEq, Nat.reduceAdd, Nat.reduceMul, Nat.reduceEqDiff, Nat.reduceLeDiff, Nat.reduceLT, ne_eq, reduceCtorEq, Int.reduceBEq, Int.reduceBNe, Int.reduceAdd, Int.reduceSub, Int.reduceMul, Int.reduceNeg, Nat.reduceBNe, Int.reduceToNat, Nat.reduceSub, Int.reduceLE, Int.reduceLT, En.vV, hs, hv, hT, hG, hF, nuI, rdH, d1, d3, i1, g1, g2, hA, ndC_n, Int.toNat_natCast, Bool.false_eq_true]
      exact ⟨x, (sle_all [1000] (by decide) (by simp only [En.E, En.evsC, List.map_cons, List.map_nil, Nat.reduceBEq, Nat.reduceAdd, Nat.reduceMul, Nat.reduceEqDiff, Nat.reduceLeDiff, Nat.reduceLT, ne_eq, reduceCtorEq, Int.reduceBEq, Int.reduceBNe, Int.reduceAdd, Int.reduceSub, Int.reduceMul, Int.reduceNeg, Nat.reduceBNe, Int.reduceToNat, Nat.reduceSub, Int.reduceLE, Int.reduceLT, En.slLe, En.hpLe, En.chE, En.allLt, nuI, rdH, hx, Int.natCast_add, Int.cast_ofNat_Int])), by show a - x.1 < a - i; omega⟩
  · have d1 : decide ((i : Int) < (a : Int)) = false := decide_eq_false (by omega)
    have hqq : q = false := by
      rw [hq, nuV, Bool.eq_false_iff]
      intro hn
      obtain ⟨j, h1, h2⟩ := numb_iff.1 hn
      exact hp j (by omega) h2
    simp (maxSteps := 10000000) only [En.E, En.evsC, List.map_cons, List.map_nil, Nat.reduceBEq, Nat.reduceAdd, Nat.reduceMul, Nat.reduceEqDiff, Nat.reduceLeDiff, Nat.reduceLT, ne_eq, reduceCtorEq, Int.reduceBEq, Int.reduceBNe, Int.reduceAdd, Int.reduceSub, Int.reduceMul, Int.reduceNeg, Nat.reduceBNe, Int.reduceToNat, Nat.reduceSub, Int.reduceLE, Int.reduceLT, En.vV, hs, hv, hT, hG, hF, nuI, rdH, d1, hqq]
def spNumR : Spc
  | [.g k A n c, .v (.int .i64 a)], H, _ => .is (NdR A n c (H k) ∧ Good (chL n (H k)) ∧ 0 ≤ a ∧ a ≤ n) (.v (.bool (nuV (chL n (H k)) a.toNat)))
  | _, _, _ => .bad
theorem spNumR_q {k n c : Nat} {A : Option Addr} {a : Int} {H : Nat → Ch} {nx : Nat} : spNumR [.g k A n c, .v (.int .i64 a)] H nx = .is (NdR A n c (H k) ∧ Good (chL n (H k)) ∧ 0 ≤ a ∧ a ≤ n) (.v (.bool (nuV (chL n (H k)) a.toNat))) := rfl
theorem spNumR_ok : SpecOk Tryz.prog 63 spNumR := by
  intro args hp nx w0 O w H hv
  unfold spNumR at hv ⊢
  split at hv
  · next k A n c a =>
    obtain ⟨h1, hg, ha0, ha1⟩ := hv
    obtain ⟨hl, hh⟩ := NdR_hold h1 (H.hold k)
    generalize chL n (lookH hp k) = l at hl hh hg ⊢
    subst hl
    obtain ⟨a, rfl⟩ : ∃ b : Nat, a = (b : Int) := ⟨a.toNat, by omega⟩
    rw [Int.toNat_natCast]
    refine (number_any l hg a (by omega) A c w ⟨⟨hh _, rfl⟩, trivial⟩).mono ?_
    rintro e w' ⟨rfl, hb⟩
    exact ⟨⟨0, none, 0, none, 0, mz⟩, rfl, .still hb⟩
  · exact hv.elim
def askV (l : List Nd) (a : Int) : Int := if (chkV l).2 ≠ 0 then (chkV l).2 else if a < 0 ∨ (l.length : Int) ≤ a ∨ nuV l a.toNat = true then 7 else 0
def ordI (l : List Nd) (i : Nat) : List Int := (Ord l.length (Ms l) (Ks l) i).map fun p : Nat => (p : Int)
theorem nodes_long (n : Nat) (M K : Nat → Nat) : ∀ (d k a : Nat), n - a ≤ d → (Ex.nodes n M K k a).length ≤ n - a := by
  intro d
  induction d with
  | zero =>
    intro k a h
    cases k with
    | zero => rw [Ex.nodes_zero]; exact Nat.zero_le _
    | succ k => rw [Ex.nodes_out (by omega)]; exact Nat.zero_le _
  | succ d ih =>
    intro k a h
    cases k with
    | zero => rw [Ex.nodes_zero]; exact Nat.zero_le _
    | succ k =>
      by_cases ha : a < n
      · rw [Ex.nodes_in ha, List.length_cons]
        have := ih (k + M a) (a + 1 + K a) (by omega)
        omega
      · rw [Ex.nodes_out (by omega)]; exact Nat.zero_le _
theorem ordI_len {l : List Nd} (hg : Good l) {i : Nat} (hw : Whole l.length (Ms l) (Ks l) i) : (ordI l i).length ≤ l.length := by
  rw [ordI, List.length_map, Ord_nodes hg.fine _ i (Nat.le_refl _) hw, List.length_reverse]
  have := nodes_long l.length (Ms l) (Ks l) _ 1 i (Nat.le_refl _)
  omega
def spOrdN (D : Nat) : Spc
  | [.g k A n c, .v (.int .i64 a)], H, nx => .val (NdR A n c (H k) ∧ Good (chL n (H k)) ∧ 0 ≤ a ∧ Whole n (Ms (chL n (H k))) (Ks (chL n (H k))) a.toNat ∧ n ≤ a.toNat + D) fun B d => (.g nx B (ordI (chL n (H k)) a.toNat).length d, [(nx, .ints B d .i64 (ordI (chL n (H k)) a.toNat))])
  | _, _, _ => .bad
theorem spOrdN_q {D k n c : Nat} {A : Option Addr} {a : Int} {H : Nat → Ch} {nx : Nat} : spOrdN D [.g k A n c, .v (.int .i64 a)] H nx = .val (NdR A n c (H k) ∧ Good (chL n (H k)) ∧ 0 ≤ a ∧ Whole n (Ms (chL n (H k))) (Ks (chL n (H k))) a.toNat ∧ n ≤ a.toNat + D) fun B d => (.g nx B (ordI (chL n (H k)) a.toNat).length d, [(nx, .ints B d .i64 (ordI (chL n (H k)) a.toNat))]) := rfl
def glOrd (D : Nat) : List (FuncId × Spc) := [(55, spKids), (59, spOrdN D)]
theorem mapv_len {xs : List Int} : lenS (xs.map fun x => SV.v (.int .i64 x)) = xs.length := by rw [lenS_eq, List.length_map]
theorem mapv_one {xs : List Int} : allOne (xs.map fun x => SV.v (.int .i64 x)) = true := by
  induction xs with
  | nil => rfl
  | cons x xs ih => rw [List.map_cons, allOne, ih]; rfl
set_option maxRecDepth 100000 in
set_option maxHeartbeats 4000000 in
theorem ord_in (D : Nat) (hG : GOk Tryz.prog (lookG (glOrd D))) (l : List Nd) (hg : Good l) (a : Nat) (ha : Whole l.length (Ms l) (Ks l) a) (hD : l.length ≤ a + (D + 1)) (A : Option Addr) (c : Nat) (w : World) (h : allRd w.heap.size w (rdH l A c)) :
    Calls Tryz.prog 59 #[.slice A l.length c, .int .i64 a] w fun e w' => ∃ B d, e = .returned (.slice B (ordI l a).length d) ∧ Below w.heap.size w w' ∧ Hold w.heap.size w' (.ints B d .i64 (ordI l a)) ∧ (ordI l a ≠ [] → ∀ x, B = some x → w.heap.size ≤ x.block) := by
  have hlen := hg.len
  have hFi := hg.fine
  have hal := ha.lt
  have hk := ha.kids hFi
  have hrec := Ord_rec (M := Ms l) hFi hal
  obtain ⟨q, hq⟩ : ∃ q, q = ordI l a := ⟨_, rfl⟩
  rw [← hq]
  rw [ordI, hrec] at hq
  have c0 : (0 : Int) ≤ (a : Int) := by omega
  have c1 : (a : Int) < (l.length : Int) := by omega
  refine calls_go (args := [.g 1000 A l.length c, .v (.int .i64 a)]) (hp := rdH l A c) (nx := 1001) (n := 1000) (U := [(4, 3), (1000000, 30)]) (V := []) (tl := tlRe) (gl := glOrd D) (post := KidP q)
    followP tlRe_ok hG Tryz.func59 rfl (by kernel_rfl) (Nat.le_of_ble_eq_true (by kernel_rfl)) (by kernel_rfl) (by kernel_rfl) (hh_list h) (free_list (by simp [allLt, rdH])) ?_ ?_
  · rintro s ys w' (⟨hx, rfl⟩ | ⟨k, B, d, e, rfl, hk⟩) H
    · subst hx
      exact ⟨none, 0, rfl, H.below, ⟨Nat.le_refl 0, fun hn => absurd rfl hn⟩, fun hn => absurd rfl hn⟩
    · have hh := hk ▸ H.hold k
      refine ⟨B, d, rfl, H.below, (row_sl hh).congr fun i hi j hj => ?_, fun _ x hx => (World.ownsRow.lt hh x.block (row_own ⟨x, hx, rfl⟩)).1⟩
      obtain rfl : j = 0 := by omega
      simp [dens_eq, List.getD_eq_getElem?_getD, hi, den]
  intro L F T G nd va hE
  obtain ⟨hL, hF, hs, hv, hT, hG, hR, hI, hJ, hW⟩ := hE
  rw [Tryz.results59] at hF
  simp (maxSteps := 1000000) only [En.nN, En.E, En.evsC, List.map_cons, List.map_nil, Nat.reduceBEq, Nat.reduceAdd, Nat.reduceMul, Nat.reduceEqDiff, Nat.reduceLeDiff, Nat.reduceLT, ne_eq, reduceCtorEq, Int.reduceBEq, Int.reduceBNe, Int.reduceAdd, Int.reduceSub, Int.reduceMul, Int.reduceNeg, Nat.reduceBNe, Int.reduceToNat, Nat.reduceSub, Int.reduceLE, Int.reduceLT] at hv
  simp only [En.at_nil, En.at_cons, En.ag_nil, En.ag_cons, and_true, tlRe, glOrd, tyInt, tyI64, tyBool, tyStr, tyErr, tyNode, tyNodes, tyInts] at hT hG
  have l0 : decide ((-1 : Int) ≥ 0) = false := rfl
  have l1 : decide ((0 : Int) ≥ 0) = true := rfl
  have l2 : decide ((1 : Int) ≥ 0) = true := rfl
  have j0 : inr .i64 0 := by simp only [En.inr, En.lo, En.hi]; omega
  have j1 : inr .i64 (-1) := by simp only [En.inr, En.lo, En.hi]; omega
  have j2 : inr .i64 1 := by simp only [En.inr, En.lo, En.hi]; omega
  have hK : Ms l a ≠ 0 → Ks l a = 0 := by
    intro hm
    refine if_neg fun h3 => hm ?_
    simp [Ms, Mn, opN, h3]
  rcases M_lt hg hal with hm | hm | hm
  · have hkP : kidsP l.length (Ms l) (Ks l) a = [] := by rw [kidsP, hm]; rfl
    have hkI : kidI l a = [] := by rw [kidI, ← hk.1, hkP]; rfl
    rw [hkP] at hq
    have hq' : q = [(a : Int)] := by rw [hq]; rfl
    subst hq'
    simp (maxSteps := 10000000) only [En.E, En.evsC, List.map_cons, List.map_nil, Nat.reduceBEq, Nat.reduceAdd, Nat.reduceMul, Nat.reduceEqDiff, Nat.reduceLeDiff, Nat.reduceLT, ne_eq, reduceCtorEq, Int.reduceBEq, Int.reduceBNe, Int.reduceAdd, Int.reduceSub, Int.reduceMul, Int.reduceNeg, Nat.reduceBNe, Int.reduceToNat, Nat.reduceSub, Int.reduceLE, Int.reduceLT, En.vV, hs, hv, hT, hG, hF, rdH, spKids_q, NdR_q, chL_q, hg, c0, c1, hkI, l0, j1, Int.toNat_natCast]
    exact fun A1 c1 b A2 c2 => .inr ⟨2025, A2, c2, _, rfl, rfl⟩
  · have hkR : kidsR l.length (Ms l) (Ks l) a = [a + 1] := by rw [kidsR, hm, hK (by omega), plcR]; rfl
    have hkI : kidI l a = [(a : Int) + 1] := by rw [kidI, hkR]; rfl
    have hw1 := hk.2.1 (a + 1) (by rw [hk.1, hkR]; exact List.mem_singleton.2 rfl)
    rw [hk.1, hkR] at hq
    have hq' : q = ordI l (a + 1) ++ [(a : Int)] := by rw [hq]; simp [ordI]
    subst hq'
    have c2 : (0 : Int) ≤ (a : Int) + 1 := by omega
    have c3 : ((a : Int) + 1).toNat = a + 1 := by omega
    have c4 : l.length ≤ a + 1 + D := by omega
    have ol := ordI_len hg hw1
    have b1 : (ordI l (a + 1)).length ≤ 9223372036854775807 := by omega
    have b2 : (ordI l (a + 1)).length * 8 ≤ 140737488355328 := by omega
    have b3 : (ordI l (a + 1)).length ≤ 9223372036854775806 := by omega
    have b4 : ((ordI l (a + 1)).length + 1) * 8 ≤ 140737488355328 := by omega
    simp (maxSteps := 10000000) only [En.E, En.evsC, List.map_cons, List.map_nil, Nat.reduceBEq, Nat.reduceAdd, Nat.reduceMul, Nat.reduceEqDiff, Nat.reduceLeDiff, Nat.reduceLT, ne_eq, reduceCtorEq, Int.reduceBEq, Int.reduceBNe, Int.reduceAdd, Int.reduceSub, Int.reduceMul, Int.reduceNeg, Nat.reduceBNe, Int.reduceToNat, Nat.reduceSub, Int.reduceLE, Int.reduceLT, En.vV, hs, hv, hT, hG, hF, rdH, spKids_q, NdR_q, chL_q, hg, c0, c1, hkI, l0, l1, j0, j1, Int.toNat_natCast, spOrdN_q, c2, c3, c4, hw1, mapv_len, mapv_one, b1, b2, b3, b4, Nat.mul_one]
    refine fun A1 c1 A2 c2 A3 c3 b A4 c4 => .inr ⟨3049, A4, c4, 3, by rw [List.length_append]; rfl, ?_⟩
    rw [List.length_append, List.map_append]; rfl
  · have hkR : kidsR l.length (Ms l) (Ks l) a = [a + 1, eR l (a + 1)] := by rw [kidsR, hm, hK (by omega), plcR, plcR]; rfl
    have hkI : kidI l a = [(a : Int) + 1, (eR l (a + 1) : Int)] := by rw [kidI, hkR]; rfl
    have hw1 := hk.2.1 (a + 1) (by rw [hk.1, hkR]; simp)
    have hw2 := hk.2.1 (eR l (a + 1)) (by rw [hk.1, hkR]; simp)
    have hgt := (EndR_gt (M := Ms l) hFi hw1.lt).1
    rw [hk.1, hkR] at hq
    have hq' : q = ordI l (eR l (a + 1)) ++ ordI l (a + 1) ++ [(a : Int)] := by rw [hq]; simp [ordI]
    subst hq'
    have c2 : (0 : Int) ≤ (a : Int) + 1 := by omega
    have c3 : ((a : Int) + 1).toNat = a + 1 := by omega
    have c4 : l.length ≤ a + 1 + D := by omega
    have c5 : (0 : Int) ≤ (eR l (a + 1) : Int) := by omega
    have c6 : l.length ≤ eR l (a + 1) + D := by simp only [eR]; omega
    have ol1 := ordI_len hg hw1
    have ol2 := ordI_len hg hw2
    have b1 : (ordI l (eR l (a + 1))).length ≤ 9223372036854775807 := by omega
    have b2 : (ordI l (eR l (a + 1))).length * 8 ≤ 140737488355328 := by omega
    have b3 : (ordI l (eR l (a + 1))).length + (ordI l (a + 1)).length ≤ 9223372036854775807 := by omega
    have b4 : ((ordI l (eR l (a + 1))).length + (ordI l (a + 1)).length) * 8 ≤ 140737488355328 := by omega
    have b5 : (ordI l (eR l (a + 1))).length + (ordI l (a + 1)).length ≤ 9223372036854775806 := by omega
    have b6 : ((ordI l (eR l (a + 1))).length + (ordI l (a + 1)).length + 1) * 8 ≤ 140737488355328 := by omega
    simp (maxSteps := 10000000) only [En.E, En.evsC, List.map_cons, List.map_nil, Nat.reduceBEq, Nat.reduceAdd, Nat.reduceMul, Nat.reduceEqDiff, Nat.reduceLeDiff, Nat.reduceLT, ne_eq, reduceCtorEq, Int.reduceBEq, Int.reduceBNe, Int.reduceAdd, Int.reduceSub, Int.reduceMul, Int.reduceNeg, Nat.reduceBNe, Int.reduceToNat, Nat.reduceSub, Int.reduceLE, Int.reduceLT, En.vV, hs, hv, hT, hG, hF, rdH, spKids_q, NdR_q, chL_q, hg, c0, c1, hkI, l0, l1, l2, j0, j1, j2, Int.toNat_natCast, spOrdN_q, c2, c3, c4, c5, c6, hw1, hw2, mapv_len, mapv_one, b1, b2, b3, b4, b5, b6, Nat.mul_one]
    refine fun A1 c1 A2 c2 A3 c3 A4 c4 A5 c5 b A6 c6 => .inr ⟨4073, A6, c6, 3, by rw [List.length_append, List.length_append]; rfl, ?_⟩
    rw [List.length_append, List.length_append, List.map_append, List.map_append]; rfl
theorem spOrdN_ok : ∀ D, SpecOk Tryz.prog 59 (spOrdN D) := by
  have run1 : ∀ D, (∀ (l : List Nd), Good l → ∀ a : Nat, Whole l.length (Ms l) (Ks l) a → l.length ≤ a + D → ∀ (A : Option Addr) (c : Nat) (w : World), allRd w.heap.size w (rdH l A c) →
      Calls Tryz.prog 59 #[.slice A l.length c, .int .i64 a] w fun e w' => ∃ B d, e = .returned (.slice B (ordI l a).length d) ∧ Below w.heap.size w w' ∧ Hold w.heap.size w' (.ints B d .i64 (ordI l a)) ∧ (ordI l a ≠ [] → ∀ x, B = some x → w.heap.size ≤ x.block)) → SpecOk Tryz.prog 59 (spOrdN D) := by
    intro D hin args hp nx w0 O w H hv
    unfold spOrdN at hv ⊢
    split at hv
    · next nx k A n c a =>
      obtain ⟨h1, hg, ha0, hwh, hD⟩ := hv
      obtain ⟨hl, hh⟩ := NdR_hold h1 (H.hold k)
      generalize chL n (lookH hp k) = l at hl hh hg hwh ⊢
      subst hl
      obtain ⟨a, rfl⟩ : ∃ b : Nat, a = (b : Int) := ⟨a.toNat, by omega⟩
      rw [Int.toNat_natCast] at hD hwh ⊢
      refine (hin l hg a hwh hD A c w ⟨⟨hh _, rfl⟩, trivial⟩).mono ?_
      rintro e w' ⟨B, d, rfl, hb, hs, hf⟩
      refine ⟨⟨0, B, d, none, 0, mz⟩, rfl, Stp.rd hb ⟨⟨hs, rfl⟩, trivial⟩ fun k b' hx => .inl ?_⟩
      refine foot_look (Q := fun b => w.heap.size ≤ b) (l := [(_, _)]) ⟨?_, trivial⟩ hx
      rintro _ ⟨hne, x, h, rfl⟩; exact hf hne x h
    · exact hv.elim
  intro D
  induction D with
  | zero => exact run1 0 fun l hg a ha hD => absurd ha.lt (by omega)
  | succ D ih => exact run1 (D + 1) fun l hg a ha hD A c w h => ord_in D (lG_cons (by kernel_rfl) spKids_ok <| lG_cons (by kernel_rfl) ih lG_nil) l hg a ha hD A c w h
def spOrd : Spc
  | [.g k A n c, .v (.int .i64 a)], H, nx => .val (NdR A n c (H k) ∧ Good (chL n (H k)) ∧ 0 ≤ a ∧ Whole n (Ms (chL n (H k))) (Ks (chL n (H k))) a.toNat) fun B d => (.g nx B (ordI (chL n (H k)) a.toNat).length d, [(nx, .ints B d .i64 (ordI (chL n (H k)) a.toNat))])
  | _, _, _ => .bad
theorem spOrd_q {k n c : Nat} {A : Option Addr} {a : Int} {H : Nat → Ch} {nx : Nat} : spOrd [.g k A n c, .v (.int .i64 a)] H nx = .val (NdR A n c (H k) ∧ Good (chL n (H k)) ∧ 0 ≤ a ∧ Whole n (Ms (chL n (H k))) (Ks (chL n (H k))) a.toNat) fun B d => (.g nx B (ordI (chL n (H k)) a.toNat).length d, [(nx, .ints B d .i64 (ordI (chL n (H k)) a.toNat))]) := rfl
theorem spOrd_ok : SpecOk Tryz.prog 59 spOrd := by
  intro args hp nx w0 O w H hv
  unfold spOrd at hv ⊢
  split at hv
  · next k A n c a =>
    obtain ⟨h1, hg, ha0, ha1⟩ := hv
    exact spOrdN_ok n [.g k A n c, .v (.int .i64 a)] hp _ w0 O w H ⟨h1, hg, ha0, ha1, by omega⟩
  · exact hv.elim
theorem chk_tree {l : List Nd} (h : (chkV l).2 = 0) : Whole l.length (Ms l) (Ks l) 0 ∧ eR l 0 = l.length ∧ dpV l 0 ≤ 24 := by
  obtain ⟨h0, h1, hg, h4⟩ := chk_ok h
  have hn0 : 0 < l.length := by omega
  rw [h4, lastV, last_same hg.fine hn0] at h
  have h5 : lastR l.length (Ms l) (Ks l) 24 = (0, 0) := by
    unfold lastR at h ⊢
    split at h
    · cases h
    · split at h
      · cases h
      · split at h
        · cases h
        · next x1 x2 x3 => rw [if_neg x1, if_neg x2, if_neg x3]
  exact last_whole hg.fine hn0 h5
def glOr : List (FuncId × Spc) := [(14, spRChk), (59, spOrd)]
theorem glOr_ok : GOk Tryz.prog (lookG glOr) := lG_cons (by kernel_rfl) spRChk_ok <| lG_cons (by kernel_rfl) spOrd_ok lG_nil
def lsR (c : Prop) (xs : List Int) (e : Int) (nx : Nat) : Res := bif e == 0 then .val c fun B d => (.tup [.g nx B xs.length d, .v (.int .i64 0)], [(nx, .ints B d .i64 xs)]) else .is c (.tup [.v (.slice none 0 0), .v (.int .i64 e)])
theorem lsR_y {c : Prop} {xs : List Int} {e : Int} {nx : Nat} (h : e = 0) : lsR c xs e nx = .val c fun B d => (.tup [.g nx B xs.length d, .v (.int .i64 0)], [(nx, .ints B d .i64 xs)]) := by rw [lsR, h]; rfl
theorem lsR_n {c : Prop} {xs : List Int} {e : Int} {nx : Nat} (h : e ≠ 0) : lsR c xs e nx = .is c (.tup [.v (.slice none 0 0), .v (.int .i64 e)]) := by
  have : (e == 0) = false := by simpa using h
  rw [lsR, this]; rfl
end Pr
end Go.Proofs.YtpkldfkmokeamaaGreatDoor
/-
The reference's Order, Kids, Size (chapter 15).
-/
set_option linter.unusedSimpArgs false
set_option linter.unusedVariables false
namespace Go.Proofs.YtpkldfkmokeamaaGreatDoor
namespace Pr
open Go Go.RowKit En
open Ex
def LsQ2 (O : Nat → Prop) (xs : List Int) (er : Int) (w : World) (e : Ending) (w' : World) : Prop := Below w.heap.size w w' ∧ ((er ≠ 0 ∧ e = .returned (.tuple #[.slice none 0 0, .int .i64 er])) ∨ (er = 0 ∧ ∃ B d, e = .returned (.tuple #[.slice B xs.length d, .int .i64 0]) ∧ Hold w.heap.size w' (.ints B d .i64 xs) ∧ ∀ b, foot (.ints B d .i64 xs) b → w.heap.size ≤ b ∨ O b))
def LsP2 (xs : List Int) (er : Int) (s : SS) (ys : List SV) : Prop := (er ≠ 0 ∧ ys = [.v (.slice none 0 0), .v (.int .i64 er)]) ∨ (er = 0 ∧ ∃ k A c, ys = [.g k A xs.length c, .v (.int .i64 0)] ∧ lookH s.hp k = .ints A c .i64 xs)
theorem LsP2_Q {xs : List Int} {er : Int} {w w' : World} {hp : Hp} {s : SS} {ys : List SV} (h : LsP2 xs er s ys) (H : HH w (oldOf hp) s.hp w') : LsQ2 (oldOf hp) xs er w (.returned (oneV ys)) w' := by
  rcases h with ⟨h0, rfl⟩ | ⟨h0, k, A, c, rfl, hk⟩
  · exact ⟨H.below, .inl ⟨h0, rfl⟩⟩
  · exact ⟨H.below, .inr ⟨h0, A, c, rfl, hk ▸ H.hold k, fun b hb => H.old k b (by rw [hk]; exact hb)⟩⟩
theorem lsR_ok {c : Prop} {xs : List Int} {er : Int} {nx : Nat} {O O' : Nat → Prop} {w0 w w' : World} {hp : Hp} {e : Ending} (H : HH w0 O' hp w) (hO : ∀ b, O b → ∃ j, foot (lookH hp j) b ∧ mutb (lookH hp j) = false) (h : LsQ2 O xs er w e w') :
    ∃ u, e = .returned (den ((lsR c xs er nx).out u).1) ∧ Stp w0 hp w (lsR c xs er nx).wr ((lsR c xs er nx).out u).2 w' := by
  obtain ⟨hb, ⟨h0, rfl⟩ | ⟨h0, B, d, rfl, hs, hf⟩⟩ := h
  · simp only [lsR_n h0]
    exact ⟨⟨0, none, 0, none, 0, mz⟩, rfl, .still hb⟩
  · simp only [lsR_y h0]
    refine ⟨⟨0, B, d, none, 0, mz⟩, rfl, Stp.rd hb ⟨⟨hs, rfl⟩, trivial⟩ fun k b' hx => ?_⟩
    exact foot_look (Q := fun b => w.heap.size ≤ b ∨ ∃ j, foot (lookH hp j) b ∧ mutb (lookH hp j) = false) (l := [(_, _)]) ⟨fun b hb => (hf b hb).imp id (hO b), trivial⟩ hx
theorem rd_old {l : List Nd} {A : Option Addr} {n c k : Nat} {hp : Hp} (h : NdR A n c (lookH hp k)) (hl : l.length = n) : ∀ b, oldOf (rdH l A c) b → ∃ j, foot (lookH hp j) b ∧ mutb (lookH hp j) = false := by
  obtain ⟨nf, nm⟩ := NdR_foot h (g := fun i => ndC (ndAt l i))
  rintro b ⟨j, hj⟩
  refine foot_look (l := rdH l A c) (Q := fun b => ∃ j, foot (lookH hp j) b ∧ mutb (lookH hp j) = false) ⟨fun b hb => ⟨k, nf b (by rw [← hl]; exact hb), nm⟩, trivial⟩ hj
set_option maxRecDepth 100000 in
set_option maxHeartbeats 4000000 in
theorem rOrder_any (l : List Nd) (hlen : l.length ≤ 100000) (hz : zsN l) (A : Option Addr) (c : Nat) (w : World) (h : allRd w.heap.size w (rdH l A c)) :
    Calls Tryz.prog 28 #[.slice A l.length c] w (LsQ2 (oldOf (rdH l A c)) (ordI l 0) (chkV l).2 w) := by
  obtain ⟨q, hq⟩ : ∃ q, q = (chkV l).2 := ⟨_, rfl⟩
  rw [← hq]
  refine calls_go (args := [.g 1000 A l.length c]) (hp := rdH l A c) (nx := 1001) (n := 1000) (U := [(1000000, 16)]) (V := []) (tl := tlRe) (gl := glOr) (post := LsP2 (ordI l 0) q)
    followP tlRe_ok glOr_ok Tryz.func28 rfl (by kernel_rfl) (Nat.le_of_ble_eq_true (by kernel_rfl)) (by kernel_rfl) (by kernel_rfl) (hh_list h) (free_list (by simp [allLt, rdH])) ?_ ?_
  · exact fun s ys w' hp H => LsP2_Q hp H
  intro L F T G nd va hE
  obtain ⟨hL, hF, hs, hv, hT, hG, hR, hI, hJ, hW⟩ := hE
  rw [Tryz.results28] at hF
  simp (maxSteps := 1000000) only [En.nN, En.E, En.evsC, List.map_cons, List.map_nil, Nat.reduceBEq, Nat.reduceAdd, Nat.reduceMul, Nat.reduceEqDiff, Nat.reduceLeDiff, Nat.reduceLT, ne_eq, reduceCtorEq, Int.reduceBEq, Int.reduceBNe, Int.reduceAdd, Int.reduceSub, Int.reduceMul, Int.reduceNeg, Nat.reduceBNe, Int.reduceToNat, Nat.reduceSub, Int.reduceLE, Int.reduceLT] at hv
  simp only [En.at_nil, En.at_cons, En.ag_nil, En.ag_cons, and_true, tlRe, glOr, tyInt, tyI64, tyBool, tyStr, tyErr, tyNode, tyNodes, tyInts] at hT hG
  by_cases h0 : (chkV l).2 = 0
  · have d0 : ((chkV l).2 != 0) = false := by rw [h0]; rfl
    have hg := (chk_ok h0).2.2.1
    have hw := (chk_tree h0).1
    have c0 : (0 : Int) ≤ 0 := Int.le_refl 0
    have c1 : (0 : Int).toNat = 0 := rfl
    rw [h0] at hq
    simp (maxSteps := 10000000) only [En.E, En.evsC, List.map_cons, List.map_nil, Nat.reduceBEq, Nat.reduceAdd, Nat.reduceMul, Nat.reduceEqDiff, Nat.reduceLeDiff, Nat.reduceLT, ne_eq, reduceCtorEq, Int.reduceBEq, Int.reduceBNe, Int.reduceAdd, Int.reduceSub, Int.reduceMul, Int.reduceNeg, Nat.reduceBNe, Int.reduceToNat, Nat.reduceSub, Int.reduceLE, Int.reduceLT, En.vV, hs, hv, hT, hG, hF, rdH, d0, spRChk_q, NdR_q, chL_q, hlen, hz, spOrd_q, hg, hw, c0, c1]
    exact fun B d => .inr ⟨hq, 1001, B, d, rfl, rfl⟩
  · have d0 : ((chkV l).2 != 0) = true := by simpa using h0
    simp (maxSteps := 10000000) only [En.E, En.evsC, List.map_cons, List.map_nil, Nat.reduceBEq, Nat.reduceAdd, Nat.reduceMul, Nat.reduceEqDiff, Nat.reduceLeDiff, Nat.reduceLT, ne_eq, reduceCtorEq, Int.reduceBEq, Int.reduceBNe, Int.reduceAdd, Int.reduceSub, Int.reduceMul, Int.reduceNeg, Nat.reduceBNe, Int.reduceToNat, Nat.reduceSub, Int.reduceLE, Int.reduceLT, En.vV, hs, hv, hT, hG, hF, rdH, d0, spRChk_q, NdR_q, chL_q, hlen, hz]
    exact .inl ⟨by rw [hq]; exact h0, by rw [hq]⟩
def spROrder : Spc
  | [.g k A n c], H, nx => lsR (NdR A n c (H k) ∧ n ≤ 100000 ∧ zsN (chL n (H k))) (ordI (chL n (H k)) 0) (chkV (chL n (H k))).2 nx
  | _, _, _ => .bad
theorem spROrder_q {k n c : Nat} {A : Option Addr} {H : Nat → Ch} {nx : Nat} : spROrder [.g k A n c] H nx = lsR (NdR A n c (H k) ∧ n ≤ 100000 ∧ zsN (chL n (H k))) (ordI (chL n (H k)) 0) (chkV (chL n (H k))).2 nx := rfl
theorem lsR_vc {c : Prop} {xs : List Int} {er : Int} {nx : Nat} (h : (lsR c xs er nx).vc) : c := by
  unfold lsR at h
  cases hq : (er == 0) <;> rw [hq] at h <;> exact h
theorem spROrder_ok : SpecOk Tryz.prog 28 spROrder := by
  intro args hp nx w0 O w H hv
  unfold spROrder at hv ⊢
  split at hv
  · next k A n c =>
    obtain ⟨h1, hn, hz⟩ := lsR_vc hv
    obtain ⟨hl, hh⟩ := NdR_hold h1 (H.hold k)
    have ho := rd_old h1 hl
    generalize chL n (lookH hp k) = l at hl hh hz hv ho ⊢
    subst hl
    exact (rOrder_any l hn hz A c w ⟨⟨hh _, rfl⟩, trivial⟩).mono fun e w' hq => lsR_ok H ho hq
  · exact hv.elim
theorem ask_ok {l : List Nd} {a : Int} (h : askV l a = 0) : (chkV l).2 = 0 ∧ 0 ≤ a ∧ a < l.length ∧ nuV l a.toNat = false := by
  rw [askV] at h
  by_cases h0 : (chkV l).2 = 0
  · rw [if_neg (by simp [h0])] at h
    by_cases h1 : a < 0 ∨ (l.length : Int) ≤ a ∨ nuV l a.toNat = true
    · rw [if_pos h1] at h; cases h
    · refine ⟨h0, by omega, by omega, ?_⟩
      cases e : nuV l a.toNat with
      | false => rfl
      | true => exact absurd (.inr (.inr e)) h1
  · rw [if_pos h0] at h; exact absurd h h0
def sizV (l : List Nd) (a : Int) : Int := if askV l a = 0 then (eR l a.toNat : Int) - a else 0
end Pr
end Go.Proofs.YtpkldfkmokeamaaGreatDoor
