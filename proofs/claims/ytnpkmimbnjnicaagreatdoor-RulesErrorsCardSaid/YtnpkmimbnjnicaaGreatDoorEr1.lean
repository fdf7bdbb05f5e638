/-
slices.Sort of error numbers; rules.Errors and its reference (chapter 21).
-/
import Derived.Test.YtnpkmimbnjnicaaGreatDoorRr1
import Derived.Test.YtnpkmimbnjnicaaGreatDoorShelf2
import Derived.Sort.OwnSortedInts
import Derived.Shelf.SortM.SortNone
import Derived.Shelf.SortM.Plain
import Derived.Test.YtnpkmimbnjnicaaGreatDoorRl2
set_option linter.unusedSimpArgs false
set_option linter.unusedVariables false
namespace Go.Proofs.YtnpkmimbnjnicaaGreatDoor
namespace Pr
open Go Go.RowKit En
open Lt Go.Sort
def iV (x : Int) : SV := .v (.int .i64 x)
def iS : SV → Int
  | .v (.int .i64 x) => x
  | _ => 0
def iL (cs : List SV) : List Int := cs.map iS
theorem dens_iV (us : List Int) : dens (us.map iV) = us.map (Value.int .i64) := by rw [dens_eq, List.map_map]; rfl
def sortI (us : List Int) : List Int := us.mergeSort fun x y => decide (x ≤ y)
def seC (A : Option Addr) (c n : Nat) : Ch → Prop
  | .rowV A' c' _ z n' cs => A = A' ∧ c = c' ∧ z = 1 ∧ n = n' ∧ n ≤ 100000 ∧ cs = (iL cs).map iV
  | _ => False
def seU : Ch → List Int
  | .rowV _ _ _ _ _ cs => iL cs
  | _ => []
def seE : Ch → TypeId
  | .rowV _ _ e _ _ _ => e
  | _ => 0
theorem seC_inv {A : Option Addr} {c n : Nat} {x : Ch} (h : seC A c n x) : n ≤ 100000 ∧ x = .rowV A c (seE x) 1 n ((seU x).map iV) := by
  unfold seC at h
  split at h
  · obtain ⟨rfl, rfl, rfl, rfl, h1, h2⟩ := h
    exact ⟨h1, by simp only [seE, seU]; rw [← h2]⟩
  · exact h.elim
def spSortE : Spc
  | [.g k A n c], H, _ => .app (seC A c n (H k)) k fun _ _ => (.tup [], [(k, .rowV A c (seE (H k)) 1 n ((sortI (seU (H k))).map iV))])
  | [.v (.slice none 0 0)], _, _ => .is True (.tup [])
  | _, _, _ => .bad
theorem spSortE_q {k n c nx : Nat} {A : Option Addr} {H : Nat → Ch} : spSortE [.g k A n c] H nx = .app (seC A c n (H k)) k fun _ _ => (.tup [], [(k, .rowV A c (seE (H k)) 1 n ((sortI (seU (H k))).map iV))]) := rfl
theorem spSortE_z {nx : Nat} {H : Nat → Ch} : spSortE [.v (.slice none 0 0)] H nx = .is True (.tup []) := rfl
theorem stp_rowE {O : Nat → Prop} {w0 w w' : World} {hp : Hp} {k g : Nat} {c : Ch} (H : HH w0 O hp w) (hm : mutb (lookH hp k) = true) (hg : foot (lookH hp k) g) (h : w.grownBy w' (some g)) (hh : Hold w0.heap.size w' c) (hf : ∀ b, foot c b → b = g) : Stp w0 hp w (some k) [(k, c)] w' := by
  have hk : ∀ j, has [(k, c)] j = true → j = k := by
    intro j h
    simp only [has] at h
    cases e : (k == j)
    · rw [e] at h; cases h
    · exact (eq_of_beq e).symm
  have hl : lookH [(k, c)] k = c := by simp [lookH]
  refine ⟨h.os, h.tape, h.output, h.size, fun b hb hn => h.block b hb ?_, fun j hj => ?_, fun j hj => ?_, fun j hj b hb => ?_, fun i j hij hi hj => ?_⟩
  · intro e
    cases e
    exact hn k rfl hg
  · cases hj
    exact ⟨hm, by simp [has]⟩
  · cases hk j hj; rw [hl]; exact hh
  · cases hk j hj
    rw [hl] at hb
    cases hf b hb
    exact .inr ⟨k, hg, .inl ⟨hm, by simp [has]⟩⟩
  · exact absurd ((hk i hi).trans (hk j hj).symm) hij
theorem spSortE_ok : SpecOk Tryz.prog 24 spSortE := by
  intro args hp nx w0 O w H hv
  unfold spSortE at hv ⊢
  split at hv
  · next k A n c =>
    have hv : seC A c n (lookH hp k) := hv
    obtain ⟨hn, hx⟩ := seC_inv hv
    have hk := H.hold k
    rw [hx] at hk
    generalize seU (lookH hp k) = us at hx hk ⊢
    generalize seE (lookH hp k) = e at hx hk ⊢
    obtain ⟨h1, h2⟩ := hk
    rw [dens_iV, List.length_map, Nat.mul_one] at h1
    have hlen : (sortI us).length = us.length := by simp [sortI]
    rcases h2 with ⟨e0, h0⟩ | ⟨g, cap, cur, e0, hb, hg, g1, g2, g3, g4⟩
    · cases e0
      have hus : us = [] := List.eq_nil_of_length_eq_zero h1
      subst hus
      refine (AnyM.slices_Sort_int_none laysSortE none 0 w).mono ?_
      rintro e w' ⟨rfl, rfl⟩
      refine ⟨⟨0, none, 0, none, 0, mz⟩, rfl, Stp.put (by rw [hx]; rfl) rfl rfl rfl rfl (fun _ _ => rfl) ⟨by rw [dens_iV, List.length_map]; simp [sortI], .inl ⟨rfl, rfl⟩⟩ ?_⟩
      rintro b ⟨a, ha, _⟩; cases ha
    · cases e0
      rw [dens_iV, Nat.mul_one] at g4
      have hgl : g < w.heap.size := (Array.getElem?_eq_some_iff.1 hg).1
      subst h1
      refine (AnyM.slices_Sort_int laysSortE g 0 c us w (holds_of_blockI hg g4) hgl (by omega)).mono ?_
      rintro e' w' ⟨rfl, m, os, rfl⟩
      refine ⟨⟨0, none, 0, none, 0, mz⟩, rfl, stp_rowE H (g := g) (by rw [hx]; rfl) (by rw [hx]; exact ⟨_, rfl, rfl⟩) (grownBy_sortedI _) ?_ ?_⟩
      · have := ownsRow_sortedI (n := m) (os := os) (ts := sortI us) hlen hb hg g1 g2 g3
        show World.ownsRow _ _ _ _ _ _ _
        rw [dens_iV]
        exact this
      · rintro b ⟨a, ha, rfl⟩; cases ha; rfl
  · refine (AnyM.slices_Sort_int_none laysSortE none 0 w).mono ?_
    rintro e w' ⟨rfl, rfl⟩
    exact ⟨⟨0, none, 0, none, 0, mz⟩, rfl, .still (Below.refl _ _)⟩
  · exact hv.elim
def errT : List (List Int) := [[], [12], [12], [], [], [], [], [], [13, 15], [12], [13], [13], [], [12], [], [11, 12], [11, 12], [11, 12], [11, 12, 13], [11, 12, 13], [11], [11], [11], [11], [11], [11], [11], [11], [11], [11], [11], [11], [11], [], [], [13, 15], [11, 13, 15], [11, 15], [14], [], [11]]
def errL (p : Int) : List Int := if 1 ≤ p then errT.getD p.toNat [] else []
def errC (p : Int) : Int := if 1 ≤ p ∧ p ≤ 40 then 0 else 2
def ErrPost (p : Int) (s : SS) (ys : List SV) : Prop := ∃ X, ys = [X, .v (.int .i64 (errC p))] ∧ getN (lookH s.hp) X = some (errL p)
theorem se1 {A : Option Addr} {c : Nat} {e : TypeId} {x : Int} : seC A c 1 (.rowV A c e 1 1 [.v (.int .i64 x)]) = True := eq_true ⟨rfl, rfl, rfl, rfl, by decide, rfl⟩
theorem se2 {A : Option Addr} {c : Nat} {e : TypeId} {x y : Int} : seC A c 2 (.rowV A c e 1 2 [.v (.int .i64 x), .v (.int .i64 y)]) = True := eq_true ⟨rfl, rfl, rfl, rfl, by decide, rfl⟩
theorem se3 {A : Option Addr} {c : Nat} {e : TypeId} {x y z : Int} : seC A c 3 (.rowV A c e 1 3 [.v (.int .i64 x), .v (.int .i64 y), .v (.int .i64 z)]) = True := eq_true ⟨rfl, rfl, rfl, rfl, by decide, rfl⟩
theorem seU_q {A : Option Addr} {c z n : Nat} {e : TypeId} {cs : List SV} : seU (.rowV A c e z n cs) = iL cs := rfl
theorem seE_q {A : Option Addr} {c z n : Nat} {e : TypeId} {cs : List SV} : seE (.rowV A c e z n cs) = e := rfl
theorem iL_c {x : Int} {cs : List SV} : iL (.v (.int .i64 x) :: cs) = x :: iL cs := rfl
theorem iL_n : iL [] = [] := rfl
theorem st0 {x : Int} : sortI [x] = [x] := by simp [sortI]
theorem st1 : sortI [11, 12] = [11, 12] := by simp [sortI, List.mergeSort, List.MergeSort.Internal.splitInTwo, List.splitAt, List.splitAt.go, List.merge]
theorem st2 : sortI [13, 15] = [13, 15] := by simp [sortI, List.mergeSort, List.MergeSort.Internal.splitInTwo, List.splitAt, List.splitAt.go, List.merge]
theorem st3 : sortI [15, 11] = [11, 15] := by simp [sortI, List.mergeSort, List.MergeSort.Internal.splitInTwo, List.splitAt, List.splitAt.go, List.merge]
theorem st4 : sortI [13, 11, 12] = [11, 12, 13] := by simp [sortI, List.mergeSort, List.MergeSort.Internal.splitInTwo, List.splitAt, List.splitAt.go, List.merge]
theorem st5 : sortI [11, 13, 15] = [11, 13, 15] := by simp [sortI, List.mergeSort, List.MergeSort.Internal.splitInTwo, List.splitAt, List.splitAt.go, List.merge]
theorem iV_q {x : Int} : iV x = .v (.int .i64 x) := rfl
def tlEr : List (TypeId × TI) := [tyInt, tyBool, tyErr, tyErrs, tyInts]
theorem tlEr_ok : TyAll Tryz.prog (lookT tlEr) := tyAll_p tyInt_ok <| tyAll_p tyBool_ok <| tyAll_p tyErr_ok <| tyAll_p tyErrs_ok <| tyAll_p tyInts_ok tyAll_nil
def glEr : List (FuncId × Spc) := [(24, spSortE)]
theorem glEr_ok : GOk Tryz.prog (lookG glEr) := lG_cons (by kernel_rfl) spSortE_ok lG_nil
end Pr
end Go.Proofs.YtnpkmimbnjnicaaGreatDoor
/-
rules.Errors, Total, and their references (chapter 21).
-/
set_option linter.unusedSimpArgs false
set_option linter.unusedVariables false
namespace Go.Proofs.YtnpkmimbnjnicaaGreatDoor
namespace Pr
open Go Go.RowKit En
open Lt
theorem getN_row {hp : Hp} {k n c : Nat} {A : Option Addr} {e : TypeId} {cs : List SV} {xs : List Int} (h : lookH hp k = .rowV A c e 1 n cs) (hl : cs.length = n) (hi : intsOf cs = some xs) : getN (lookH hp) (.g k A n c) = some xs := by
  rw [getN_q, h, getNC, if_pos ⟨rfl, rfl, rfl, hl⟩, hi]
set_option maxRecDepth 100000 in
set_option maxHeartbeats 16000000 in
theorem errs21_any (p : Int) (w : World) : Calls Tryz.prog 8 #[.int .i64 p] w fun f w' => ∃ s xs, f = .returned (oneV xs) ∧ ErrPost p s xs ∧ HH w (oldOf []) s.hp w' := by
  refine calls_go (args := [.v (.int .i64 p)]) (hp := []) (nx := 2000) (n := 600) (U := [(1000000, 38)]) (V := []) (tl := tlEr) (gl := glEr) (post := ErrPost p)
    followP tlEr_ok glEr_ok Tryz.func8 rfl (by kernel_rfl) (Nat.le_of_ble_eq_true (by kernel_rfl)) (by kernel_rfl) (by kernel_rfl) (hh_list trivial) (fun _ _ => rfl) ?_ ?_
  · exact fun s xs w' hp H => ⟨s, xs, rfl, hp, H⟩
  intro L F T G nd va hE
  obtain ⟨hL, hF, hs, hv, hT, hG, hR, hI, hJ, hW⟩ := hE
  rw [Tryz.results8] at hF
  simp (maxSteps := 1000000) only [En.nN, En.E, En.evsC, List.map_cons, List.map_nil, Nat.reduceBEq, Nat.reduceAdd, Nat.reduceMul, Nat.reduceEqDiff, Nat.reduceLeDiff, Nat.reduceLT, ne_eq, reduceCtorEq, Int.reduceBEq, Int.reduceBNe, Int.reduceAdd, Int.reduceSub, Int.reduceMul, Int.reduceTDiv, Int.reduceTMod, Int.reduceNeg, En.bitN, Nat.testBit, Nat.reduceShiftRight, Nat.reduceShiftLeft, Nat.reduceAnd, Nat.reduceOr, Nat.reduceBNe, Int.reduceToNat, Nat.reduceSub, Int.reduceLE, Int.reduceLT] at hv
  simp only [En.at_nil, En.at_cons, En.ag_nil, En.ag_cons, and_true, tlEr, glEr, tyInt, tyBool, tyErr, tyErrs, tyInts] at hT hG
  by_cases h1 : 1 ≤ p ∧ p ≤ 40
  · have hp : p = 1 ∨ p = 2 ∨ p = 3 ∨ p = 4 ∨ p = 5 ∨ p = 6 ∨ p = 7 ∨ p = 8 ∨ p = 9 ∨ p = 10 ∨ p = 11 ∨ p = 12 ∨ p = 13 ∨ p = 14 ∨ p = 15 ∨ p = 16 ∨ p = 17 ∨ p = 18 ∨ p = 19 ∨ p = 20 ∨ p = 21 ∨ p = 22 ∨ p = 23 ∨ p = 24 ∨ p = 25 ∨ p = 26 ∨ p = 27 ∨ p = 28 ∨ p = 29 ∨ p = 30 ∨ p = 31 ∨ p = 32 ∨ p = 33 ∨ p = 34 ∨ p = 35 ∨ p = 36 ∨ p = 37 ∨ p = 38 ∨ p = 39 ∨ p = 40 := by omega
    rcases hp with rfl | rfl | rfl | rfl | rfl | rfl | rfl | rfl | rfl | rfl | rfl | rfl | rfl | rfl | rfl | rfl | rfl | rfl | rfl | rfl | rfl | rfl | rfl | rfl | rfl | rfl | rfl | rfl | rfl | rfl | rfl | rfl | rfl | rfl | rfl | rfl | rfl | rfl | rfl | rfl
    all_goals
      simp (maxSteps := 10000000) only [En.E, En.evsC, List.map_cons, List.map_nil, Nat.reduceBEq, Nat.reduceAdd, Nat.reduceMul, Nat.reduceEqDiff, Nat.reduceLeDiff, Nat.reduceLT, ne_eq, reduceCtorEq, Int.reduceBEq, Int.reduceBNe, Int.reduceAdd, Int.reduceSub, Int.reduceMul, Int.reduceTDiv, Int.reduceTMod, Int.reduceNeg, En.bitN, Nat.testBit, Nat.reduceShiftRight, Nat.reduceShiftLeft, Nat.reduceAnd, Nat.reduceOr, Nat.reduceBNe, Int.reduceToNat, Nat.reduceSub, Int.reduceLE, Int.reduceLT, En.vV, hs, hv, hT, hG, hF, spSortE_q, spSortE_z, se1, se2, se3, seU_q, seE_q, iL_c, iL_n, iV_q, st0, st1, st2, st3, st4, st5]
      intros
      refine ⟨_, rfl, ?_⟩
      first | rfl | exact getN_row rfl rfl rfl
  · have hc : (bif decide (p < 1) then true else decide (40 < p)) = true := by
      cases h2 : decide (p < 1)
      · have := of_decide_eq_false h2
        exact decide_eq_true (by omega)
      · rfl
    simp (maxSteps := 10000000) only [En.E, En.evsC, List.map_cons, List.map_nil, Nat.reduceBEq, Nat.reduceAdd, Nat.reduceMul, Nat.reduceEqDiff, Nat.reduceLeDiff, Nat.reduceLT, ne_eq, reduceCtorEq, Int.reduceBEq, Int.reduceBNe, Int.reduceAdd, Int.reduceSub, Int.reduceMul, Int.reduceTDiv, Int.reduceTMod, Int.reduceNeg, En.bitN, Nat.testBit, Nat.reduceShiftRight, Nat.reduceShiftLeft, Nat.reduceAnd, Nat.reduceOr, Nat.reduceBNe, Int.reduceToNat, Nat.reduceSub, Int.reduceLE, Int.reduceLT, En.vV, hs, hv, hT, hG, hF, hc]
    have e1 : errL p = [] := by
      unfold errL
      split
      · have : ∃ k, p.toNat = 41 + k := ⟨p.toNat - 41, by omega⟩
        obtain ⟨k, e⟩ := this
        rw [e, List.getD_eq_getElem?_getD, List.getElem?_eq_none (by show 41 ≤ 41 + k; omega)]; rfl
      · rfl
    have e2 : errC p = 2 := if_neg h1
    exact ⟨fun h => by rw [h]; rfl, .v (.slice none 0 0), by rw [e2], by rw [e1]; rfl⟩
end Pr
end Go.Proofs.YtnpkmimbnjnicaaGreatDoor
/-
The reference's Errors; Total; the walk of RulesErrors (chapter 21).
-/
set_option linter.unusedSimpArgs false
set_option linter.unusedVariables false
namespace Go.Proofs.YtnpkmimbnjnicaaGreatDoor
namespace Pr
open Go Go.RowKit En
open Lt
theorem memI_c {x p : Int} {xs : List Int} : memI (x :: xs) p = bif x == p then true else memI xs p := by
  show (x == p || _) = _
  cases x == p <;> rfl
theorem memI_n {p : Int} : memI [] p = false := rfl
theorem getN_blk {hp : Hp} {k b n : Nat} {e : TypeId} {cs : List SV} {xs : List Int} (h : lookH hp k = .blk b cs e) (hl : cs.length = n) (hi : intsOf cs = some xs) : getN (lookH hp) (.gp k b 0 n n) = some xs := by
  rw [getN_gp, if_pos (Nat.le_refl _), h, showC, if_pos ⟨rfl, by rw [Nat.zero_add, lenS_eq, hl]; exact Nat.le_refl _⟩]
  subst hl
  rw [Option.bind_some, cut_eq, List.drop_zero, List.take_of_length_le (Nat.le_refl _)]; exact hi
def glRe21 : List (FuncId × Spc) := [(25, spOne), (26, spExt)]
theorem glRe21_ok : GOk Tryz.prog (lookG glRe21) := lG_cons (by kernel_rfl) spOne_ok <| lG_cons (by kernel_rfl) spExt_ok lG_nil
set_option maxRecDepth 100000 in
set_option maxHeartbeats 16000000 in
theorem rerrs21_any (p : Int) (w : World) : Calls Tryz.prog 9 #[.int .i64 p] w fun f w' => ∃ s xs, f = .returned (oneV xs) ∧ ErrPost p s xs ∧ HH w (oldOf []) s.hp w' := by
  refine calls_go (args := [.v (.int .i64 p)]) (hp := []) (nx := 2000) (n := 600) (U := [(1000000, 4)]) (V := []) (tl := tlEr) (gl := glRe21) (post := ErrPost p)
    followP tlEr_ok glRe21_ok Tryz.func9 rfl (by kernel_rfl) (Nat.le_of_ble_eq_true (by kernel_rfl)) (by kernel_rfl) (by kernel_rfl) (hh_list trivial) (fun _ _ => rfl) ?_ ?_
  · exact fun s xs w' hp H => ⟨s, xs, rfl, hp, H⟩
  intro L F T G nd va hE
  obtain ⟨hL, hF, hs, hv, hT, hG, hR, hI, hJ, hW⟩ := hE
  rw [Tryz.results9] at hF
  simp (maxSteps := 1000000) only [En.nN, En.E, En.evsC, List.map_cons, List.map_nil, Nat.reduceBEq, Nat.reduceAdd, Nat.reduceMul, Nat.reduceEqDiff, Nat.reduceLeDiff, Nat.reduceLT, ne_eq, reduceCtorEq, Int.reduceBEq, Int.reduceBNe, Int.reduceAdd, Int.reduceSub, Int.reduceMul, Int.reduceTDiv, Int.reduceTMod, Int.reduceNeg, En.bitN, Nat.testBit, Nat.reduceShiftRight, Nat.reduceShiftLeft, Nat.reduceAnd, Nat.reduceOr, Nat.reduceBNe, Int.reduceToNat, Nat.reduceSub, Int.reduceLE, Int.reduceLT] at hv
  simp only [En.at_nil, En.at_cons, En.ag_nil, En.ag_cons, and_true, tlEr, glRe21, tyInt, tyBool, tyErr, tyErrs, tyInts] at hT hG
  by_cases h1 : 1 ≤ p ∧ p ≤ 40
  · have hp : p = 1 ∨ p = 2 ∨ p = 3 ∨ p = 4 ∨ p = 5 ∨ p = 6 ∨ p = 7 ∨ p = 8 ∨ p = 9 ∨ p = 10 ∨ p = 11 ∨ p = 12 ∨ p = 13 ∨ p = 14 ∨ p = 15 ∨ p = 16 ∨ p = 17 ∨ p = 18 ∨ p = 19 ∨ p = 20 ∨ p = 21 ∨ p = 22 ∨ p = 23 ∨ p = 24 ∨ p = 25 ∨ p = 26 ∨ p = 27 ∨ p = 28 ∨ p = 29 ∨ p = 30 ∨ p = 31 ∨ p = 32 ∨ p = 33 ∨ p = 34 ∨ p = 35 ∨ p = 36 ∨ p = 37 ∨ p = 38 ∨ p = 39 ∨ p = 40 := by omega
    rcases hp with rfl | rfl | rfl | rfl | rfl | rfl | rfl | rfl | rfl | rfl | rfl | rfl | rfl | rfl | rfl | rfl | rfl | rfl | rfl | rfl | rfl | rfl | rfl | rfl | rfl | rfl | rfl | rfl | rfl | rfl | rfl | rfl | rfl | rfl | rfl | rfl | rfl | rfl | rfl | rfl
    all_goals
      simp (maxSteps := 10000000) only [En.E, En.evsC, List.map_cons, List.map_nil, Nat.reduceBEq, Nat.reduceAdd, Nat.reduceMul, Nat.reduceEqDiff, Nat.reduceLeDiff, Nat.reduceLT, ne_eq, reduceCtorEq, Int.reduceBEq, Int.reduceBNe, Int.reduceAdd, Int.reduceSub, Int.reduceMul, Int.reduceTDiv, Int.reduceTMod, Int.reduceNeg, En.bitN, Nat.testBit, Nat.reduceShiftRight, Nat.reduceShiftLeft, Nat.reduceAnd, Nat.reduceOr, Nat.reduceBNe, Int.reduceToNat, Nat.reduceSub, Int.reduceLE, Int.reduceLT, En.vV, hs, hv, hT, hG, hF, spOne_q, getN_gp, if_true, Nat.le_refl, sh1, sh2, sh3, sh4, oneR_q, ln1, ln2, ln3, ln4, memI_c, memI_n, spExt_q, extB]
      intros
      refine ⟨_, rfl, ?_⟩
      first | rfl | exact getN_blk rfl rfl rfl
  · have hc : (bif decide (p < 1) then true else decide (40 < p)) = true := by
      cases h2 : decide (p < 1)
      · have := of_decide_eq_false h2
        exact decide_eq_true (by omega)
      · rfl
    simp (maxSteps := 10000000) only [En.E, En.evsC, List.map_cons, List.map_nil, Nat.reduceBEq, Nat.reduceAdd, Nat.reduceMul, Nat.reduceEqDiff, Nat.reduceLeDiff, Nat.reduceLT, ne_eq, reduceCtorEq, Int.reduceBEq, Int.reduceBNe, Int.reduceAdd, Int.reduceSub, Int.reduceMul, Int.reduceTDiv, Int.reduceTMod, Int.reduceNeg, En.bitN, Nat.testBit, Nat.reduceShiftRight, Nat.reduceShiftLeft, Nat.reduceAnd, Nat.reduceOr, Nat.reduceBNe, Int.reduceToNat, Nat.reduceSub, Int.reduceLE, Int.reduceLT, En.vV, hs, hv, hT, hG, hF, hc]
    have e1 : errL p = [] := by
      unfold errL
      split
      · have : ∃ k, p.toNat = 41 + k := ⟨p.toNat - 41, by omega⟩
        obtain ⟨k, e⟩ := this
        rw [e, List.getD_eq_getElem?_getD, List.getElem?_eq_none (by show 41 ≤ 41 + k; omega)]; rfl
      · rfl
    have e2 : errC p = 2 := if_neg h1
    exact ⟨fun h => by rw [h]; rfl, .v (.slice none 0 0), by rw [e2], by rw [e1]; rfl⟩
def spErrs21 : Spc
  | [.v (.int .i64 p)], _, nx => .val True fun A c => (.tup [.g nx A (errL p).length c, .v (.int .i64 (errC p))], [(nx, .ints A c .i64 (errL p))])
  | _, _, _ => .bad
theorem spErrs21_q {p : Int} {H : Nat → Ch} {nx : Nat} : spErrs21 [.v (.int .i64 p)] H nx = .val True fun A c => (.tup [.g nx A (errL p).length c, .v (.int .i64 (errC p))], [(nx, .ints A c .i64 (errL p))]) := (rfl)
theorem spErrs21_of {fid : FuncId} (h : ∀ (p : Int) (w : World), Calls Tryz.prog fid #[.int .i64 p] w fun f w' => ∃ s xs, f = .returned (oneV xs) ∧ ErrPost p s xs ∧ HH w (oldOf []) s.hp w') : SpecOk Tryz.prog fid spErrs21 := by
  intro args hp nx w0 O w H hv
  unfold spErrs21 at hv ⊢
  split at hv
  · next p =>
    refine (h p w).mono ?_
    rintro e w' ⟨s, xs, rfl, ⟨X, rfl, hX⟩, HS⟩
    obtain ⟨A, c, e1, s1, f1⟩ := getN_ok HS hX
    refine ⟨⟨0, A, c, none, 0, mz⟩, by simp [oneV, Res.out, den, dens, e1], Stp.rd HS.below ⟨⟨s1, rfl⟩, trivial⟩ fun k b hf => .inl ?_⟩
    refine foot_lookL (Q := fun b => w.heap.size ≤ b) (l := [(_, _)]) ⟨?_, trivial⟩ hf
    rintro b ⟨hne, hx⟩
    rcases HS.old _ b (f1 hne b hx) with h | ⟨k, hk⟩
    · exact h
    · exact hk.elim
  · exact hv.elim
theorem spErrs21_ok : SpecOk Tryz.prog 8 spErrs21 := spErrs21_of errs21_any
theorem spRErrs21_ok : SpecOk Tryz.prog 9 spErrs21 := spErrs21_of rerrs21_any
def totV (p : Int) : Bool := bif errC p == 0 then ((errL p).length : Int) == 0 else false
def glTot21 : List (FuncId × Spc) := [(8, spErrs21), (9, spErrs21)]
theorem glTot21_ok : GOk Tryz.prog (lookG glTot21) := lG_cons (by kernel_rfl) spErrs21_ok <| lG_cons (by kernel_rfl) spRErrs21_ok lG_nil
theorem tot_any (p : Int) (w : World) : Calls Tryz.prog 10 #[.int .i64 p] w fun e w' => e = .returned (den (.tup [.v (.bool (totV p)), .v (.int .i64 (errC p))])) ∧ Below w.heap.size w w' := by
  obtain ⟨q, hq⟩ : ∃ q, q = totV p := ⟨_, rfl⟩
  rw [← hq]
  refine calls_go (args := [.v (.int .i64 p)]) (hp := []) (nx := 1000) (n := 200) (U := []) (V := []) (tl := tlEr) (gl := glTot21) (post := fun s ys => ys = [.v (.bool q), .v (.int .i64 (errC p))])
    followP tlEr_ok glTot21_ok Tryz.func10 rfl (by kernel_rfl) (Nat.le_of_ble_eq_true (by kernel_rfl)) (by kernel_rfl) (by kernel_rfl) (hh_list trivial) (fun _ _ => rfl) ?_ ?_
  · rintro s ys w' rfl H
    exact ⟨rfl, H.below⟩
  intro L F T G nd va hE
  obtain ⟨hL, hF, hs, hv, hT, hG, hR, hI, hJ, hW⟩ := hE
  rw [Tryz.results10] at hF
  simp (maxSteps := 1000000) only [En.nN, En.E, En.evsC, List.map_cons, List.map_nil, Nat.reduceBEq, Nat.reduceAdd, Nat.reduceMul, Nat.reduceEqDiff, Nat.reduceLeDiff, Nat.reduceLT, ne_eq, reduceCtorEq, Int.reduceBEq, Int.reduceBNe, Int.reduceAdd, Int.reduceSub, Int.reduceMul, Int.reduceTDiv, Int.reduceTMod, Int.reduceNeg, En.bitN, Nat.testBit, Nat.reduceShiftRight, Nat.reduceShiftLeft, Nat.reduceAnd, Nat.reduceOr, Nat.reduceBNe, Int.reduceToNat, Nat.reduceSub, Int.reduceLE, Int.reduceLT] at hv
  simp only [En.at_nil, En.at_cons, En.ag_nil, En.ag_cons, and_true, tlEr, glTot21, tyInt, tyBool, tyErr, tyErrs, tyInts] at hT hG
  unfold totV at hq
  cases h1 : (errC p == 0) <;> rw [h1] at hq
  · simp (maxSteps := 10000000) only [En.E, En.evsC, List.map_cons, List.map_nil, Nat.reduceBEq, Nat.reduceAdd, Nat.reduceMul, Nat.reduceEqDiff, Nat.reduceLeDiff, Nat.reduceLT, ne_eq, reduceCtorEq, Int.reduceBEq, Int.reduceBNe, Int.reduceAdd, Int.reduceSub, Int.reduceMul, Int.reduceTDiv, Int.reduceTMod, Int.reduceNeg, En.bitN, Nat.testBit, Nat.reduceShiftRight, Nat.reduceShiftLeft, Nat.reduceAnd, Nat.reduceOr, Nat.reduceBNe, Int.reduceToNat, Nat.reduceSub, Int.reduceLE, Int.reduceLT, En.vV, hs, hv, hT, hG, hF, spErrs21_q, h1, hq]
  · simp (maxSteps := 10000000) only [En.E, En.evsC, List.map_cons, List.map_nil, Nat.reduceBEq, Nat.reduceAdd, Nat.reduceMul, Nat.reduceEqDiff, Nat.reduceLeDiff, Nat.reduceLT, ne_eq, reduceCtorEq, Int.reduceBEq, Int.reduceBNe, Int.reduceAdd, Int.reduceSub, Int.reduceMul, Int.reduceTDiv, Int.reduceTMod, Int.reduceNeg, En.bitN, Nat.testBit, Nat.reduceShiftRight, Nat.reduceShiftLeft, Nat.reduceAnd, Nat.reduceOr, Nat.reduceBNe, Int.reduceToNat, Nat.reduceSub, Int.reduceLE, Int.reduceLT, En.vV, hs, hv, hT, hG, hF, spErrs21_q, h1, hq]
theorem rtot_any (p : Int) (w : World) : Calls Tryz.prog 11 #[.int .i64 p] w fun e w' => e = .returned (den (.tup [.v (.bool (totV p)), .v (.int .i64 (errC p))])) ∧ Below w.heap.size w w' := by
  obtain ⟨q, hq⟩ : ∃ q, q = totV p := ⟨_, rfl⟩
  rw [← hq]
  refine calls_go (args := [.v (.int .i64 p)]) (hp := []) (nx := 1000) (n := 200) (U := []) (V := []) (tl := tlEr) (gl := glTot21) (post := fun s ys => ys = [.v (.bool q), .v (.int .i64 (errC p))])
    followP tlEr_ok glTot21_ok Tryz.func11 rfl (by kernel_rfl) (Nat.le_of_ble_eq_true (by kernel_rfl)) (by kernel_rfl) (by kernel_rfl) (hh_list trivial) (fun _ _ => rfl) ?_ ?_
  · rintro s ys w' rfl H
    exact ⟨rfl, H.below⟩
  intro L F T G nd va hE
  obtain ⟨hL, hF, hs, hv, hT, hG, hR, hI, hJ, hW⟩ := hE
  rw [Tryz.results11] at hF
  simp (maxSteps := 1000000) only [En.nN, En.E, En.evsC, List.map_cons, List.map_nil, Nat.reduceBEq, Nat.reduceAdd, Nat.reduceMul, Nat.reduceEqDiff, Nat.reduceLeDiff, Nat.reduceLT, ne_eq, reduceCtorEq, Int.reduceBEq, Int.reduceBNe, Int.reduceAdd, Int.reduceSub, Int.reduceMul, Int.reduceTDiv, Int.reduceTMod, Int.reduceNeg, En.bitN, Nat.testBit, Nat.reduceShiftRight, Nat.reduceShiftLeft, Nat.reduceAnd, Nat.reduceOr, Nat.reduceBNe, Int.reduceToNat, Nat.reduceSub, Int.reduceLE, Int.reduceLT] at hv
  simp only [En.at_nil, En.at_cons, En.ag_nil, En.ag_cons, and_true, tlEr, glTot21, tyInt, tyBool, tyErr, tyErrs, tyInts] at hT hG
  unfold totV at hq
  cases h1 : (errC p == 0) <;> rw [h1] at hq
  · simp (maxSteps := 10000000) only [En.E, En.evsC, List.map_cons, List.map_nil, Nat.reduceBEq, Nat.reduceAdd, Nat.reduceMul, Nat.reduceEqDiff, Nat.reduceLeDiff, Nat.reduceLT, ne_eq, reduceCtorEq, Int.reduceBEq, Int.reduceBNe, Int.reduceAdd, Int.reduceSub, Int.reduceMul, Int.reduceTDiv, Int.reduceTMod, Int.reduceNeg, En.bitN, Nat.testBit, Nat.reduceShiftRight, Nat.reduceShiftLeft, Nat.reduceAnd, Nat.reduceOr, Nat.reduceBNe, Int.reduceToNat, Nat.reduceSub, Int.reduceLE, Int.reduceLT, En.vV, hs, hv, hT, hG, hF, spErrs21_q, h1, hq]
  · simp (maxSteps := 10000000) only [En.E, En.evsC, List.map_cons, List.map_nil, Nat.reduceBEq, Nat.reduceAdd, Nat.reduceMul, Nat.reduceEqDiff, Nat.reduceLeDiff, Nat.reduceLT, ne_eq, reduceCtorEq, Int.reduceBEq, Int.reduceBNe, Int.reduceAdd, Int.reduceSub, Int.reduceMul, Int.reduceTDiv, Int.reduceTMod, Int.reduceNeg, En.bitN, Nat.testBit, Nat.reduceShiftRight, Nat.reduceShiftLeft, Nat.reduceAnd, Nat.reduceOr, Nat.reduceBNe, Int.reduceToNat, Nat.reduceSub, Int.reduceLE, Int.reduceLT, En.vV, hs, hv, hT, hG, hF, spErrs21_q, h1, hq]
def spTot : Spc
  | [.v (.int .i64 p)], _, _ => .is (True) (.tup [.v (.bool (totV p)), .v (.int .i64 (errC p))])
  | _, _, _ => .bad
theorem spTot_q {p : Int} {H : Nat → Ch} {nx : Nat} : spTot [.v (.int .i64 p)] H nx = .is (True) (.tup [.v (.bool (totV p)), .v (.int .i64 (errC p))]) := (rfl)
theorem spTot_ok : SpecOk Tryz.prog 10 spTot := specOk_is fun args H nx => by
  unfold spTot; split
  · exact fun _ w => tot_any _ w
  · trivial
def spRTot : Spc
  | [.v (.int .i64 p)], _, _ => .is (True) (.tup [.v (.bool (totV p)), .v (.int .i64 (errC p))])
  | _, _, _ => .bad
theorem spRTot_q {p : Int} {H : Nat → Ch} {nx : Nat} : spRTot [.v (.int .i64 p)] H nx = .is (True) (.tup [.v (.bool (totV p)), .v (.int .i64 (errC p))]) := (rfl)
theorem spRTot_ok : SpecOk Tryz.prog 11 spRTot := specOk_is fun args H nx => by
  unfold spRTot; split
  · exact fun _ w => rtot_any _ w
  · trivial
theorem errL_len {p : Int} : (errL p).length ≤ 3 := by
  have h : ∀ i : Fin 41, (errT.getD i.val []).length ≤ 3 := by decide
  unfold errL
  split
  · by_cases h2 : p.toNat < 41
    · exact h ⟨_, h2⟩
    · rw [List.getD_eq_getElem?_getD, List.getElem?_eq_none (by show 41 ≤ p.toNat; omega)]; exact Nat.zero_le _
  · exact Nat.zero_le _
def ewI (bn on cn ba oa ca : Nat) (A A' : Option Addr) (c c' : Nat) (l : List Int) (i : Nat) : SS :=
  ⟨[(3, .g 1000 A l.length c), (5, .g 1512 A' l.length c'), (11, .v (.int .i64 i))], (1512, .ints A' c' .i64 l) :: (1000, .ints A c .i64 l) :: gHp bn on cn ba oa ca, 12000⟩
def glEw : List (FuncId × Spc) := [(8, spErrs21), (9, spErrs21), (10, spTot), (11, spRTot), (12, spTrue)]
theorem glEw_ok : GOk Tryz.prog (lookG glEw) := lG_cons (by kernel_rfl) spErrs21_ok <| lG_cons (by kernel_rfl) spRErrs21_ok <| lG_cons (by kernel_rfl) spTot_ok <| lG_cons (by kernel_rfl) spRTot_ok <| lG_cons (by kernel_rfl) spShown21_ok lG_nil
set_option maxRecDepth 100000 in
set_option maxHeartbeats 8000000 in
theorem errors_walk (p : Int) (bn on cn ba oa ca : Nat) (h4 : 4 ≤ cn) (h3 : 3 ≤ ca) (w : World) (hg : allRd w.heap.size w (gHp bn on cn ba oa ca)) :
    Calls Tryz.prog 3 #[.int .i64 p] w fun e w' => e = .returned (.bool true) ∧ Below w.heap.size w w' := by
  refine calls_go (args := [.v (.int .i64 p)]) (hp := gHp bn on cn ba oa ca) (nx := 1000) (n := 500) (U := [(1000000, 12)]) (V := []) (tl := tlEr) (gl := glEw) (post := fun s ys => ys = [.v (.bool true)])
    followP tlEr_ok glEw_ok Tryz.func3 rfl (by kernel_rfl) (Nat.le_of_ble_eq_true (by kernel_rfl)) (by kernel_rfl) (by kernel_rfl) (hh_list hg) (free_list (by simp [allLt, gHp])) ?_ ?_
  · rintro s ys w' rfl H
    exact ⟨rfl, H.below⟩
  intro L F T G nd va hE
  obtain ⟨hL, hF, hs, hv, hT, hG, hR, hI, hJ, hW⟩ := hE
  rw [Tryz.results3] at hF
  simp (maxSteps := 1000000) only [En.nN, En.E, En.evsC, List.map_cons, List.map_nil, Nat.reduceBEq, Nat.reduceAdd, Nat.reduceMul, Nat.reduceEqDiff, Nat.reduceLeDiff, Nat.reduceLT, ne_eq, reduceCtorEq, Int.reduceBEq, Int.reduceBNe, Int.reduceAdd, Int.reduceSub, Int.reduceMul, Int.reduceTDiv, Int.reduceTMod, Int.reduceNeg, En.bitN, Nat.testBit, Nat.reduceShiftRight, Nat.reduceShiftLeft, Nat.reduceAnd, Nat.reduceOr, Nat.reduceBNe, Int.reduceToNat, Nat.reduceSub, Int.reduceLE, Int.reduceLT] at hv
  simp only [En.at_nil, En.at_cons, En.ag_nil, En.ag_cons, and_true, tlEr, glEw, tyInt, tyBool, tyErr, tyErrs, tyInts] at hT hG
  have b0 : ∀ b : Bool, (b != b) = false := fun b => by cases b <;> rfl
  have b1 : ∀ b : Int, (b != b) = false := fun b => by simp
  simp (maxSteps := 10000000) only [En.E, En.evsC, List.map_cons, List.map_nil, Nat.reduceBEq, Nat.reduceAdd, Nat.reduceMul, Nat.reduceEqDiff, Nat.reduceLeDiff, Nat.reduceLT, ne_eq, reduceCtorEq, Int.reduceBEq, Int.reduceBNe, Int.reduceAdd, Int.reduceSub, Int.reduceMul, Int.reduceTDiv, Int.reduceTMod, Int.reduceNeg, En.bitN, Nat.testBit, Nat.reduceShiftRight, Nat.reduceShiftLeft, Nat.reduceAnd, Nat.reduceOr, Nat.reduceBNe, Int.reduceToNat, Nat.reduceSub, Int.reduceLE, Int.reduceLT, En.vV, hs, hv, hT, hG, hF, gHp, h4, h3, globR_q, spErrs21_q, spTot_q, spRTot_q, b0, b1]
  intro A c A' c'
  have hl3 := errL_len (p := p)
  refine hI {i : Nat // i ≤ (errL p).length} (fun y => ewI bn on cn ba oa ca A A' c c' (errL p) y.1) (fun x => (errL p).length - x.1) _ _ _ ⟨0, Nat.zero_le _⟩ (sle_all [1512, 1000, 0, 1, 2, 3] (by decide) (by simp only [En.E, En.evsC, List.map_cons, List.map_nil, Nat.reduceBEq, Nat.reduceAdd, Nat.reduceMul, Nat.reduceEqDiff, Nat.reduceLeDiff, Nat.reduceLT, ne_eq, reduceCtorEq, Int.reduceBEq, Int.reduceBNe, Int.reduceAdd, Int.reduceSub, Int.reduceMul, Int.reduceTDiv, Int.reduceTMod, Int.reduceNeg, En.bitN, Nat.testBit, Nat.reduceShiftRight, Nat.reduceShiftLeft, Nat.reduceAnd, Nat.reduceOr, Nat.reduceBNe, Int.reduceToNat, Nat.reduceSub, Int.reduceLE, Int.reduceLT, En.slLe, En.hpLe, En.chE, En.allLt, ewI, gHp, Int.cast_ofNat_Int])) ?_
  rintro ⟨i, hi⟩
  refine hR 400 _ _ ?_
  by_cases hlt : i < (errL p).length
  · have d0 : decide ((i : Int) < ((errL p).length : Int)) = true := decide_eq_true (by omega)
    have i1 : inr .i64 ((i : Int) + 1) := by simp only [En.inr, En.lo, En.hi]; omega
    simp (maxSteps := 10000000) only [En.E, En.evsC, List.map_cons, List.map_nil, Nat.reduceBEq, Nat.reduceAdd, Nat.reduceMul, Nat.reduceEqDiff, Nat.reduceLeDiff, Nat.reduceLT, ne_eq, reduceCtorEq, Int.reduceBEq, Int.reduceBNe, Int.reduceAdd, Int.reduceSub, Int.reduceMul, Int.reduceTDiv, Int.reduceTMod, Int.reduceNeg, En.bitN, Nat.testBit, Nat.reduceShiftRight, Nat.reduceShiftLeft, Nat.reduceAnd, Nat.reduceOr, Nat.reduceBNe, Int.reduceToNat, Nat.reduceSub, Int.reduceLE, Int.reduceLT, En.vV, hs, hv, hT, hG, hF, ewI, gHp, d0, b1, Int.toNat_natCast, i1]
    refine ⟨by omega, by omega, by omega, by omega, ⟨i + 1, by omega⟩, (sle_all [1512, 1000, 0, 1, 2, 3] (by decide) (by simp only [En.E, En.evsC, List.map_cons, List.map_nil, Nat.reduceBEq, Nat.reduceAdd, Nat.reduceMul, Nat.reduceEqDiff, Nat.reduceLeDiff, Nat.reduceLT, ne_eq, reduceCtorEq, Int.reduceBEq, Int.reduceBNe, Int.reduceAdd, Int.reduceSub, Int.reduceMul, Int.reduceTDiv, Int.reduceTMod, Int.reduceNeg, En.bitN, Nat.testBit, Nat.reduceShiftRight, Nat.reduceShiftLeft, Nat.reduceAnd, Nat.reduceOr, Nat.reduceBNe, Int.reduceToNat, Nat.reduceSub, Int.reduceLE, Int.reduceLT, En.slLe, En.hpLe, En.chE, En.allLt, ewI, gHp, Int.natCast_add, Int.cast_ofNat_Int])), by simp only; omega⟩
  · have d0 : decide ((i : Int) < ((errL p).length : Int)) = false := decide_eq_false (by omega)
    simp (maxSteps := 10000000) only [En.E, En.evsC, List.map_cons, List.map_nil, Nat.reduceBEq, Nat.reduceAdd, Nat.reduceMul, Nat.reduceEqDiff, Nat.reduceLeDiff, Nat.reduceLT, ne_eq, reduceCtorEq, Int.reduceBEq, Int.reduceBNe, Int.reduceAdd, Int.reduceSub, Int.reduceMul, Int.reduceTDiv, Int.reduceTMod, Int.reduceNeg, En.bitN, Nat.testBit, Nat.reduceShiftRight, Nat.reduceShiftLeft, Nat.reduceAnd, Nat.reduceOr, Nat.reduceBNe, Int.reduceToNat, Nat.reduceSub, Int.reduceLE, Int.reduceLT, En.vV, hs, hv, hT, hG, hF, ewI, gHp, h4, h3, globR_q, spTrue_q, d0, Int.toNat_natCast]
end Pr
end Go.Proofs.YtnpkmimbnjnicaaGreatDoor
