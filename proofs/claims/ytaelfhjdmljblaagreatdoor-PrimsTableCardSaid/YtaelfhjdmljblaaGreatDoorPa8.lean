/-
prims.Do of add, for what the laws of chapter 12 ask beforehand; their arrays (chapter 12).
-/
import Derived.Test.YtaelfhjdmljblaaGreatDoorPa7
import Derived.Test.YtaelfhjdmljblaaGreatDoorEa3
import Derived.Test.YtaelfhjdmljblaaGreatDoorBa9
import Derived.Test.YtaelfhjdmljblaaGreatDoorBa7
import Derived.Test.YtaelfhjdmljblaaGreatDoorBa4
set_option linter.unusedSimpArgs false
set_option linter.unusedVariables false
namespace Go.Proofs.YtaelfhjdmljblaaGreatDoor
namespace Pr
open Go Go.RowKit En
open Ar Sc
def FineA (a : Arr) : Prop := a.xs.length ≤ 100000 ∧ Fits a.l0 ∧ Fits a.l1 ∧ ∀ x ∈ a.xs, Fits x
def spCheckA : Spc
  | [x], H, _ => .is ((getA H x).1 ∧ (getA H x).2.xs.length ≤ 9223372036854775807 ∧ Fits (getA H x).2.l0 ∧ Fits (getA H x).2.l1) (.v (.int .i64 (chk (getA H x).2)))
  | _, _, _ => .bad
theorem spCheckA_q {x : SV} {H : Nat → Ch} {nx : Nat} : spCheckA [x] H nx = .is ((getA H x).1 ∧ (getA H x).2.xs.length ≤ 9223372036854775807 ∧ Fits (getA H x).2.l0 ∧ Fits (getA H x).2.l1) (.v (.int .i64 (chk (getA H x).2))) := (rfl)
theorem spCheckA_ok : SpecOk Tryz.prog 38 spCheckA := by
  intro args hp nx w0 O w H hv
  match args, hv with
  | [x], ⟨h1, h2, h3, h4⟩ =>
    obtain ⟨A, c, e, hs, hc⟩ := getA_ok H h1
    refine bool_ok ?_
    simp only [dens, e]
    exact Ar.ac_any _ A c h2 h3 h4 w hs
def spTwoA : Spc
  | [.v (.int .i64 p), x, y], H, nx => ret2 nx ((getA H x).1 ∧ (getA H y).1 ∧ FineA (getA H x).2 ∧ FineA (getA H y).2) (extTwo p (getA H x).2 (getA H y).2)
  | _, _, _ => .bad
theorem spTwoA_q {p : Int} {x y : SV} {H : Nat → Ch} {nx : Nat} : spTwoA [.v (.int .i64 p), x, y] H nx = ret2 nx ((getA H x).1 ∧ (getA H y).1 ∧ FineA (getA H x).2 ∧ FineA (getA H y).2) (extTwo p (getA H x).2 (getA H y).2) := (rfl)
theorem spTwoA_ok : SpecOk Tryz.prog 40 spTwoA := by
  intro args hp nx w0 O w H hv
  unfold spTwoA at hv ⊢
  split at hv
  · next p x y =>
    obtain ⟨h1, h2, ⟨a1, a2, a3, a4⟩, ⟨b1, b2, b3, b4⟩⟩ := hv
    obtain ⟨A, c, e1, hs, _⟩ := getA_ok H h1
    obtain ⟨B, d, e2, ht, _⟩ := getA_ok H h2
    refine ret2_ok H.below.size ?_
    simp only [dens, den, e1, e2]
    exact two_any p _ _ A B c d a1 a2 a3 b1 b2 b3 a4 b4 w hs ht
  · exact hv.elim
def spSame06 : Spc
  | [x, y], H, _ => .is ((getA H x).1 ∧ (getA H y).1 ∧ (getA H x).2.xs.length ≤ 9223372036854775807 ∧ (getA H y).2.xs.length ≤ 9223372036854775807) (.v (.bool (same (getA H x).2 (getA H y).2)))
  | _, _, _ => .bad
theorem spSame06_q {x y : SV} {H : Nat → Ch} {nx : Nat} : spSame06 [x, y] H nx = .is ((getA H x).1 ∧ (getA H y).1 ∧ (getA H x).2.xs.length ≤ 9223372036854775807 ∧ (getA H y).2.xs.length ≤ 9223372036854775807) (.v (.bool (same (getA H x).2 (getA H y).2))) := (rfl)
theorem spSame06_ok : SpecOk Tryz.prog 21 spSame06 := by
  intro args hp nx w0 O w H hv
  match args, hv with
  | [x, y], ⟨h1, h2, h3, h4⟩ =>
    obtain ⟨A, c, e, hs, hc⟩ := getA_ok H h1
    obtain ⟨B, d, e', ht, hd⟩ := getA_ok H h2
    refine bool_ok ?_
    simp only [dens, e, e', den]
    exact same_any _ _ A B c d h3 h4 w hs ht
def intsAR (nx : Nat) : Option (List Int) → Res
  | some xs => .val (xs.length ≤ 100000) fun A c => (arS nx A c ⟨1, 1, xs.length, 0, xs⟩, [(nx, .ints A c .i64 xs)])
  | none => .bad
def spIntsA : Spc
  | [x], H, nx => intsAR nx (getN H x)
  | _, _, _ => .bad
theorem spIntsA_q {x : SV} {H : Nat → Ch} {nx : Nat} : spIntsA [x] H nx = intsAR nx (getN H x) := (rfl)
theorem intsAR_q {nx : Nat} {xs : List Int} : intsAR nx (some xs) = .val (xs.length ≤ 100000) fun A c => (arS nx A c ⟨1, 1, xs.length, 0, xs⟩, [(nx, .ints A c .i64 xs)]) := (rfl)
theorem slok_sl {w : World} {A : Option Addr} {c : Nat} {xs : List Int} (h : SlOk w A c 1 xs.length (fI .i64 xs)) : Sl w A xs := fun hn => by
  obtain ⟨b, o, e, hb, hf⟩ := h.2 (by simpa using hn)
  refine ⟨b, o, e, hb, fun j hj => ?_⟩
  have := hf j hj 0 (by omega)
  simpa [fI] using this
theorem spIntsA_ok : SpecOk Tryz.prog 30 spIntsA := by
  intro args hp nx w0 O w H hv
  match args, hv with
  | [x], hv =>
    rw [spIntsA_q] at hv ⊢
    cases hX : getN (lookH hp) x with
    | none => rw [hX] at hv; exact hv.elim
    | some xs =>
      rw [hX] at hv
      have hv : xs.length ≤ 100000 := hv
      obtain ⟨A, c, e1, s1, _⟩ := getN_ok H hX
      rw [show dens [x] = [Value.slice A xs.length c] by simp [dens, e1]]
      refine (ints_any A c xs xs.length rfl hv w (slok_sl s1)).mono ?_
      rintro e w' ⟨hb, C, n, rfl, hs, hg, hn⟩
      refine ⟨⟨0, C, n, none, 0, mz⟩, rfl, Stp.one (c := .ints C n .i64 xs) hb (sl_hold hs hn) fun b hf => .inl ?_⟩
      obtain ⟨hne, a, e, rfl⟩ := hf
      obtain ⟨g, o, e', _, _⟩ := hs hne
      have e : C = some a := e
      rw [e] at e'; cases e'
      exact hg g o e
def gamDo : Gam := gcons 31 spFind (gcons 32 spArity (gcons 38 spCheckA (gcons 40 spTwoA gnil)))
theorem gamDo_ok : GOk Tryz.prog gamDo := gOk_cons (by kernel_rfl) spFind_ok <| gOk_cons (by kernel_rfl) spArity_ok <| gOk_cons (by kernel_rfl) spCheckA_ok <| gOk_cons (by kernel_rfl) spTwoA_ok gOk_nil
def tiDo : List (TypeId × TI) :=
  (33, ⟨true, true, 5, [.v (.int .i64 0), .v (.int .i64 0), .v (.int .i64 0), .v (.int .i64 0), .v (.slice none 0 0)], [(0, 1), (1, 1), (2, 2), (4, 1)], 0, 0, 0, 4, 0⟩) ::
  (28, ⟨true, false, 1, [.v (.slice none 0 0)], [], 33, 0, 56, 1, 5⟩) ::
  (57, ⟨true, false, 1, [.v .nilFunc], [], 0, 0, 0, 6, 0⟩) ::
  (58, ⟨true, false, 1, [.v .nilFunc], [], 0, 0, 0, 6, 0⟩) :: tiFits
theorem tiDo_ok : TyAll Tryz.prog (lookT tiDo) :=
  tyAll_cons (.mk' (by kernel_rfl) (by kernel_rfl) (by decide) (by decide) (by kernel_rfl) (by kernel_rfl)) <|
  tyAll_cons (.mk' (by kernel_rfl) (by kernel_rfl) (by decide) (by decide) (by kernel_rfl) (by kernel_rfl)) <|
  tyAll_cons (.mk' (by kernel_rfl) (by kernel_rfl) (by decide) (by decide) (by kernel_rfl) (by kernel_rfl)) <|
  tyAll_cons (.mk' (by kernel_rfl) (by kernel_rfl) (by decide) (by decide) (by kernel_rfl) (by kernel_rfl)) tiFits_ok
def arL (key : Nat) (A : Option Addr) (c : Nat) (a : Arr) : List SV := [.v (.int .i64 a.k), .v (.int .i64 a.r), .v (.int .i64 a.l0), .v (.int .i64 a.l1), .g key A a.xs.length c]
def doHp (g : Nat) (cs : List SV) (A B : Option Addr) (c d : Nat) (xs ys : List Int) (bn on cn ba oa ca : Nat) : Hp := (1000, .cst g 0 cs) :: (1001, .ints A c .i64 xs) :: (1002, .ints B d .i64 ys) :: gHp bn on cn ba oa ca
theorem ar15 : ((⟨#[105, 48, 105, 110, 105, 110]⟩ : ByteArray).size : Int).tdiv 2 - 1 = 2 := by rfl
theorem sz15 : (⟨#[105, 48, 105, 110, 105, 110]⟩ : ByteArray).size ≤ 1000 := by decide
theorem lin15 : linesAt 15 = [⟨#[105, 48, 105, 110, 105, 110]⟩, ⟨#[105, 110, 105, 48, 105, 110]⟩, ⟨#[105, 110, 105, 110, 105, 110]⟩] := rfl
theorem fnd15 : findE 15 = 0 := rfl
theorem one15 : oneAt 15 = .nilFunc := rfl
theorem two15 : twoAt 15 = .nilFunc := rfl
def DoPost (r : Int × Arr) (s : SS) (ys : List SV) : Prop := ∃ key A c, ys = [arS key A c r.2, .v (.int .i64 r.1)] ∧ (lookH s.hp key = .own A c .i64 r.2.xs)
set_option maxRecDepth 100000 in
set_option maxHeartbeats 4000000 in
theorem do15_two (a b : Arr) (A B : Option Addr) (c d g m : Nat) (fa : FineA a) (fb : FineA b) (ca' : chk a = 0) (cb' : chk b = 0) (bn on cn ba oa ca : Nat) (h4 : 4 ≤ cn) (h3 : 3 ≤ ca) (w : World)
    (hg : allRd w.heap.size w (doHp g (arL 1001 A c a ++ arL 1002 B d b) A B c d a.xs b.xs bn on cn ba oa ca)) :
    Calls Tryz.prog 15 #[.int .i64 15, .slice (some ⟨g, 0, none⟩) 2 m] w fun e w' => ∃ (s : SS) (ys : List SV), e = .returned (oneV ys) ∧ HH w (oldOf (doHp g (arL 1001 A c a ++ arL 1002 B d b) A B c d a.xs b.xs bn on cn ba oa ca)) s.hp w' ∧ DoPost (extTwo 15 a b) s ys := by
  refine calls_run (args := [.v (.int .i64 15), .gp 1000 g 0 2 m]) (hp := doHp g (arL 1001 A c a ++ arL 1002 B d b) A B c d a.xs b.xs bn on cn ba oa ca) (nx := 1003) (n := 600) (U := [(7, 3), (1000000, 29)]) (V := []) (T := lookT tiDo) (G := gamDo)
    (post := DoPost (extTwo 15 a b))
    followP tiDo_ok gamDo_ok Tryz.func15 rfl (by kernel_rfl) (by show 2 ≤ 87; decide) (hh_list hg) (free_list (by simp [allLt, gHp, doHp])) ?_ ?_
  · intro s ys w' h1 H
    exact ⟨s, ys, rfl, H, h1⟩
  rw [Tryz.results15]
  simp (maxSteps := 1000000) only [En.evs0, En.evs1, En.evs2, En.evs3, En.evs4, En.evs5, En.evs6, En.evs7, En.evs8, En.evs9, En.evs10, En.evs11, En.evx0, List.toList_toArray, cond_true, cond_false, Nat.reduceBEq, Nat.reduceAdd, Nat.reduceMul, Nat.reduceEqDiff, Nat.reduceLeDiff, Nat.reduceLT, Bool.true_and, Bool.and_true, Bool.false_and, Bool.and_false, true_and, and_true, and_self, ne_eq, not_false_eq_true, reduceCtorEq, Bool.not_true, Bool.not_false, true_implies, not_true_eq_false, false_or, or_false, true_or, or_true, List.nil_append, List.cons_append, List.append_nil, List.map_cons, List.map_nil, Nat.le_refl, eq_self, forall_const, decide_true, decide_false, beq_self_eq_true, bne_self_eq_false, beq_true, beq_false, imp_self, Bool.true_beq, Bool.false_beq, Bool.bne_true, Bool.bne_false, Bool.true_bne, Bool.false_bne, Int.cast_ofNat_Int, Int.natCast_zero, Int.natCast_one, Int.reduceBEq, Int.reduceBNe, Int.reduceAdd, Int.reduceSub, Int.reduceMul, Int.reduceTDiv, Int.reduceTMod, Int.reduceNeg, Nat.add_sub_cancel_left, Nat.sub_self, Nat.le_add_right, List.append_eq, List.getD_cons_zero, List.getD_cons_succ, implies_true, false_implies, Bool.not_not, Bool.or_true, Bool.true_or, Bool.or_false, Bool.false_or, En.bitN, Nat.testBit, Nat.reduceShiftRight, Nat.reduceShiftLeft, Nat.reduceAnd, Nat.reduceOr, Nat.reduceBNe, Nat.zero_or, Nat.or_zero, Nat.sub_zero, Int.reduceToNat, Nat.reduceSub, Nat.zero_add, Nat.add_zero, List.length_cons, List.length_nil, Nat.zero_mul, Nat.reduceLeDiff, Int.reduceLE, Int.reduceLT, List.cons_ne_nil, tiDo, tiFits, tiT, tiP, gamDo, doHp, arL, spFind_q, spArity_q, arityS_q, spCheckA_q, spTwoA_q, getA_q, getA_z, getC_q, getC_own, En.ret2, arr_eta, globR_q, gHp, h4, h3, lin15, fnd15, one15, two15, ar15, sz15, En.arS, ca', cb', List.cons_append, List.nil_append]
  intro b1 A1 c1 D e b2 b3
  refine ⟨⟨by have := fa.1; omega, fa.2.1, fa.2.2.1⟩, by simp [En.inr, En.lo, En.hi], fun b4 => ⟨⟨by have := fb.1; omega, fb.2.1, fb.2.2.1⟩, by simp [En.inr, En.lo, En.hi], ⟨fa, fb⟩, fun A2 c2 => ?_⟩⟩
  exact ⟨_, A2, c2, rfl, rfl⟩
set_option maxRecDepth 100000 in
set_option maxHeartbeats 4000000 in
theorem do15_one (a : Arr) (A : Option Addr) (c g m : Nat) (bn on cn ba oa ca : Nat) (h4 : 4 ≤ cn) (h3 : 3 ≤ ca) (w : World)
    (hg : allRd w.heap.size w (doHp g (arL 1001 A c a) A none c 0 a.xs [] bn on cn ba oa ca)) :
    Calls Tryz.prog 15 #[.int .i64 15, .slice (some ⟨g, 0, none⟩) 1 m] w fun e w' => e = .returned (.tuple #[.agg #[.int .i64 0, .int .i64 0, .int .i64 0, .int .i64 0, .slice none 0 0], .int .i64 23]) ∧ Below w.heap.size w w' := by
  refine calls_run (args := [.v (.int .i64 15), .gp 1000 g 0 1 m]) (hp := doHp g (arL 1001 A c a) A none c 0 a.xs [] bn on cn ba oa ca) (nx := 1003) (n := 600) (U := [(7, 3), (1000000, 29)]) (V := []) (T := lookT tiDo) (G := gamDo)
    (post := fun s ys => ys = [.agg [.v (.int .i64 0), .v (.int .i64 0), .v (.int .i64 0), .v (.int .i64 0), .v (.slice none 0 0)], .v (.int .i64 23)])
    followP tiDo_ok gamDo_ok Tryz.func15 rfl (by kernel_rfl) (by show 2 ≤ 87; decide) (hh_list hg) (free_list (by simp [allLt, gHp, doHp])) ?_ ?_
  · rintro s ys w' rfl H
    exact ⟨rfl, H.below⟩
  rw [Tryz.results15]
  simp (maxSteps := 1000000) only [En.evs0, En.evs1, En.evs2, En.evs3, En.evs4, En.evs5, En.evs6, En.evs7, En.evs8, En.evs9, En.evs10, En.evs11, En.evx0, List.toList_toArray, cond_true, cond_false, Nat.reduceBEq, Nat.reduceAdd, Nat.reduceMul, Nat.reduceEqDiff, Nat.reduceLeDiff, Nat.reduceLT, Bool.true_and, Bool.and_true, Bool.false_and, Bool.and_false, true_and, and_true, and_self, ne_eq, not_false_eq_true, reduceCtorEq, Bool.not_true, Bool.not_false, true_implies, not_true_eq_false, false_or, or_false, true_or, or_true, List.nil_append, List.cons_append, List.append_nil, List.map_cons, List.map_nil, Nat.le_refl, eq_self, forall_const, decide_true, decide_false, beq_self_eq_true, bne_self_eq_false, beq_true, beq_false, imp_self, Bool.true_beq, Bool.false_beq, Bool.bne_true, Bool.bne_false, Bool.true_bne, Bool.false_bne, Int.cast_ofNat_Int, Int.natCast_zero, Int.natCast_one, Int.reduceBEq, Int.reduceBNe, Int.reduceAdd, Int.reduceSub, Int.reduceMul, Int.reduceTDiv, Int.reduceTMod, Int.reduceNeg, Nat.add_sub_cancel_left, Nat.sub_self, Nat.le_add_right, List.append_eq, List.getD_cons_zero, List.getD_cons_succ, implies_true, false_implies, Bool.not_not, Bool.or_true, Bool.true_or, Bool.or_false, Bool.false_or, En.bitN, Nat.testBit, Nat.reduceShiftRight, Nat.reduceShiftLeft, Nat.reduceAnd, Nat.reduceOr, Nat.reduceBNe, Nat.zero_or, Nat.or_zero, Nat.sub_zero, Int.reduceToNat, Nat.reduceSub, Nat.zero_add, Nat.add_zero, List.length_cons, List.length_nil, Nat.zero_mul, Nat.reduceLeDiff, Int.reduceLE, Int.reduceLT, List.cons_ne_nil, tiDo, tiFits, tiT, tiP, gamDo, doHp, arL, spFind_q, spArity_q, arityS_q, spCheckA_q, spTwoA_q, getA_q, getA_z, getC_q, getC_own, En.ret2, arr_eta, globR_q, gHp, h4, h3, lin15, fnd15, one15, two15, ar15, sz15, En.arS, List.cons_append, List.nil_append]
/-- Do of add, as the laws ask for it beforehand -/
def do15R (H : Nat → Ch) (nx : Nat) (G : Prop) (b n c : Nat) : Ch → Res
  | .blk b' [k, r, l0, l1, x, k', r', l0', l1', x'] _ => ret2 nx (b = b' ∧ G ∧ n = 2 ∧ (getA H (.agg [k, r, l0, l1, x])).1 ∧ (getA H (.agg [k', r', l0', l1', x'])).1 ∧ FineA (getA H (.agg [k, r, l0, l1, x])).2 ∧ FineA (getA H (.agg [k', r', l0', l1', x'])).2 ∧ chk (getA H (.agg [k, r, l0, l1, x])).2 = 0 ∧ chk (getA H (.agg [k', r', l0', l1', x'])).2 = 0)
      (extTwo 15 (getA H (.agg [k, r, l0, l1, x])).2 (getA H (.agg [k', r', l0', l1', x'])).2)
  | .blk b' [k, r, l0, l1, x] _ => .is (b = b' ∧ G ∧ n = 1 ∧ (getA H (.agg [k, r, l0, l1, x])).1) (.tup [.agg [.v (.int .i64 0), .v (.int .i64 0), .v (.int .i64 0), .v (.int .i64 0), .v (.slice none 0 0)], .v (.int .i64 23)])
  | _ => .bad
def spDo15 : Spc
  | [.v (.int .i64 15), .gp key b 0 n c], H, nx => do15R H nx (globR (H 0) (H 1) (H 2) (H 3)) b n c (H key)
  | _, _, _ => .bad
theorem spDo15_q {key b n c : Nat} {H : Nat → Ch} {nx : Nat} : spDo15 [.v (.int .i64 15), .gp key b 0 n c] H nx = do15R H nx (globR (H 0) (H 1) (H 2) (H 3)) b n c (H key) := (rfl)
theorem do15R_two {H : Nat → Ch} {nx : Nat} {G : Prop} {b n c b' : Nat} {t : TypeId} {k r l0 l1 x k' r' l0' l1' x' : SV} : do15R H nx G b n c (.blk b' [k, r, l0, l1, x, k', r', l0', l1', x'] t) = ret2 nx (b = b' ∧ G ∧ n = 2 ∧ (getA H (.agg [k, r, l0, l1, x])).1 ∧ (getA H (.agg [k', r', l0', l1', x'])).1 ∧ FineA (getA H (.agg [k, r, l0, l1, x])).2 ∧ FineA (getA H (.agg [k', r', l0', l1', x'])).2 ∧ chk (getA H (.agg [k, r, l0, l1, x])).2 = 0 ∧ chk (getA H (.agg [k', r', l0', l1', x'])).2 = 0)
      (extTwo 15 (getA H (.agg [k, r, l0, l1, x])).2 (getA H (.agg [k', r', l0', l1', x'])).2) := (rfl)
theorem do15R_one {H : Nat → Ch} {nx : Nat} {G : Prop} {b n c b' : Nat} {t : TypeId} {k r l0 l1 x : SV} : do15R H nx G b n c (.blk b' [k, r, l0, l1, x] t) = .is (b = b' ∧ G ∧ n = 1 ∧ (getA H (.agg [k, r, l0, l1, x])).1) (.tup [.agg [.v (.int .i64 0), .v (.int .i64 0), .v (.int .i64 0), .v (.int .i64 0), .v (.slice none 0 0)], .v (.int .i64 23)]) := (rfl)
theorem agg_dens {l : List SV} {a : Arr} {A : Option Addr} {c : Nat} (key : Nat) (h : den (.agg l) = .agg #[.int .i64 a.k, .int .i64 a.r, .int .i64 a.l0, .int .i64 a.l1, .slice A a.xs.length c]) : dens l = dens (arL key A c a) := by
  have h : Value.agg (dens l).toArray = _ := h
  injection h with h
  have := congrArg Array.toList h
  simpa [dens, den, arL] using this
theorem spDo15_ok : SpecOk Tryz.prog 15 spDo15 := by
  intro args hp nx w0 O w H hv
  unfold spDo15 at hv ⊢
  split at hv
  · next nx x0 x1 x2 key b n c =>
    have hk := H.hold key
    unfold do15R at hv ⊢
    split at hv
    · next b' k r l0 l1 x k' r' l0' l1' x' t hc =>
      rw [hc] at hk
      obtain ⟨rfl, hG, rfl, ha, hb, fa, fb, c1, c2⟩ := hv
      obtain ⟨bn, on, cn, ba, oa, ca, hr, h4, h3, _⟩ := globR_ok H hG
      obtain ⟨A, ca1, e1, s1, n1⟩ := getA_ok H ha
      obtain ⟨B, cb1, e2, s2, n2⟩ := getA_ok H hb
      have hd : dens [k, r, l0, l1, x, k', r', l0', l1', x'] = dens (arL 1001 A ca1 (getA (lookH hp) (.agg [k, r, l0, l1, x])).2 ++ arL 1002 B cb1 (getA (lookH hp) (.agg [k', r', l0', l1', x'])).2) := by
        rw [show [k, r, l0, l1, x, k', r', l0', l1', x'] = [k, r, l0, l1, x] ++ [k', r', l0', l1', x'] from rfl, dens_append, dens_append, agg_dens 1001 e1, agg_dens 1002 e2]
      have hcell := blk_cells hk
      rw [hd] at hcell
      have hg : allRd w.heap.size w (doHp b (arL 1001 A ca1 (getA (lookH hp) (.agg [k, r, l0, l1, x])).2 ++ arL 1002 B cb1 (getA (lookH hp) (.agg [k', r', l0', l1', x'])).2) A B ca1 cb1 (getA (lookH hp) (.agg [k, r, l0, l1, x])).2.xs (getA (lookH hp) (.agg [k', r', l0', l1', x'])).2.xs bn on cn ba oa ca) :=
        ⟨⟨hcell, rfl⟩, ⟨sl_hold s1 n1, rfl⟩, ⟨sl_hold s2 n2, rfl⟩, hr⟩
      refine (do15_two _ _ A B ca1 cb1 b c fa fb c1 c2 bn on cn ba oa ca h4 h3 w hg).mono ?_
      rintro e w' ⟨s, ys, rfl, HS, ky, Y, cy, rfl, hY⟩
      have hh := HS.hold ky
      rw [hY] at hh
      refine ⟨⟨0, Y, cy, none, 0, mz⟩, rfl, Stp.one (c := .own Y cy .i64 _) HS.below ⟨hh.1, fun hne a e => Nat.le_trans H.below.size (hh.2 hne a e)⟩ fun q hf => .inl ?_⟩
      obtain ⟨hne, a, e, rfl⟩ := hf
      exact hh.2 hne a e
    · next b' k r l0 l1 x t hc =>
      rw [hc] at hk
      obtain ⟨rfl, hG, rfl, ha⟩ := hv
      obtain ⟨bn, on, cn, ba, oa, ca, hr, h4, h3, _⟩ := globR_ok H hG
      obtain ⟨A, ca1, e1, s1, n1⟩ := getA_ok H ha
      have hd : dens [k, r, l0, l1, x] = dens (arL 1001 A ca1 (getA (lookH hp) (.agg [k, r, l0, l1, x])).2) := agg_dens 1001 e1
      have hcell := blk_cells hk
      rw [hd] at hcell
      refine (do15_one _ A ca1 b c bn on cn ba oa ca h4 h3 w ⟨⟨hcell, rfl⟩, ⟨sl_hold s1 n1, rfl⟩, ⟨⟨Nat.le_refl _, fun h => absurd rfl h⟩, rfl⟩, hr⟩).mono ?_
      rintro e w' ⟨rfl, hb⟩
      exact ⟨⟨0, none, 0, none, 0, mz⟩, rfl, .still hb⟩
    · exact hv.elim
  · exact hv.elim
end Pr
end Go.Proofs.YtaelfhjdmljblaaGreatDoor
/-
What the laws of chapter 12 ask beforehand: awake.
-/
set_option linter.unusedSimpArgs false
set_option linter.unusedVariables false
namespace Go.Proofs.YtaelfhjdmljblaaGreatDoor
namespace Pr
open Go Go.RowKit En
open Ar Sc
def spFindS : Spc
  | [.v (.string s)], H, _ => .is (globR (H 0) (H 1) (H 2) (H 3)) (.tup [.v (.int .i64 (findS s).1), .v (.int .i64 (findS s).2)])
  | _, _, _ => .bad
theorem spFindS_q {s : ByteArray} {H : Nat → Ch} {nx : Nat} : spFindS [.v (.string s)] H nx = .is (globR (H 0) (H 1) (H 2) (H 3)) (.tup [.v (.int .i64 (findS s).1), .v (.int .i64 (findS s).2)]) := (rfl)
theorem spFindS_ok : SpecOk Tryz.prog 22 spFindS := by
  intro args hp nx w0 O w H hv
  unfold spFindS at hv ⊢
  split at hv
  · next x0 x1 x2 s =>
    obtain ⟨bn, on, cn, ba, oa, ca, hr, h4, h3, _⟩ := globR_ok H hv
    refine (Find_any s bn on cn ba oa ca h4 h3 w hr).mono ?_
    rintro e w' ⟨rfl, hb⟩
    exact ⟨⟨0, none, 0, none, 0, mz⟩, rfl, .still hb⟩
  · exact hv.elim
theorem fs_add : findS ⟨#[97, 100, 100]⟩ = (15, 0) := by decide +kernel
theorem fs_plus : findS ⟨#[112, 108, 117, 115]⟩ = (20, 0) := by decide +kernel
theorem fs_sums : findS ⟨#[115, 117, 109, 115]⟩ = (0, 4) := by decide +kernel
theorem fv_1 : fitsV 37 [2, 2] [1, 1] = (2, 1, 0) := by decide +kernel
theorem fv_2 : fitsV 37 [2, 1] [1, 1] = (0, 0, 21) := by decide +kernel
theorem fv_3 : fitsV 37 [1, 1] [1, 2] = (0, 0, 22) := by decide +kernel
theorem ext15 : extTwo 15 ⟨1, 1, 2, 0, [1, 2]⟩ ⟨1, 1, 2, 0, [3, 4]⟩ = (0, ⟨1, 1, 2, 0, [4, 6]⟩) := by kernel_rfl
theorem same46 : same ⟨1, 1, 2, 0, [4, 6]⟩ ⟨1, 1, 2, 0, [4, 6]⟩ = true := by decide +kernel
theorem ea36 : errsAt 36 = [11, 13, 15] := rfl
theorem chk12 : chk ⟨1, 1, 2, 0, [1, 2]⟩ = 0 := by decide +kernel
theorem chk34 : chk ⟨1, 1, 2, 0, [3, 4]⟩ = 0 := by decide +kernel
theorem fine12 : FineA ⟨1, 1, 2, 0, [1, 2]⟩ := by unfold FineA; decide +kernel
theorem fine34 : FineA ⟨1, 1, 2, 0, [3, 4]⟩ := by unfold FineA; decide +kernel
def gamAw : Gam := gcons 22 spFindS (gcons 12 spFits (gcons 30 spIntsA (gcons 15 spDo15 (gcons 19 spErrors (gcons 21 spSame06 (gcons 29 spSame12 gnil))))))
theorem gamAw_ok : GOk Tryz.prog gamAw := gOk_cons (by kernel_rfl) spFindS_ok <| gOk_cons (by kernel_rfl) spFits_ok <| gOk_cons (by kernel_rfl) spIntsA_ok <| gOk_cons (by kernel_rfl) spDo15_ok <| gOk_cons (by kernel_rfl) spErrors_ok <| gOk_cons (by kernel_rfl) spSame06_ok <| gOk_cons (by kernel_rfl) spSame12_ok gOk_nil
def tiAw : List (TypeId × TI) := (31, ⟨true, false, 1, [.v (.slice none 0 0)], [], 2, 0, 8, 1, 1⟩) :: (2, ⟨true, false, 1, [.v (.int .i64 0)], [], 0, 0, 0, 13, 0⟩) :: tiDo
theorem tiAw_ok : TyAll Tryz.prog (lookT tiAw) :=
  tyAll_cons (.mk' (by kernel_rfl) (by kernel_rfl) (by decide) (by decide) (by kernel_rfl) (by kernel_rfl)) <|
  tyAll_cons (.mk' (by kernel_rfl) (by kernel_rfl) (by decide) (by decide) (by kernel_rfl) (by kernel_rfl)) tiDo_ok
set_option maxRecDepth 100000 in
set_option maxHeartbeats 8000000 in
theorem awake12 (bn on cn ba oa ca : Nat) (h4 : 4 ≤ cn) (h3 : 3 ≤ ca) (w : World) (hg : allRd w.heap.size w (gHp bn on cn ba oa ca)) :
    Calls Tryz.prog 11 #[] w fun e w' => e = .returned (.bool true) ∧ Below w.heap.size w w' := by
  refine calls_run (args := []) (hp := gHp bn on cn ba oa ca) (nx := 1000) (n := 1000) (U := [(1000000, 22)]) (V := []) (T := lookT tiAw) (G := gamAw) (post := fun s ys => ys = [.v (.bool true)])
    followP tiAw_ok gamAw_ok Tryz.func11 rfl (by kernel_rfl) (by show 0 ≤ 136; decide) (hh_list hg) (free_list (by simp [allLt, gHp])) ?_ ?_
  · rintro s ys w' rfl H
    exact ⟨rfl, H.below⟩
  rw [Tryz.results11]
  simp (maxSteps := 10000000) only [En.evs0, En.evs1, En.evs2, En.evs3, En.evs4, En.evs5, En.evs6, En.evs7, En.evs8, En.evs9, En.evs10, En.evs11, En.evx0, List.toList_toArray, cond_true, cond_false, Nat.reduceBEq, Nat.reduceAdd, Nat.reduceMul, Nat.reduceEqDiff, Nat.reduceLeDiff, Nat.reduceLT, Bool.true_and, Bool.and_true, Bool.false_and, Bool.and_false, true_and, and_true, and_self, ne_eq, not_false_eq_true, reduceCtorEq, Bool.not_true, Bool.not_false, true_implies, not_true_eq_false, false_or, or_false, true_or, or_true, List.nil_append, List.cons_append, List.append_nil, List.map_cons, List.map_nil, Nat.le_refl, eq_self, forall_const, decide_true, decide_false, beq_self_eq_true, bne_self_eq_false, beq_true, beq_false, imp_self, Bool.true_beq, Bool.false_beq, Bool.bne_true, Bool.bne_false, Bool.true_bne, Bool.false_bne, Int.cast_ofNat_Int, Int.natCast_zero, Int.natCast_one, Int.reduceBEq, Int.reduceBNe, Int.reduceAdd, Int.reduceSub, Int.reduceMul, Int.reduceTDiv, Int.reduceTMod, Int.reduceNeg, Nat.add_sub_cancel_left, Nat.sub_self, Nat.le_add_right, List.append_eq, List.getD_cons_zero, List.getD_cons_succ, implies_true, false_implies, Bool.not_not, Bool.or_true, Bool.true_or, Bool.or_false, Bool.false_or, En.bitN, Nat.testBit, Nat.reduceShiftRight, Nat.reduceShiftLeft, Nat.reduceAnd, Nat.reduceOr, Nat.reduceBNe, Nat.zero_or, Nat.or_zero, Nat.sub_zero, Int.reduceToNat, Nat.reduceSub, Nat.zero_add, Nat.add_zero, List.length_cons, List.length_nil, Nat.zero_mul, Nat.reduceLeDiff, Int.reduceLE, Int.reduceLT, List.cons_ne_nil, tiAw, tiDo, tiFits, tiT, tiP, gamAw, spFindS_q, spFits_q, spIntsA_q, spDo15_q, spErrors_q, spSame06_q, spSame12_q, fitsR_q, intsAR_q, do15R_two, do15R_one, sameRR_q, getN_q, getN_gp, getNC_i, getA_q, getA_z, getC_q, getC_own, En.ret2, En.arS, arr_eta, globR_q, gHp, h4, h3, fs_add, fs_plus, fs_sums, fv_1, fv_2, fv_3, ext15, same46, ea36, chk12, chk34, fine12, fine34, if_true, and_self, showC, intsOf, Option.bind_some, Option.map_some, Nat.reduceAdd, Nat.zero_add, true_and]
  rw [show findE 36 = 0 from rfl]
  rfl
end Pr
end Go.Proofs.YtaelfhjdmljblaaGreatDoor
/-
The walk of PrimsNames (chapter 12).
-/
set_option linter.unusedSimpArgs false
set_option linter.unusedVariables false
namespace Go.Proofs.YtaelfhjdmljblaaGreatDoor
namespace Pr
open Go Go.RowKit En
open Ar Sc
def spName : Spc
  | [.v (.int .i64 p)], H, _ => .is (globR (H 0) (H 1) (H 2) (H 3)) (.tup [.v (.string (nameAt p)), .v (.int .i64 (findE p))])
  | _, _, _ => .bad
theorem spName_q {p : Int} {H : Nat → Ch} {nx : Nat} : spName [.v (.int .i64 p)] H nx = .is (globR (H 0) (H 1) (H 2) (H 3)) (.tup [.v (.string (nameAt p)), .v (.int .i64 (findE p))]) := (rfl)
theorem spName_ok : SpecOk Tryz.prog 24 spName := by
  intro args hp nx w0 O w H hv
  unfold spName at hv ⊢
  split at hv
  · next x0 x1 x2 p =>
    obtain ⟨bn, on, cn, ba, oa, ca, hr, h4, h3, _⟩ := globR_ok H hv
    refine (Name_any p bn on cn ba oa ca h4 h3 w hr).mono ?_
    rintro e w' ⟨rfl, hb⟩
    exact ⟨⟨0, none, 0, none, 0, mz⟩, rfl, .still hb⟩
  · exact hv.elim
def spArityF : Spc
  | [.v (.int .i64 p)], H, _ => .is (globR (H 0) (H 1) (H 2) (H 3)) (.tup [.v (.int .i64 (arE p)), .v (.int .i64 (findE p))])
  | _, _, _ => .bad
theorem spArityF_q {p : Int} {H : Nat → Ch} {nx : Nat} : spArityF [.v (.int .i64 p)] H nx = .is (globR (H 0) (H 1) (H 2) (H 3)) (.tup [.v (.int .i64 (arE p)), .v (.int .i64 (findE p))]) := (rfl)
theorem spArityF_ok : SpecOk Tryz.prog 26 spArityF := by
  intro args hp nx w0 O w H hv
  unfold spArityF at hv ⊢
  split at hv
  · next x0 x1 x2 p =>
    obtain ⟨bn, on, cn, ba, oa, ca, hr, h4, h3, _⟩ := globR_ok H hv
    refine (Arity_any p bn on cn ba oa ca h4 h3 w hr).mono ?_
    rintro e w' ⟨rfl, hb⟩
    exact ⟨⟨0, none, 0, none, 0, mz⟩, rfl, .still hb⟩
  · exact hv.elim
def spAwake12 : Spc
  | [], H, _ => .is (globR (H 0) (H 1) (H 2) (H 3)) (.v (.bool true))
  | _, _, _ => .bad
theorem spAwake12_q {H : Nat → Ch} {nx : Nat} : spAwake12 [] H nx = .is (globR (H 0) (H 1) (H 2) (H 3)) (.v (.bool true)) := (rfl)
theorem spAwake12_ok : SpecOk Tryz.prog 11 spAwake12 := by
  intro args hp nx w0 O w H hv
  unfold spAwake12 at hv ⊢
  split at hv
  · next x0 x1 x2 =>
    obtain ⟨bn, on, cn, ba, oa, ca, hr, h4, h3, _⟩ := globR_ok H hv
    refine (awake12 bn on cn ba oa ca h4 h3 w hr).mono ?_
    rintro e w' ⟨rfl, hb⟩
    exact ⟨⟨0, none, 0, none, 0, mz⟩, rfl, .still hb⟩
  · exact hv.elim
end Pr
end Go.Proofs.YtaelfhjdmljblaaGreatDoor
