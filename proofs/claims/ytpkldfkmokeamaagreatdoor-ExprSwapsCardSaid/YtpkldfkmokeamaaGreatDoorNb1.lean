/-
Nodes of expressions: as cells; a node's error, as both sides find it (chapter 15).
-/
import Derived.Test.YtpkldfkmokeamaaGreatDoorNmC
import Derived.Test.YtpkldfkmokeamaaGreatDoorUa1
import Derived.Test.YtpkldfkmokeamaaGreatDoorXa1
set_option linter.unusedSimpArgs false
set_option linter.unusedVariables false
namespace Go.Proofs.YtpkldfkmokeamaaGreatDoor
namespace Pr
open Go Go.RowKit En
def tabF : List SV := (List.range 256).map fun c => .v (.int .u8 (Lib.firstT c))
def tabA : List SV := (List.range 32).map fun j => .v (.int .u8 (if j % 2 = 0 then Lib.accLo (j / 2) else Lib.accHi (j / 2)))
def globU : Ch → Ch → Prop
  | .cst a 0 x, .cst b 0 y => a = 2 ∧ b = 3 ∧ x = tabF ∧ y = tabA
  | _, _ => False
theorem globU_q {a b : Nat} {x y : List SV} : globU (.cst a 0 x) (.cst b 0 y) = (a = 2 ∧ b = 3 ∧ x = tabF ∧ y = tabA) := (rfl)
theorem tabs_of {w : World} (h1 : Hold 0 w (.cst 2 0 tabF)) (h2 : Hold 0 w (.cst 3 0 tabA)) : Lib.Utf8Tabs 2 3 w := by
  refine ⟨fun c hc => ?_, fun i hi => ⟨?_, ?_⟩⟩
  · have := h1.2 c (.int .u8 (Lib.firstT c)) (by simp [tabF, dens_eq, den, hc])
    simpa using this
  · have := h2.2 (2 * i) (.int .u8 (Lib.accLo i)) (by
      simp [tabA, dens_eq, den, show 2 * i < 32 by omega])
    simpa using this
  · have := h2.2 (2 * i + 1) (.int .u8 (Lib.accHi i)) (by
      simp [tabA, dens_eq, den, show 2 * i + 1 < 32 by omega, show ¬ (2 * i + 1) % 2 = 0 by omega, show (2 * i + 1) / 2 = i by omega])
    simpa using this
theorem globU_ok {O : Nat → Prop} {w0 w : World} {hp : Hp} (H : HH w0 O hp w) (h : globU (lookH hp 4) (lookH hp 5)) : Hold w.heap.size w (.cst 2 0 tabF) ∧ Hold w.heap.size w (.cst 3 0 tabA) := by
  have h4 := H.hold 4
  have h5 := H.hold 5
  unfold globU at h
  split at h
  · next a x b y e1 e2 =>
    obtain ⟨rfl, rfl, rfl, rfl⟩ := h
    rw [e1] at h4; rw [e2] at h5
    exact ⟨h4, h5⟩
  · exact h.elim
def spValid : Spc
  | [.v (.string s)], H, _ => .is (globU (H 4) (H 5) ∧ s.size ≤ 2305843009213693952) (.v (.bool (Lib.validD s.data.toList)))
  | _, _, _ => .bad
theorem spValid_q {s : ByteArray} {H : Nat → Ch} {nx : Nat} : spValid [.v (.string s)] H nx = .is (globU (H 4) (H 5) ∧ s.size ≤ 2305843009213693952) (.v (.bool (Lib.validD s.data.toList))) := (rfl)
theorem spValid_ok : SpecOk Tryz.prog 75 spValid := by
  intro args hp nx w0 O w H hv
  unfold spValid at hv ⊢
  split at hv
  · next s =>
    obtain ⟨hU, hz⟩ := hv
    obtain ⟨h1, h2⟩ := globU_ok H hU
    refine (Any.utf8_ValidString laysValid s w (by omega) (tabs_of (w := w) h1 h2)).mono ?_
    rintro e w' ⟨rfl, hb⟩
    exact ⟨⟨0, none, 0, none, 0, mz⟩, rfl, .still hb⟩
  · exact hv.elim
theorem below_iter (w : World) (s : ByteArray) (pos : Nat) : Below w.heap.size w (w.iter s pos) := (Below.refl _ _).alloc (Nat.le_refl _) _
def spRuneC : Spc
  | [.v (.string s)], _, _ => .is (s.size ≤ 2305843009213693952) (.v (.int .i64 (Lib.runeCount s)))
  | _, _, _ => .bad
theorem spRuneC_q {s : ByteArray} {H : Nat → Ch} {nx : Nat} : spRuneC [.v (.string s)] H nx = .is (s.size ≤ 2305843009213693952) (.v (.int .i64 (Lib.runeCount s))) := (rfl)
theorem spRuneC_ok : SpecOk Tryz.prog 85 spRuneC := specOk_is fun args H nx => by
  unfold spRuneC; split
  · exact fun h w => (Any.utf8_RuneCountInString laysCount _ w (by omega)).mono fun e w' h' => ⟨h'.1, by obtain ⟨_, pos, rfl⟩ := h'; exact below_iter _ _ _⟩
  · trivial
structure Nd where
  k : Int
  p : Int
  c : Int
  nm : ByteArray
  tx : ByteArray
  n : Int
  s : Int
def ndC (d : Nd) : List SV := [.v (.int .i64 d.k), .v (.int .i64 d.p), .v (.int .i64 d.c), .v (.string d.nm), .v (.string d.tx), .v (.int .i64 d.n), .v (.int .i64 d.s)]
def ndZ : Nd := ⟨0, 0, 0, ⟨#[]⟩, ⟨#[]⟩, 0, 0⟩
def restN (d : Nd) : Nd :=
  if d.k = 1 then ⟨0, d.p, d.c, d.nm, d.tx, 0, 0⟩ else if d.k = 2 then ⟨0, d.p, d.c, d.nm, ⟨#[]⟩, d.n, 0⟩ else if d.k = 5 then ⟨0, 0, 0, d.nm, d.tx, d.n, 0⟩
  else if d.k = 6 then ⟨0, d.p, 0, ⟨#[]⟩, d.tx, d.n, 0⟩ else if d.k = 4 then ⟨0, d.p, d.c, ⟨#[]⟩, d.tx, d.n, 0⟩ else if d.k = 3 then ⟨0, d.p, 0, d.nm, d.tx, d.n, 0⟩ else ⟨0, d.p, d.c, d.nm, d.tx, d.n, 0⟩
def opN (d : Nd) : Bool := bif d.k == 5 then true else d.k == 6
def tlNd : List (TypeId × TI) := [tyInt, tyI64, tyBool, tyStr, tyErr, tyNode]
theorem tlNd_ok : TyAll Tryz.prog (lookT tlNd) := tyAll_p tyInt_ok <| tyAll_p tyI64_ok <| tyAll_p tyBool_ok <| tyAll_p tyStr_ok <| tyAll_p tyErr_ok <| tyAll_p tyNode_ok tyAll_nil
set_option maxRecDepth 100000 in
set_option maxHeartbeats 4000000 in
theorem rest_any (d : Nd) (w : World) :
    Calls Tryz.prog 67 #[den (.agg (ndC d))] w fun e w' => e = .returned (.tuple #[den (.agg (ndC (restN d))), .bool (opN d)]) ∧ Below w.heap.size w w' := by
  obtain ⟨q, hq⟩ : ∃ q, q = restN d := ⟨_, rfl⟩
  obtain ⟨r, hr⟩ : ∃ r, r = opN d := ⟨_, rfl⟩
  rw [← hq, ← hr]
  refine calls_go (args := [.agg (ndC d)]) (hp := []) (nx := 1000) (n := 800) (U := []) (V := []) (tl := tlNd) (gl := gl0) (post := fun s ys => ys = [.agg (ndC q), .v (.bool r)])
    followP tlNd_ok gl0_ok Tryz.func67 rfl (by kernel_rfl) (Nat.le_of_ble_eq_true (by kernel_rfl)) (by kernel_rfl) (by kernel_rfl) (hh_list trivial) (fun _ _ => rfl) ?_ ?_
  · rintro s ys w' rfl H
    exact ⟨rfl, H.below⟩
  intro L F T G nd va hE
  obtain ⟨hL, hF, hs, hv, hT, hG, hR, hI, hJ, hW⟩ := hE
  rw [Tryz.results67] at hF
  simp (maxSteps := 1000000) only [En.nN, En.E, En.evsC, List.map_cons, List.map_nil, Nat.reduceBEq, Nat.reduceAdd, Nat.reduceMul, Nat.reduceEqDiff, Nat.reduceLeDiff, Nat.reduceLT, ne_eq, reduceCtorEq, Int.reduceBEq, Int.reduceBNe, Int.reduceAdd, Int.reduceSub, Int.reduceMul, Int.reduceTDiv, Int.reduceTMod, Int.reduceNeg, En.bitN, Nat.testBit, Nat.reduceShiftRight, Nat.reduceShiftLeft, Nat.reduceAnd, Nat.reduceOr, Nat.reduceBNe, Int.reduceToNat, Nat.reduceSub, Int.reduceLE, Int.reduceLT] at hv
  simp only [En.at_nil, En.at_cons, En.ag_nil, En.ag_cons, and_true, tlNd, gl0, tyInt, tyI64, tyBool, tyStr, tyErr, tyNode] at hT hG
  simp (maxSteps := 10000000) only [En.E, En.evsC, List.map_cons, List.map_nil, Nat.reduceBEq, Nat.reduceAdd, Nat.reduceMul, Nat.reduceEqDiff, Nat.reduceLeDiff, Nat.reduceLT, ne_eq, reduceCtorEq, Int.reduceBEq, Int.reduceBNe, Int.reduceAdd, Int.reduceSub, Int.reduceMul, Int.reduceTDiv, Int.reduceTMod, Int.reduceNeg, En.bitN, Nat.testBit, Nat.reduceShiftRight, Nat.reduceShiftLeft, Nat.reduceAnd, Nat.reduceOr, Nat.reduceBNe, Int.reduceToNat, Nat.reduceSub, Int.reduceLE, Int.reduceLT, En.vV, hs, hv, hT, hG, hF, ndC]
  clear hL hF hs hR hI hJ hW hv hT hG
  simp +contextual [hq, hr, restN, opN]
def spRest : Spc
  | [.agg [.v (.int .i64 k), .v (.int .i64 p), .v (.int .i64 c), .v (.string nm), .v (.string tx), .v (.int .i64 n), .v (.int .i64 s)]], _, _ => .is True (.tup [.agg (ndC (restN ⟨k, p, c, nm, tx, n, s⟩)), .v (.bool (opN ⟨k, p, c, nm, tx, n, s⟩))])
  | _, _, _ => .bad
theorem spRest_q {k p c n s : Int} {nm tx : ByteArray} {H : Nat → Ch} {nx : Nat} : spRest [.agg [.v (.int .i64 k), .v (.int .i64 p), .v (.int .i64 c), .v (.string nm), .v (.string tx), .v (.int .i64 n), .v (.int .i64 s)]] H nx = .is True (.tup [.agg (ndC (restN ⟨k, p, c, nm, tx, n, s⟩)), .v (.bool (opN ⟨k, p, c, nm, tx, n, s⟩))]) := (rfl)
theorem spRest_ok : SpecOk Tryz.prog 67 spRest := specOk_is fun args H nx => by
  unfold spRest; split
  · next k p c nm tx n s => exact fun _ w => rest_any ⟨k, p, c, nm, tx, n, s⟩ w
  · trivial
section
variable {p c n s : Int} {nm tx : ByteArray}
theorem rest1 : restN ⟨1, p, c, nm, tx, n, s⟩ = ⟨0, p, c, nm, tx, 0, 0⟩ := (rfl)
theorem rest2 : restN ⟨2, p, c, nm, tx, n, s⟩ = ⟨0, p, c, nm, ⟨#[]⟩, n, 0⟩ := (rfl)
theorem rest3 : restN ⟨3, p, c, nm, tx, n, s⟩ = ⟨0, p, 0, nm, tx, n, 0⟩ := (rfl)
theorem rest4 : restN ⟨4, p, c, nm, tx, n, s⟩ = ⟨0, p, c, ⟨#[]⟩, tx, n, 0⟩ := (rfl)
theorem rest5 : restN ⟨5, p, c, nm, tx, n, s⟩ = ⟨0, 0, 0, nm, tx, n, 0⟩ := (rfl)
theorem rest6 : restN ⟨6, p, c, nm, tx, n, s⟩ = ⟨0, p, 0, ⟨#[]⟩, tx, n, 0⟩ := (rfl)
end
theorem emp_iff {s : ByteArray} : (s.toList == (⟨#[]⟩ : ByteArray).toList) = decide (s = ⟨#[]⟩) := by
  by_cases h : s = ⟨#[]⟩
  · subst h; simp
  · rw [decide_eq_false h, beq_eq_false_iff_ne]
    intro h2
    rw [Lib.toList_data, Lib.toList_data] at h2
    apply h
    cases s
    simp only [ByteArray.mk.injEq]
    exact Array.ext' h2
def surp (d : Nd) : Prop := (d.k ≠ 1 ∧ d.n ≠ 0) ∨ (d.k ≠ 2 ∧ d.tx ≠ ⟨#[]⟩) ∨ (d.k ≠ 4 ∧ d.k ≠ 6 ∧ d.nm ≠ ⟨#[]⟩) ∨ (d.k ≠ 5 ∧ d.p ≠ 0) ∨ (d.k = 5 ∧ findE d.p ≠ 0) ∨ ((d.k = 1 ∨ d.k = 2 ∨ d.k = 4) ∧ d.c ≠ 0)
instance (d : Nd) : Decidable (surp d) := by unfold surp; infer_instance
def faultV (d : Nd) : Int :=
  if d.k < 1 ∨ 6 < d.k ∨ surp d then 2
  else if d.s < 0 ∨ 1000000000 < d.s then 7
  else if Lib.validD d.tx.data.toList = false then 6
  else if 400 < Lib.runeCount d.tx ∨ (d.k = 3 ∧ 400 ≤ d.c) then 3
  else if (d.k = 3 ∧ d.c < 0) ∨ (d.k = 5 ∧ d.c ≠ arE d.p) ∨ (d.k = 6 ∧ d.c ≠ 1 ∧ d.c ≠ 2) then 23
  else if (d.k = 4 ∨ d.k = 6) ∧ nameV d.nm = false then 24 else 0
theorem bn_nm {R : List It → SS → Prop} {c c3 : Code} {k : List It} {s : SS} {x : ByteArray} : ifB R c c3 k s (nameV x) = ((nameV x = true → R (.code c :: k) s) ∧ (nameV x = false → R (.code c3 :: k) s)) := (rfl)
def glFa : List (FuncId × Spc) := [(84, spArityF), (67, spRest), (75, spValid), (85, spRuneC), (15, spName15)]
theorem glFa_ok : GOk Tryz.prog (lookG glFa) := lG_cons (by kernel_rfl) spArityF_ok <| lG_cons (by kernel_rfl) spRest_ok <| lG_cons (by kernel_rfl) spValid_ok <| lG_cons (by kernel_rfl) spRuneC_ok <| lG_cons (by kernel_rfl) spName15_ok lG_nil
def gHu (bn on cn ba oa ca : Nat) : Hp := (4, .cst 2 0 tabF) :: (5, .cst 3 0 tabA) :: gHp bn on cn ba oa ca
set_option maxRecDepth 100000 in
set_option maxHeartbeats 4000000 in
theorem fault1_any (p c n s : Int) (nm tx : ByteArray) (hz : nm.size ≤ 2305843009213693952 ∧ tx.size ≤ 2305843009213693952) (bn on cn ba oa ca : Nat) (h4 : 4 ≤ cn) (h3 : 3 ≤ ca) (w : World) (hg : allRd w.heap.size w (gHu bn on cn ba oa ca)) :
    Calls Tryz.prog 64 #[den (.agg (ndC ⟨1, p, c, nm, tx, n, s⟩))] w fun e w' => e = .returned (.int .i64 (faultV ⟨1, p, c, nm, tx, n, s⟩)) ∧ Below w.heap.size w w' := by
  obtain ⟨q, hq⟩ : ∃ q, q = faultV ⟨1, p, c, nm, tx, n, s⟩ := ⟨_, rfl⟩
  rw [← hq]
  refine calls_go (args := [.agg (ndC ⟨1, p, c, nm, tx, n, s⟩)]) (hp := gHu bn on cn ba oa ca) (nx := 1000) (n := 800) (U := []) (V := []) (tl := tlNd) (gl := glFa) (post := fun s ys => ys = [.v (.int .i64 q)])
    followP tlNd_ok glFa_ok Tryz.func64 rfl (by kernel_rfl) (Nat.le_of_ble_eq_true (by kernel_rfl)) (by kernel_rfl) (by kernel_rfl) (hh_list hg) (free_list (by simp [allLt, gHp, gHu])) ?_ ?_
  · rintro s ys w' rfl H
    exact ⟨rfl, H.below⟩
  intro L F T G nd va hE
  obtain ⟨hL, hF, hs, hv, hT, hG, hR, hI, hJ, hW⟩ := hE
  rw [Tryz.results64] at hF
  simp (maxSteps := 1000000) only [En.nN, En.E, En.evsC, List.map_cons, List.map_nil, Nat.reduceBEq, Nat.reduceAdd, Nat.reduceMul, Nat.reduceEqDiff, Nat.reduceLeDiff, Nat.reduceLT, ne_eq, reduceCtorEq, Int.reduceBEq, Int.reduceBNe, Int.reduceAdd, Int.reduceSub, Int.reduceMul, Int.reduceTDiv, Int.reduceTMod, Int.reduceNeg, En.bitN, Nat.testBit, Nat.reduceShiftRight, Nat.reduceShiftLeft, Nat.reduceAnd, Nat.reduceOr, Nat.reduceBNe, Int.reduceToNat, Nat.reduceSub, Int.reduceLE, Int.reduceLT] at hv
  simp only [En.at_nil, En.at_cons, En.ag_nil, En.ag_cons, and_true, tlNd, glFa, tyInt, tyI64, tyBool, tyStr, tyErr, tyNode] at hT hG
  have hz1 : nm.size ≤ 4611686018427387904 := by omega
  simp (maxSteps := 10000000) only [En.E, En.evsC, List.map_cons, List.map_nil, Nat.reduceBEq, Nat.reduceAdd, Nat.reduceMul, Nat.reduceEqDiff, Nat.reduceLeDiff, Nat.reduceLT, ne_eq, reduceCtorEq, Int.reduceBEq, Int.reduceBNe, Int.reduceAdd, Int.reduceSub, Int.reduceMul, Int.reduceTDiv, Int.reduceTMod, Int.reduceNeg, En.bitN, Nat.testBit, Nat.reduceShiftRight, Nat.reduceShiftLeft, Nat.reduceAnd, Nat.reduceOr, Nat.reduceBNe, Int.reduceToNat, Nat.reduceSub, Int.reduceLE, Int.reduceLT, En.vV, hs, hv, hT, hG, hF, ndC, gHu, gHp, spArityF_q, spRest_q, rest1, spValid_q, spRuneC_q, spName15_q, globU_q, globR_q, h4, h3, hz, hz1, emp_iff, bn_nm]
  clear hL hF hs hR hI hJ hW hv hT hG
  simp only [hq, faultV, surp]
  generalize nameV nm = V
  generalize Lib.validD tx.data.toList = D
  generalize (Lib.runeCount tx : Nat) = C
  generalize findE p = E at *
  generalize arE p = R at *
  simp
  grind
set_option maxRecDepth 100000 in
set_option maxHeartbeats 4000000 in
theorem fault2_any (p c n s : Int) (nm tx : ByteArray) (hz : nm.size ≤ 2305843009213693952 ∧ tx.size ≤ 2305843009213693952) (bn on cn ba oa ca : Nat) (h4 : 4 ≤ cn) (h3 : 3 ≤ ca) (w : World) (hg : allRd w.heap.size w (gHu bn on cn ba oa ca)) :
    Calls Tryz.prog 64 #[den (.agg (ndC ⟨2, p, c, nm, tx, n, s⟩))] w fun e w' => e = .returned (.int .i64 (faultV ⟨2, p, c, nm, tx, n, s⟩)) ∧ Below w.heap.size w w' := by
  obtain ⟨q, hq⟩ : ∃ q, q = faultV ⟨2, p, c, nm, tx, n, s⟩ := ⟨_, rfl⟩
  rw [← hq]
  refine calls_go (args := [.agg (ndC ⟨2, p, c, nm, tx, n, s⟩)]) (hp := gHu bn on cn ba oa ca) (nx := 1000) (n := 800) (U := []) (V := []) (tl := tlNd) (gl := glFa) (post := fun s ys => ys = [.v (.int .i64 q)])
    followP tlNd_ok glFa_ok Tryz.func64 rfl (by kernel_rfl) (Nat.le_of_ble_eq_true (by kernel_rfl)) (by kernel_rfl) (by kernel_rfl) (hh_list hg) (free_list (by simp [allLt, gHp, gHu])) ?_ ?_
  · rintro s ys w' rfl H
    exact ⟨rfl, H.below⟩
  intro L F T G nd va hE
  obtain ⟨hL, hF, hs, hv, hT, hG, hR, hI, hJ, hW⟩ := hE
  rw [Tryz.results64] at hF
  simp (maxSteps := 1000000) only [En.nN, En.E, En.evsC, List.map_cons, List.map_nil, Nat.reduceBEq, Nat.reduceAdd, Nat.reduceMul, Nat.reduceEqDiff, Nat.reduceLeDiff, Nat.reduceLT, ne_eq, reduceCtorEq, Int.reduceBEq, Int.reduceBNe, Int.reduceAdd, Int.reduceSub, Int.reduceMul, Int.reduceTDiv, Int.reduceTMod, Int.reduceNeg, En.bitN, Nat.testBit, Nat.reduceShiftRight, Nat.reduceShiftLeft, Nat.reduceAnd, Nat.reduceOr, Nat.reduceBNe, Int.reduceToNat, Nat.reduceSub, Int.reduceLE, Int.reduceLT] at hv
  simp only [En.at_nil, En.at_cons, En.ag_nil, En.ag_cons, and_true, tlNd, glFa, tyInt, tyI64, tyBool, tyStr, tyErr, tyNode] at hT hG
  have hz1 : nm.size ≤ 4611686018427387904 := by omega
  simp (maxSteps := 10000000) only [En.E, En.evsC, List.map_cons, List.map_nil, Nat.reduceBEq, Nat.reduceAdd, Nat.reduceMul, Nat.reduceEqDiff, Nat.reduceLeDiff, Nat.reduceLT, ne_eq, reduceCtorEq, Int.reduceBEq, Int.reduceBNe, Int.reduceAdd, Int.reduceSub, Int.reduceMul, Int.reduceTDiv, Int.reduceTMod, Int.reduceNeg, En.bitN, Nat.testBit, Nat.reduceShiftRight, Nat.reduceShiftLeft, Nat.reduceAnd, Nat.reduceOr, Nat.reduceBNe, Int.reduceToNat, Nat.reduceSub, Int.reduceLE, Int.reduceLT, En.vV, hs, hv, hT, hG, hF, ndC, gHu, gHp, spArityF_q, spRest_q, rest2, spValid_q, spRuneC_q, spName15_q, globU_q, globR_q, h4, h3, hz, hz1, emp_iff, bn_nm]
  clear hL hF hs hR hI hJ hW hv hT hG
  simp only [hq, faultV, surp]
  generalize nameV nm = V
  generalize Lib.validD tx.data.toList = D
  generalize (Lib.runeCount tx : Nat) = C
  generalize findE p = E at *
  generalize arE p = R at *
  simp
  grind
set_option maxRecDepth 100000 in
set_option maxHeartbeats 4000000 in
theorem fault3_any (p c n s : Int) (nm tx : ByteArray) (hz : nm.size ≤ 2305843009213693952 ∧ tx.size ≤ 2305843009213693952) (bn on cn ba oa ca : Nat) (h4 : 4 ≤ cn) (h3 : 3 ≤ ca) (w : World) (hg : allRd w.heap.size w (gHu bn on cn ba oa ca)) :
    Calls Tryz.prog 64 #[den (.agg (ndC ⟨3, p, c, nm, tx, n, s⟩))] w fun e w' => e = .returned (.int .i64 (faultV ⟨3, p, c, nm, tx, n, s⟩)) ∧ Below w.heap.size w w' := by
  obtain ⟨q, hq⟩ : ∃ q, q = faultV ⟨3, p, c, nm, tx, n, s⟩ := ⟨_, rfl⟩
  rw [← hq]
  refine calls_go (args := [.agg (ndC ⟨3, p, c, nm, tx, n, s⟩)]) (hp := gHu bn on cn ba oa ca) (nx := 1000) (n := 800) (U := []) (V := []) (tl := tlNd) (gl := glFa) (post := fun s ys => ys = [.v (.int .i64 q)])
    followP tlNd_ok glFa_ok Tryz.func64 rfl (by kernel_rfl) (Nat.le_of_ble_eq_true (by kernel_rfl)) (by kernel_rfl) (by kernel_rfl) (hh_list hg) (free_list (by simp [allLt, gHp, gHu])) ?_ ?_
  · rintro s ys w' rfl H
    exact ⟨rfl, H.below⟩
  intro L F T G nd va hE
  obtain ⟨hL, hF, hs, hv, hT, hG, hR, hI, hJ, hW⟩ := hE
  rw [Tryz.results64] at hF
  simp (maxSteps := 1000000) only [En.nN, En.E, En.evsC, List.map_cons, List.map_nil, Nat.reduceBEq, Nat.reduceAdd, Nat.reduceMul, Nat.reduceEqDiff, Nat.reduceLeDiff, Nat.reduceLT, ne_eq, reduceCtorEq, Int.reduceBEq, Int.reduceBNe, Int.reduceAdd, Int.reduceSub, Int.reduceMul, Int.reduceTDiv, Int.reduceTMod, Int.reduceNeg, En.bitN, Nat.testBit, Nat.reduceShiftRight, Nat.reduceShiftLeft, Nat.reduceAnd, Nat.reduceOr, Nat.reduceBNe, Int.reduceToNat, Nat.reduceSub, Int.reduceLE, Int.reduceLT] at hv
  simp only [En.at_nil, En.at_cons, En.ag_nil, En.ag_cons, and_true, tlNd, glFa, tyInt, tyI64, tyBool, tyStr, tyErr, tyNode] at hT hG
  have hz1 : nm.size ≤ 4611686018427387904 := by omega
  simp (maxSteps := 10000000) only [En.E, En.evsC, List.map_cons, List.map_nil, Nat.reduceBEq, Nat.reduceAdd, Nat.reduceMul, Nat.reduceEqDiff, Nat.reduceLeDiff, Nat.reduceLT, ne_eq, reduceCtorEq, Int.reduceBEq, Int.reduceBNe, Int.reduceAdd, Int.reduceSub, Int.reduceMul, Int.reduceTDiv, Int.reduceTMod, Int.reduceNeg, En.bitN, Nat.testBit, Nat.reduceShiftRight, Nat.reduceShiftLeft, Nat.reduceAnd, Nat.reduceOr, Nat.reduceBNe, Int.reduceToNat, Nat.reduceSub, Int.reduceLE, Int.reduceLT, En.vV, hs, hv, hT, hG, hF, ndC, gHu, gHp, spArityF_q, spRest_q, rest3, spValid_q, spRuneC_q, spName15_q, globU_q, globR_q, h4, h3, hz, hz1, emp_iff, bn_nm]
  clear hL hF hs hR hI hJ hW hv hT hG
  simp only [hq, faultV, surp]
  generalize nameV nm = V
  generalize Lib.validD tx.data.toList = D
  generalize (Lib.runeCount tx : Nat) = C
  generalize findE p = E at *
  generalize arE p = R at *
  simp
  grind
set_option maxRecDepth 100000 in
set_option maxHeartbeats 4000000 in
theorem fault4_any (p c n s : Int) (nm tx : ByteArray) (hz : nm.size ≤ 2305843009213693952 ∧ tx.size ≤ 2305843009213693952) (bn on cn ba oa ca : Nat) (h4 : 4 ≤ cn) (h3 : 3 ≤ ca) (w : World) (hg : allRd w.heap.size w (gHu bn on cn ba oa ca)) :
    Calls Tryz.prog 64 #[den (.agg (ndC ⟨4, p, c, nm, tx, n, s⟩))] w fun e w' => e = .returned (.int .i64 (faultV ⟨4, p, c, nm, tx, n, s⟩)) ∧ Below w.heap.size w w' := by
  obtain ⟨q, hq⟩ : ∃ q, q = faultV ⟨4, p, c, nm, tx, n, s⟩ := ⟨_, rfl⟩
  rw [← hq]
  refine calls_go (args := [.agg (ndC ⟨4, p, c, nm, tx, n, s⟩)]) (hp := gHu bn on cn ba oa ca) (nx := 1000) (n := 800) (U := []) (V := []) (tl := tlNd) (gl := glFa) (post := fun s ys => ys = [.v (.int .i64 q)])
    followP tlNd_ok glFa_ok Tryz.func64 rfl (by kernel_rfl) (Nat.le_of_ble_eq_true (by kernel_rfl)) (by kernel_rfl) (by kernel_rfl) (hh_list hg) (free_list (by simp [allLt, gHp, gHu])) ?_ ?_
  · rintro s ys w' rfl H
    exact ⟨rfl, H.below⟩
  intro L F T G nd va hE
  obtain ⟨hL, hF, hs, hv, hT, hG, hR, hI, hJ, hW⟩ := hE
  rw [Tryz.results64] at hF
  simp (maxSteps := 1000000) only [En.nN, En.E, En.evsC, List.map_cons, List.map_nil, Nat.reduceBEq, Nat.reduceAdd, Nat.reduceMul, Nat.reduceEqDiff, Nat.reduceLeDiff, Nat.reduceLT, ne_eq, reduceCtorEq, Int.reduceBEq, Int.reduceBNe, Int.reduceAdd, Int.reduceSub, Int.reduceMul, Int.reduceTDiv, Int.reduceTMod, Int.reduceNeg, En.bitN, Nat.testBit, Nat.reduceShiftRight, Nat.reduceShiftLeft, Nat.reduceAnd, Nat.reduceOr, Nat.reduceBNe, Int.reduceToNat, Nat.reduceSub, Int.reduceLE, Int.reduceLT] at hv
  simp only [En.at_nil, En.at_cons, En.ag_nil, En.ag_cons, and_true, tlNd, glFa, tyInt, tyI64, tyBool, tyStr, tyErr, tyNode] at hT hG
  have hz1 : nm.size ≤ 4611686018427387904 := by omega
  simp (maxSteps := 10000000) only [En.E, En.evsC, List.map_cons, List.map_nil, Nat.reduceBEq, Nat.reduceAdd, Nat.reduceMul, Nat.reduceEqDiff, Nat.reduceLeDiff, Nat.reduceLT, ne_eq, reduceCtorEq, Int.reduceBEq, Int.reduceBNe, Int.reduceAdd, Int.reduceSub, Int.reduceMul, Int.reduceTDiv, Int.reduceTMod, Int.reduceNeg, En.bitN, Nat.testBit, Nat.reduceShiftRight, Nat.reduceShiftLeft, Nat.reduceAnd, Nat.reduceOr, Nat.reduceBNe, Int.reduceToNat, Nat.reduceSub, Int.reduceLE, Int.reduceLT, En.vV, hs, hv, hT, hG, hF, ndC, gHu, gHp, spArityF_q, spRest_q, rest4, spValid_q, spRuneC_q, spName15_q, globU_q, globR_q, h4, h3, hz, hz1, emp_iff, bn_nm]
  clear hL hF hs hR hI hJ hW hv hT hG
  simp only [hq, faultV, surp]
  generalize nameV nm = V
  generalize Lib.validD tx.data.toList = D
  generalize (Lib.runeCount tx : Nat) = C
  generalize findE p = E at *
  generalize arE p = R at *
  simp
  grind
set_option maxRecDepth 100000 in
set_option maxHeartbeats 4000000 in
theorem fault5_any (p c n s : Int) (nm tx : ByteArray) (hz : nm.size ≤ 2305843009213693952 ∧ tx.size ≤ 2305843009213693952) (bn on cn ba oa ca : Nat) (h4 : 4 ≤ cn) (h3 : 3 ≤ ca) (w : World) (hg : allRd w.heap.size w (gHu bn on cn ba oa ca)) :
    Calls Tryz.prog 64 #[den (.agg (ndC ⟨5, p, c, nm, tx, n, s⟩))] w fun e w' => e = .returned (.int .i64 (faultV ⟨5, p, c, nm, tx, n, s⟩)) ∧ Below w.heap.size w w' := by
  obtain ⟨q, hq⟩ : ∃ q, q = faultV ⟨5, p, c, nm, tx, n, s⟩ := ⟨_, rfl⟩
  rw [← hq]
  refine calls_go (args := [.agg (ndC ⟨5, p, c, nm, tx, n, s⟩)]) (hp := gHu bn on cn ba oa ca) (nx := 1000) (n := 800) (U := []) (V := []) (tl := tlNd) (gl := glFa) (post := fun s ys => ys = [.v (.int .i64 q)])
    followP tlNd_ok glFa_ok Tryz.func64 rfl (by kernel_rfl) (Nat.le_of_ble_eq_true (by kernel_rfl)) (by kernel_rfl) (by kernel_rfl) (hh_list hg) (free_list (by simp [allLt, gHp, gHu])) ?_ ?_
  · rintro s ys w' rfl H
    exact ⟨rfl, H.below⟩
  intro L F T G nd va hE
  obtain ⟨hL, hF, hs, hv, hT, hG, hR, hI, hJ, hW⟩ := hE
  rw [Tryz.results64] at hF
  simp (maxSteps := 1000000) only [En.nN, En.E, En.evsC, List.map_cons, List.map_nil, Nat.reduceBEq, Nat.reduceAdd, Nat.reduceMul, Nat.reduceEqDiff, Nat.reduceLeDiff, Nat.reduceLT, ne_eq, reduceCtorEq, Int.reduceBEq, Int.reduceBNe, Int.reduceAdd, Int.reduceSub, Int.reduceMul, Int.reduceTDiv, Int.reduceTMod, Int.reduceNeg, En.bitN, Nat.testBit, Nat.reduceShiftRight, Nat.reduceShiftLeft, Nat.reduceAnd, Nat.reduceOr, Nat.reduceBNe, Int.reduceToNat, Nat.reduceSub, Int.reduceLE, Int.reduceLT] at hv
  simp only [En.at_nil, En.at_cons, En.ag_nil, En.ag_cons, and_true, tlNd, glFa, tyInt, tyI64, tyBool, tyStr, tyErr, tyNode] at hT hG
  have hz1 : nm.size ≤ 4611686018427387904 := by omega
  simp (maxSteps := 10000000) only [En.E, En.evsC, List.map_cons, List.map_nil, Nat.reduceBEq, Nat.reduceAdd, Nat.reduceMul, Nat.reduceEqDiff, Nat.reduceLeDiff, Nat.reduceLT, ne_eq, reduceCtorEq, Int.reduceBEq, Int.reduceBNe, Int.reduceAdd, Int.reduceSub, Int.reduceMul, Int.reduceTDiv, Int.reduceTMod, Int.reduceNeg, En.bitN, Nat.testBit, Nat.reduceShiftRight, Nat.reduceShiftLeft, Nat.reduceAnd, Nat.reduceOr, Nat.reduceBNe, Int.reduceToNat, Nat.reduceSub, Int.reduceLE, Int.reduceLT, En.vV, hs, hv, hT, hG, hF, ndC, gHu, gHp, spArityF_q, spRest_q, rest5, spValid_q, spRuneC_q, spName15_q, globU_q, globR_q, h4, h3, hz, hz1, emp_iff, bn_nm]
  clear hL hF hs hR hI hJ hW hv hT hG
  simp only [hq, faultV, surp]
  generalize nameV nm = V
  generalize Lib.validD tx.data.toList = D
  generalize (Lib.runeCount tx : Nat) = C
  generalize findE p = E at *
  generalize arE p = R at *
  simp
  grind
set_option maxRecDepth 100000 in
set_option maxHeartbeats 4000000 in
theorem fault6_any (p c n s : Int) (nm tx : ByteArray) (hz : nm.size ≤ 2305843009213693952 ∧ tx.size ≤ 2305843009213693952) (bn on cn ba oa ca : Nat) (h4 : 4 ≤ cn) (h3 : 3 ≤ ca) (w : World) (hg : allRd w.heap.size w (gHu bn on cn ba oa ca)) :
    Calls Tryz.prog 64 #[den (.agg (ndC ⟨6, p, c, nm, tx, n, s⟩))] w fun e w' => e = .returned (.int .i64 (faultV ⟨6, p, c, nm, tx, n, s⟩)) ∧ Below w.heap.size w w' := by
  obtain ⟨q, hq⟩ : ∃ q, q = faultV ⟨6, p, c, nm, tx, n, s⟩ := ⟨_, rfl⟩
  rw [← hq]
  refine calls_go (args := [.agg (ndC ⟨6, p, c, nm, tx, n, s⟩)]) (hp := gHu bn on cn ba oa ca) (nx := 1000) (n := 800) (U := []) (V := []) (tl := tlNd) (gl := glFa) (post := fun s ys => ys = [.v (.int .i64 q)])
    followP tlNd_ok glFa_ok Tryz.func64 rfl (by kernel_rfl) (Nat.le_of_ble_eq_true (by kernel_rfl)) (by kernel_rfl) (by kernel_rfl) (hh_list hg) (free_list (by simp [allLt, gHp, gHu])) ?_ ?_
  · rintro s ys w' rfl H
    exact ⟨rfl, H.below⟩
  intro L F T G nd va hE
  obtain ⟨hL, hF, hs, hv, hT, hG, hR, hI, hJ, hW⟩ := hE
  rw [Tryz.results64] at hF
  simp (maxSteps := 1000000) only [En.nN, En.E, En.evsC, List.map_cons, List.map_nil, Nat.reduceBEq, Nat.reduceAdd, Nat.reduceMul, Nat.reduceEqDiff, Nat.reduceLeDiff, Nat.reduceLT, ne_eq, reduceCtorEq, Int.reduceBEq, Int.reduceBNe, Int.reduceAdd, Int.reduceSub, Int.reduceMul, Int.reduceTDiv, Int.reduceTMod, Int.reduceNeg, En.bitN, Nat.testBit, Nat.reduceShiftRight, Nat.reduceShiftLeft, Nat.reduceAnd, Nat.reduceOr, Nat.reduceBNe, Int.reduceToNat, Nat.reduceSub, Int.reduceLE, Int.reduceLT] at hv
  simp only [En.at_nil, En.at_cons, En.ag_nil, En.ag_cons, and_true, tlNd, glFa, tyInt, tyI64, tyBool, tyStr, tyErr, tyNode] at hT hG
  have hz1 : nm.size ≤ 4611686018427387904 := by omega
  simp (maxSteps := 10000000) only [En.E, En.evsC, List.map_cons, List.map_nil, Nat.reduceBEq, Nat.reduceAdd, Nat.reduceMul, Nat.reduceEqDiff, Nat.reduceLeDiff, Nat.reduceLT, ne_eq, reduceCtorEq, Int.reduceBEq, Int.reduceBNe, Int.reduceAdd, Int.reduceSub, Int.reduceMul, Int.reduceTDiv, Int.reduceTMod, Int.reduceNeg, En.bitN, Nat.testBit, Nat.reduceShiftRight, Nat.reduceShiftLeft, Nat.reduceAnd, Nat.reduceOr, Nat.reduceBNe, Int.reduceToNat, Nat.reduceSub, Int.reduceLE, Int.reduceLT, En.vV, hs, hv, hT, hG, hF, ndC, gHu, gHp, spArityF_q, spRest_q, rest6, spValid_q, spRuneC_q, spName15_q, globU_q, globR_q, h4, h3, hz, hz1, emp_iff, bn_nm]
  clear hL hF hs hR hI hJ hW hv hT hG
  simp only [hq, faultV, surp]
  generalize nameV nm = V
  generalize Lib.validD tx.data.toList = D
  generalize (Lib.runeCount tx : Nat) = C
  generalize findE p = E at *
  generalize arE p = R at *
  have h6 : c < 1 ∨ c = 1 ∨ c = 2 ∨ 2 < c := by omega
  have c1 : c < 1 → ¬ c = 1 ∧ ¬ c = 2 ∧ ¬ 2 < c := by omega
  have c2 : 2 < c → ¬ c = 1 ∧ ¬ c = 2 ∧ ¬ c < 1 := by omega
  rcases h6 with h6 | rfl | rfl | h6
  · simp [h6, c1 h6]
    grind
  · simp
    grind
  · simp
    grind
  · simp [h6, c2 h6]
    grind
set_option maxHeartbeats 4000000 in
theorem fault0_any (k p c n s : Int) (nm tx : ByteArray) (hk : k < 1 ∨ 6 < k) (bn on cn ba oa ca : Nat) (h4 : 4 ≤ cn) (h3 : 3 ≤ ca) (w : World) (hg : allRd w.heap.size w (gHu bn on cn ba oa ca)) :
    Calls Tryz.prog 64 #[den (.agg (ndC ⟨k, p, c, nm, tx, n, s⟩))] w fun e w' => e = .returned (.int .i64 (faultV ⟨k, p, c, nm, tx, n, s⟩)) ∧ Below w.heap.size w w' := by
  have hq : faultV ⟨k, p, c, nm, tx, n, s⟩ = 2 := if_pos (by simp only; omega)
  rw [hq]
  refine calls_go (args := [.agg (ndC ⟨k, p, c, nm, tx, n, s⟩)]) (hp := gHu bn on cn ba oa ca) (nx := 1000) (n := 800) (U := []) (V := []) (tl := tlNd) (gl := glFa) (post := fun s ys => ys = [.v (.int .i64 2)])
    followP tlNd_ok glFa_ok Tryz.func64 rfl (by kernel_rfl) (Nat.le_of_ble_eq_true (by kernel_rfl)) (by kernel_rfl) (by kernel_rfl) (hh_list hg) (free_list (by simp [allLt, gHp, gHu])) ?_ ?_
  · rintro s ys w' rfl H
    exact ⟨rfl, H.below⟩
  intro L F T G nd va hE
  obtain ⟨hL, hF, hs, hv, hT, hG, hR, hI, hJ, hW⟩ := hE
  rw [Tryz.results64] at hF
  simp (maxSteps := 1000000) only [En.nN, En.E, En.evsC, List.map_cons, List.map_nil, Nat.reduceBEq, Nat.reduceAdd, Nat.reduceMul, Nat.reduceEqDiff, Nat.reduceLeDiff, Nat.reduceLT, ne_eq, reduceCtorEq, Int.reduceBEq, Int.reduceBNe, Int.reduceAdd, Int.reduceSub, Int.reduceMul, Int.reduceTDiv, Int.reduceTMod, Int.reduceNeg, En.bitN, Nat.testBit, Nat.reduceShiftRight, Nat.reduceShiftLeft, Nat.reduceAnd, Nat.reduceOr, Nat.reduceBNe, Int.reduceToNat, Nat.reduceSub, Int.reduceLE, Int.reduceLT] at hv
  simp only [En.at_nil, En.at_cons, En.ag_nil, En.ag_cons, and_true, tlNd, glFa, tyInt, tyI64, tyBool, tyStr, tyErr, tyNode] at hT hG
  have hb : (bif decide (k < 1) then true else decide (6 < k)) = true := by
    rcases hk with h | h
    · rw [decide_eq_true h]; rfl
    · rw [decide_eq_true h]; cases decide (k < 1) <;> rfl
  simp (maxSteps := 10000000) only [En.E, En.evsC, List.map_cons, List.map_nil, Nat.reduceBEq, Nat.reduceAdd, Nat.reduceMul, Nat.reduceEqDiff, Nat.reduceLeDiff, Nat.reduceLT, ne_eq, reduceCtorEq, Int.reduceBEq, Int.reduceBNe, Int.reduceAdd, Int.reduceSub, Int.reduceMul, Int.reduceTDiv, Int.reduceTMod, Int.reduceNeg, En.bitN, Nat.testBit, Nat.reduceShiftRight, Nat.reduceShiftLeft, Nat.reduceAnd, Nat.reduceOr, Nat.reduceBNe, Int.reduceToNat, Nat.reduceSub, Int.reduceLE, Int.reduceLT, En.vV, hs, hv, hT, hG, hF, ndC, gHu, gHp, hb]
  exact fun h => by rw [h]; rfl
theorem fault_any (d : Nd) (hz : d.nm.size ≤ 2305843009213693952 ∧ d.tx.size ≤ 2305843009213693952) (bn on cn ba oa ca : Nat) (h4 : 4 ≤ cn) (h3 : 3 ≤ ca) (w : World) (hg : allRd w.heap.size w (gHu bn on cn ba oa ca)) :
    Calls Tryz.prog 64 #[den (.agg (ndC d))] w fun e w' => e = .returned (.int .i64 (faultV d)) ∧ Below w.heap.size w w' := by
  obtain ⟨k, p, c, nm, tx, n, s⟩ := d
  by_cases hk : k < 1 ∨ 6 < k
  · exact fault0_any k p c n s nm tx hk bn on cn ba oa ca h4 h3 w hg
  · have : k = 1 ∨ k = 2 ∨ k = 3 ∨ k = 4 ∨ k = 5 ∨ k = 6 := by omega
    rcases this with rfl | rfl | rfl | rfl | rfl | rfl
    · exact fault1_any p c n s nm tx hz bn on cn ba oa ca h4 h3 w hg
    · exact fault2_any p c n s nm tx hz bn on cn ba oa ca h4 h3 w hg
    · exact fault3_any p c n s nm tx hz bn on cn ba oa ca h4 h3 w hg
    · exact fault4_any p c n s nm tx hz bn on cn ba oa ca h4 h3 w hg
    · exact fault5_any p c n s nm tx hz bn on cn ba oa ca h4 h3 w hg
    · exact fault6_any p c n s nm tx hz bn on cn ba oa ca h4 h3 w hg
def spFault : Spc
  | [.agg [.v (.int .i64 k), .v (.int .i64 p), .v (.int .i64 c), .v (.string nm), .v (.string tx), .v (.int .i64 n), .v (.int .i64 s)]], H, _ => .is (globR (H 0) (H 1) (H 2) (H 3) ∧ globU (H 4) (H 5) ∧ nm.size ≤ 2305843009213693952 ∧ tx.size ≤ 2305843009213693952) (.v (.int .i64 (faultV ⟨k, p, c, nm, tx, n, s⟩)))
  | _, _, _ => .bad
theorem spFault_q {k p c n s : Int} {nm tx : ByteArray} {H : Nat → Ch} {nx : Nat} : spFault [.agg [.v (.int .i64 k), .v (.int .i64 p), .v (.int .i64 c), .v (.string nm), .v (.string tx), .v (.int .i64 n), .v (.int .i64 s)]] H nx = .is (globR (H 0) (H 1) (H 2) (H 3) ∧ globU (H 4) (H 5) ∧ nm.size ≤ 2305843009213693952 ∧ tx.size ≤ 2305843009213693952) (.v (.int .i64 (faultV ⟨k, p, c, nm, tx, n, s⟩))) := (rfl)
theorem spFault_ok : SpecOk Tryz.prog 64 spFault := by
  intro args hp nx w0 O w H hv
  unfold spFault at hv ⊢
  split at hv
  · next k p c nm tx n s =>
    obtain ⟨hG, hU, hz⟩ := hv
    obtain ⟨bn, on, cn, ba, oa, ca, hr, h4, h3, _⟩ := globR_ok H hG
    obtain ⟨u1, u2⟩ := globU_ok H hU
    refine (fault_any ⟨k, p, c, nm, tx, n, s⟩ hz bn on cn ba oa ca h4 h3 w ⟨⟨u1, rfl⟩, ⟨u2, rfl⟩, hr⟩).mono ?_
    rintro e w' ⟨rfl, hb⟩
    exact ⟨⟨0, none, 0, none, 0, mz⟩, rfl, .still hb⟩
  · exact hv.elim
end Pr
end Go.Proofs.YtpkldfkmokeamaaGreatDoor
/-
Expressions as lists of nodes: operands, numbers, the tree that belongs to them; cells told by functions (chapter 15).
-/
set_option linter.unusedSimpArgs false
set_option linter.unusedVariables false
namespace Go.Proofs.YtpkldfkmokeamaaGreatDoor
namespace Pr
open Go Go.RowKit En
open Ex
def ndAt (l : List Nd) (i : Nat) : Nd := l.getD i ndZ
def Mn (d : Nd) : Nat := if opN d = true then d.c.toNat else 0
def Kn (d : Nd) : Nat := if d.k = 3 then d.c.toNat else 0
def Ms (l : List Nd) (i : Nat) : Nat := Mn (ndAt l i)
def Ks (l : List Nd) (i : Nat) : Nat := Kn (ndAt l i)
structure Good (l : List Nd) : Prop where
  op : ∀ i, i < l.length → opN (ndAt l i) = true → (ndAt l i).c = 1 ∨ (ndAt l i).c = 2
  ls : ∀ i, i < l.length → (ndAt l i).k = 3 → 0 ≤ (ndAt l i).c ∧ i + 1 + Ks l i ≤ l.length
  len : l.length ≤ 100000
theorem Good.fine {l : List Nd} (h : Good l) : Fine l.length (Ks l) := by
  intro i hi
  by_cases h3 : (ndAt l i).k = 3
  · exact (h.ls i hi h3).2
  · have : Ks l i = 0 := if_neg h3
    omega
def tabS (n : Nat) (g : Nat → SV) : List SV := (List.range n).map g
theorem tab_len (n : Nat) (g : Nat → SV) : (tabS n g).length = n := by simp [tabS]
theorem tab_lenS (n : Nat) (g : Nat → SV) : lenS (tabS n g) = n := by rw [lenS_eq, tab_len]
theorem nth_eq (l : List SV) : ∀ i, nth l i = l.getD i .un := by
  induction l with
  | nil => intro i; rfl
  | cons x l ih => intro i; cases i with
    | zero => rfl
    | succ i => rw [nth, ih]; rfl
theorem tab_nth {n i : Nat} {g : Nat → SV} (h : i < n) : nth (tabS n g) i = g i := by
  rw [nth_eq, tabS, List.getD_eq_getElem?_getD, List.getElem?_map, List.getElem?_range h]; rfl
theorem tab_congr {n : Nat} {f g : Nat → SV} (h : ∀ j, j < n → f j = g j) : tabS n f = tabS n g := by
  unfold tabS
  exact List.map_congr_left fun j hj => h j (List.mem_range.1 hj)
theorem tab_dens {n : Nat} {f g : Nat → SV} (h : ∀ j, j < n → den (f j) = den (g j)) : dens (tabS n f) = dens (tabS n g) := by
  rw [dens_eq, dens_eq, tabS, tabS, List.map_map, List.map_map]
  exact List.map_congr_left fun j hj => h j (List.mem_range.1 hj)
theorem putAt_one (l : List SV) : ∀ (i : Nat) (y : SV), putAt l i [y] = l.set i y := by
  induction l with
  | nil => intro i y; cases i <;> rfl
  | cons x l ih => intro i y; cases i with
    | zero => simp [putAt]
    | succ i => simp [putAt, ih]
theorem updF_same {α : Type} (f : Nat → α) (i : Nat) (x : α) : updF f i x i = x := if_pos rfl
theorem updF_ne {α : Type} {f : Nat → α} {i j : Nat} {x : α} (h : j ≠ i) : updF f i x j = f j := if_neg h
theorem tab_put {n i : Nat} {g : Nat → SV} {y : SV} (h : i < n) : putAt (tabS n g) i [y] = tabS n (updF g i y) := by
  rw [putAt_one]
  apply List.ext_getElem?
  intro j
  rw [List.getElem?_set]
  simp only [tabS, List.length_map, List.length_range, List.getElem?_map]
  by_cases e : i = j
  · subst e; simp [h, updF_same]
  · rw [if_neg e]
    by_cases hj : j < n
    · simp [hj, updF_ne (f := g) (x := y) (fun e2 : j = i => e e2.symm)]
    · simp [hj]
theorem rep_tab (n : Nat) (y : SV) : rep n [y] = tabS n fun _ => y := by
  induction n with
  | zero => rfl
  | succ n ih =>
    rw [rep, ih]
    simp only [tabS, List.map_const', List.length_range]
    rfl
section
variable {n : Nat} {M K : Nat → Nat}
theorem tree0 (hK : Fine n K) {i : Nat} (hi : i < n) (hm : M i = 0) : kidsP n M K i = [] ∧ EndP n M K i = i + 1 + K i ∧ Dep n M K i = 1 := by
  have hk : kidsP n M K i = [] := by rw [kidsP, hm]; rfl
  refine ⟨hk, ?_, ?_⟩
  · rw [EndP_rec hK hi, hm]; rfl
  · rw [Dep_rec hK hi, hk]; rfl
theorem tree1 (hK : Fine n K) {i : Nat} (hi : i < n) (hm : M i = 1) (hk0 : K i = 0) :
    (n ≤ i + 1 → kidsP n M K i = [] ∧ EndP n M K i = i + 1 ∧ Dep n M K i = 1) ∧
    (i + 1 < n → kidsP n M K i = [i + 1] ∧ EndP n M K i = EndP n M K (i + 1) ∧ Dep n M K i = Dep n M K (i + 1) + 1) := by
  have e1 := EndP_rec (M := M) hK hi
  have e2 := Dep_rec (M := M) hK hi
  rw [hm, hk0, Nat.add_zero] at e1
  constructor
  · intro h
    have hk : kidsP n M K i = [] := by rw [kidsP, hm, hk0, Nat.add_zero, plcP, if_pos (by omega)]
    refine ⟨hk, ?_, ?_⟩
    · rw [e1, wkP, if_pos (by omega)]
    · rw [e2, hk]; rfl
  · intro h
    have hk : kidsP n M K i = [i + 1] := by rw [kidsP, hm, hk0, Nat.add_zero, plcP, if_neg (by omega)]; rfl
    refine ⟨hk, ?_, ?_⟩
    · rw [e1, wkP, if_neg (by omega)]; rfl
    · rw [e2, hk]; simp [most]
theorem tree2 (hK : Fine n K) {i : Nat} (hi : i < n) (hm : M i = 2) (hk0 : K i = 0) :
    (n ≤ i + 1 → kidsP n M K i = [] ∧ EndP n M K i = i + 1 ∧ Dep n M K i = 1) ∧
    (i + 1 < n → n ≤ EndP n M K (i + 1) → kidsP n M K i = [i + 1] ∧ EndP n M K i = EndP n M K (i + 1) ∧ Dep n M K i = Dep n M K (i + 1) + 1) ∧
    (i + 1 < n → EndP n M K (i + 1) < n → kidsP n M K i = [i + 1, EndP n M K (i + 1)] ∧ EndP n M K i = EndP n M K (EndP n M K (i + 1)) ∧ Dep n M K i = max (Dep n M K (i + 1)) (Dep n M K (EndP n M K (i + 1))) + 1) := by
  have e1 := EndP_rec (M := M) hK hi
  have e2 := Dep_rec (M := M) hK hi
  rw [hm, hk0, Nat.add_zero] at e1
  refine ⟨fun h => ?_, fun h h' => ?_, fun h h' => ?_⟩
  · have hk : kidsP n M K i = [] := by rw [kidsP, hm, hk0, Nat.add_zero, plcP, if_pos (by omega)]
    refine ⟨hk, ?_, ?_⟩
    · rw [e1, wkP, if_pos (by omega)]
    · rw [e2, hk]; rfl
  · have hk : kidsP n M K i = [i + 1] := by rw [kidsP, hm, hk0, Nat.add_zero, plcP, if_neg (by omega), plcP, if_pos h']
    refine ⟨hk, ?_, ?_⟩
    · rw [e1, wkP, if_neg (by omega), wkP, if_pos h']
    · rw [e2, hk]; simp [most]
  · have hk : kidsP n M K i = [i + 1, EndP n M K (i + 1)] := by rw [kidsP, hm, hk0, Nat.add_zero, plcP, if_neg (by omega), plcP, if_neg (by omega)]; rfl
    refine ⟨hk, ?_, ?_⟩
    · rw [e1, wkP, if_neg (by omega), wkP, if_neg (by omega)]; rfl
    · rw [e2, hk]; simp [most]
end
end Pr
end Go.Proofs.YtpkldfkmokeamaaGreatDoor
