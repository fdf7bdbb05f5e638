/-
Chapter 25: what its laws ask beforehand: awake.
-/
import Derived.Test.YtapgddiocdcaeaaGreatDoorLk1
set_option linter.unusedSimpArgs false
set_option linter.unusedVariables false
namespace Go.Proofs.YtapgddiocdcaeaaGreatDoor
namespace Pr
open Go Go.RowKit En
open Ex
theorem flat_at : ∀ (ns : List Nd) (i j : Nat), i < ns.length → j < 7 → (ns.flatMap ndC)[i * 7 + j]? = (ndC (ndAt ns i))[j]?
  | [], i, j, h, _ => absurd h (Nat.not_lt_zero i)
  | d :: ns, 0, j, _, hj => by
    rw [List.flatMap_cons, Nat.zero_mul, Nat.zero_add, List.getElem?_append_left (show j < (ndC d).length from hj)]; rfl
  | d :: ns, i + 1, j, h, hj => by
    rw [List.flatMap_cons, List.getElem?_append_right (by show 7 ≤ _; omega), show (i + 1) * 7 + j - (ndC d).length = i * 7 + j by show (i + 1) * 7 + j - 7 = _; omega]
    exact flat_at ns i j (by simpa using h) hj
theorem flat_den {ns : List Nd} {i j : Nat} (hi : i < ns.length) (hj : j < 7) : (dens (ns.flatMap ndC))[i * 7 + j]? = some ((dens (ndC (ndAt ns i))).getD j undef) := by
  rw [dens_eq, dens_eq, List.getElem?_map, flat_at ns i j hi hj, List.getD_eq_getElem?_getD, List.getElem?_map]
  have : j < (ndC (ndAt ns i)).length := hj
  rw [List.getElem?_eq_getElem this]; rfl
/-- nodes in a block of one's own, read -/
theorem blk_nodes {B B' : Nat} {w : World} {b : Nat} {ns : List Nd} {cs : List SV} {t : TypeId} (h : Hold B w (.blk b cs t)) (hc : cs = ns.flatMap ndC) : Hold B' w (.recs (some ⟨b, 0, none⟩) ns.length 7 ns.length fun i => ndC (ndAt ns i)) := by
  subst hc
  obtain ⟨h1, h2⟩ := h
  refine ⟨⟨Nat.le_refl _, fun _ => ⟨b, 0, rfl, (Array.getElem?_eq_some_iff.1 h2).1, fun i hi j hj => ?_⟩⟩, fun i hi => rfl⟩
  have := flat_den hi hj
  simp [World.cell?, h2, this]
theorem row_nodes {B B' : Nat} {w : World} {A : Option Addr} {c : Nat} {e : TypeId} {ns : List Nd} {n : Nat} {cs : List SV} (h : Hold B w (.rowV A c e 7 n cs)) (hc : cs = ns.flatMap ndC) (hn : n = ns.length) : Hold B' w (.recs A c 7 n fun i => ndC (ndAt ns i)) := by
  subst hc hn
  refine ⟨(row_sl h).congr fun i hi j hj => ?_, fun i hi => rfl⟩
  rw [List.getD_eq_getElem?_getD, flat_den hi hj]; rfl
def listN : List Nd := [⟨3, 0, 3, ⟨#[]⟩, ⟨#[]⟩, 0, 0⟩, ⟨1, 0, 0, ⟨#[]⟩, ⟨#[]⟩, 1, 0⟩, ⟨1, 0, 0, ⟨#[]⟩, ⟨#[]⟩, 2, 0⟩, ⟨1, 0, 0, ⟨#[]⟩, ⟨#[]⟩, 3, 0⟩]
def exN : List Nd := ⟨5, 9, 1, ⟨#[]⟩, ⟨#[]⟩, 0, 0⟩ :: listN
/-- a function that makes some nodes -/
def spNodes (ns : List Nd) : Spc
  | [], _, nx => .val True fun A c => (.g nx A ns.length c, [(nx, .recs A c 7 ns.length fun i => ndC (ndAt ns i))])
  | _, _, _ => .bad
theorem spNodes_q {ns : List Nd} {H : Nat → Ch} {nx : Nat} : spNodes ns [] H nx = .val True fun A c => (.g nx A ns.length c, [(nx, .recs A c 7 ns.length fun i => ndC (ndAt ns i))]) := rfl
def MakesN (f : FuncId) (ns : List Nd) : Prop := ∀ w : World, Calls Tryz.prog f #[] w fun e w' => ∃ A c, e = .returned (.slice A ns.length c) ∧ Below w.heap.size w w' ∧ Hold w.heap.size w' (.recs A c 7 ns.length fun i => ndC (ndAt ns i)) ∧ ∀ a, A = some a → w.heap.size ≤ a.block
theorem spNodes_ok {f : FuncId} {ns : List Nd} (h : MakesN f ns) : SpecOk Tryz.prog f (spNodes ns) := by
  intro args hp nx w0 O w H hv
  unfold spNodes at hv ⊢
  split at hv
  · refine (h w).mono ?_
    rintro e w' ⟨A, c, rfl, hb, hh, hf⟩
    refine ⟨⟨0, A, c, none, 0, mz⟩, rfl, Stp.rd hb ⟨⟨hh, rfl⟩, trivial⟩ fun k b' hx => .inl ?_⟩
    refine foot_look (Q := fun b => w.heap.size ≤ b) (l := [(_, _)]) ⟨?_, trivial⟩ hx
    rintro _ ⟨_, a, h, rfl⟩; exact hf a h
  · exact hv.elim
def tlAw25 : List (TypeId × TI) := [tyInt, tyI64, tyBool, tyStr, tyErr, tyNode, tyNodes, tyInts]
theorem tlAw25_ok : TyAll Tryz.prog (lookT tlAw25) := tyAll_p tyInt_ok <| tyAll_p tyI64_ok <| tyAll_p tyBool_ok <| tyAll_p tyStr_ok <| tyAll_p tyErr_ok <| tyAll_p tyNode_ok <| tyAll_p tyNodes_ok <| tyAll_p tyInts_ok tyAll_nil
theorem list25_any : MakesN 63 listN := by
  intro w
  refine calls_go (args := []) (hp := []) (nx := 1000) (n := 200) (U := []) (V := []) (tl := tlAw25) (gl := gl0) (post := fun s ys => ∃ k b t, ys = [.gp k b 0 4 4] ∧ lookH s.hp k = .blk b (listN.flatMap ndC) t)
    followP tlAw25_ok gl0_ok Tryz.func63 rfl (by kernel_rfl) (Nat.le_of_ble_eq_true (by kernel_rfl)) (by kernel_rfl) (by kernel_rfl) (hh_list trivial) (fun _ _ => rfl) ?_ ?_
  · rintro s ys w' ⟨k, b, t, rfl, hk⟩ H
    have hh := hk ▸ H.hold k
    exact ⟨some ⟨b, 0, none⟩, 4, rfl, H.below, blk_nodes hh rfl, fun a ha => by cases ha; exact hh.1⟩
  intro L F T G nd va hE
  obtain ⟨hL, hF, hs, hv, hT, hG, hR, hI, hJ, hW⟩ := hE
  rw [Tryz.results63] at hF
  simp (maxSteps := 1000000) only [En.nN, En.E, En.evsC, List.map_cons, List.map_nil, Nat.reduceBEq, Nat.reduceAdd, Nat.reduceMul, Nat.reduceEqDiff, Nat.reduceLeDiff, Nat.reduceLT, ne_eq, reduceCtorEq, Int.reduceBEq, Int.reduceBNe, Int.reduceAdd, Int.reduceSub, Int.reduceMul, Int.reduceTDiv, Int.reduceTMod, Int.reduceNeg, En.bitN, Nat.testBit, Nat.reduceShiftRight, Nat.reduceShiftLeft, Nat.reduceAnd, Nat.reduceOr, Nat.reduceBNe, Int.reduceToNat, Nat.reduceSub, Int.reduceLE, Int.reduceLT] at hv
  simp only [En.at_nil, En.at_cons, En.ag_nil, En.ag_cons, and_true, tlAw25, gl0, tyInt, tyI64, tyBool, tyStr, tyErr, tyNode, tyNodes, tyInts] at hT hG
  simp (maxSteps := 10000000) only [En.E, En.evsC, List.map_cons, List.map_nil, Nat.reduceBEq, Nat.reduceAdd, Nat.reduceMul, Nat.reduceEqDiff, Nat.reduceLeDiff, Nat.reduceLT, ne_eq, reduceCtorEq, Int.reduceBEq, Int.reduceBNe, Int.reduceAdd, Int.reduceSub, Int.reduceMul, Int.reduceTDiv, Int.reduceTMod, Int.reduceNeg, En.bitN, Nat.testBit, Nat.reduceShiftRight, Nat.reduceShiftLeft, Nat.reduceAnd, Nat.reduceOr, Nat.reduceBNe, Int.reduceToNat, Nat.reduceSub, Int.reduceLE, Int.reduceLT, En.vV, hs, hv, hT, hG, hF, ]
  exact fun b => ⟨1000, b, _, rfl, rfl⟩
def glAw1 : List (FuncId × Spc) := [(63, spNodes listN)]
theorem glAw1_ok : GOk Tryz.prog (lookG glAw1) := lG_cons (by kernel_rfl) (spNodes_ok list25_any) lG_nil
theorem ex25_any : MakesN 38 exN := by
  intro w
  refine calls_go (args := []) (hp := []) (nx := 1000) (n := 200) (U := []) (V := []) (tl := tlAw25) (gl := glAw1) (post := fun s ys => ∃ k A c e, ys = [.g k A 5 c] ∧ lookH s.hp k = .rowV A c e 7 5 (exN.flatMap ndC))
    followP tlAw25_ok glAw1_ok Tryz.func38 rfl (by kernel_rfl) (Nat.le_of_ble_eq_true (by kernel_rfl)) (by kernel_rfl) (by kernel_rfl) (hh_list trivial) (fun _ _ => rfl) ?_ ?_
  · rintro s ys w' ⟨k, A, c, e, rfl, hk⟩ H
    have hh := hk ▸ H.hold k
    exact ⟨A, c, rfl, H.below, row_nodes hh rfl rfl, fun a ha => (World.ownsRow.lt hh a.block (row_own ⟨a, ha, rfl⟩)).1⟩
  intro L F T G nd va hE
  obtain ⟨hL, hF, hs, hv, hT, hG, hR, hI, hJ, hW⟩ := hE
  rw [Tryz.results38] at hF
  simp (maxSteps := 1000000) only [En.nN, En.E, En.evsC, List.map_cons, List.map_nil, Nat.reduceBEq, Nat.reduceAdd, Nat.reduceMul, Nat.reduceEqDiff, Nat.reduceLeDiff, Nat.reduceLT, ne_eq, reduceCtorEq, Int.reduceBEq, Int.reduceBNe, Int.reduceAdd, Int.reduceSub, Int.reduceMul, Int.reduceTDiv, Int.reduceTMod, Int.reduceNeg, En.bitN, Nat.testBit, Nat.reduceShiftRight, Nat.reduceShiftLeft, Nat.reduceAnd, Nat.reduceOr, Nat.reduceBNe, Int.reduceToNat, Nat.reduceSub, Int.reduceLE, Int.reduceLT] at hv
  simp only [En.at_nil, En.at_cons, En.ag_nil, En.ag_cons, and_true, tlAw25, glAw1, tyInt, tyI64, tyBool, tyStr, tyErr, tyNode, tyNodes, tyInts] at hT hG
  simp (maxSteps := 10000000) only [En.E, En.evsC, List.map_cons, List.map_nil, Nat.reduceBEq, Nat.reduceAdd, Nat.reduceMul, Nat.reduceEqDiff, Nat.reduceLeDiff, Nat.reduceLT, ne_eq, reduceCtorEq, Int.reduceBEq, Int.reduceBNe, Int.reduceAdd, Int.reduceSub, Int.reduceMul, Int.reduceTDiv, Int.reduceTMod, Int.reduceNeg, En.bitN, Nat.testBit, Nat.reduceShiftRight, Nat.reduceShiftLeft, Nat.reduceAnd, Nat.reduceOr, Nat.reduceBNe, Int.reduceToNat, Nat.reduceSub, Int.reduceLE, Int.reduceLT, En.vV, hs, hv, hT, hG, hF, spNodes_q]
  exact fun b A c => ⟨by refine ⟨by decide, by decide, rfl, rfl⟩, fun A1 c1 => ⟨2024, A1, c1, _, rfl, rfl⟩⟩
theorem aw1 : exprV [] exN = (2, 0) := by kernel_rfl
end Pr
end Go.Proofs.YtapgddiocdcaeaaGreatDoor
/-
Chapter 25: contracts of its functions of numbers; awake.
-/
set_option linter.unusedSimpArgs false
set_option linter.unusedVariables false
namespace Go.Proofs.YtapgddiocdcaeaaGreatDoor
namespace Pr
open Go Go.RowKit En
open Ex
def primR (c : Prop) (p : Int) : Option (List Int) → Res
  | some xs => .is (xs.length ≤ 1000 ∧ c) (.tup [.v (.int .i64 (primV p xs).1), .v (.int .i64 (primV p xs).2)])
  | none => .bad
theorem primR_q {c : Prop} {p : Int} {xs : List Int} : primR c p (some xs) = .is (xs.length ≤ 1000 ∧ c) (.tup [.v (.int .i64 (primV p xs).1), .v (.int .i64 (primV p xs).2)]) := rfl
def spPrim25 : Spc
  | [.v (.int .i64 p), x], H, _ => primR (globR (H 0) (H 1) (H 2) (H 3)) p (getN H x)
  | _, _, _ => .bad
theorem spPrim25_q {p : Int} {x : SV} {H : Nat → Ch} {nx : Nat} : spPrim25 [.v (.int .i64 p), x] H nx = primR (globR (H 0) (H 1) (H 2) (H 3)) p (getN H x) := rfl
theorem spPrim25_ok : SpecOk Tryz.prog 13 spPrim25 := by
  intro args hp nx w0 O w H hv
  unfold spPrim25 at hv ⊢
  split at hv
  · next p x =>
    cases hx : getN (lookH hp) x with
    | some xs =>
      rw [hx] at hv
      obtain ⟨hn, hG⟩ := hv
      obtain ⟨A, c, e, hsl, _⟩ := getN_ok H hx
      obtain ⟨bn, on, cn, ba, oa, ca, hr, h4, h3, _⟩ := globR_ok H hG
      have : (dens [.v (.int .i64 p), x]).toArray = #[.int .i64 p, .slice A xs.length c] := by rw [← e]; rfl
      rw [this]
      refine (prim_any p xs hn A c bn on cn ba oa ca h4 h3 w hsl hr).mono ?_
      rintro e w' ⟨rfl, hb⟩
      exact ⟨⟨0, none, 0, none, 0, mz⟩, rfl, .still hb⟩
    | none => rw [hx] at hv; exact hv.elim
  · exact hv.elim
def spRes25 : Spc
  | [.v (.int .i64 p), .v (.int .i64 n)], H, _ => .is (globR (H 0) (H 1) (H 2) (H 3)) (.tup [.v (.int .i64 (resV25 p n).1), .v (.int .i64 (resV25 p n).2)])
  | _, _, _ => .bad
theorem spRes25_q {p n : Int} {H : Nat → Ch} {nx : Nat} : spRes25 [.v (.int .i64 p), .v (.int .i64 n)] H nx = .is (globR (H 0) (H 1) (H 2) (H 3)) (.tup [.v (.int .i64 (resV25 p n).1), .v (.int .i64 (resV25 p n).2)]) := rfl
theorem spRes25_ok : SpecOk Tryz.prog 15 spRes25 := by
  intro args hp nx w0 O w H hv
  unfold spRes25 at hv ⊢
  split at hv
  · next p n =>
    obtain ⟨bn, on, cn, ba, oa, ca, hr, h4, h3, _⟩ := globR_ok H hv
    refine (res25_any p n bn on cn ba oa ca h4 h3 w hr).mono ?_
    rintro e w' ⟨rfl, hb⟩
    exact ⟨⟨0, none, 0, none, 0, mz⟩, rfl, .still hb⟩
  · exact hv.elim
def spChg25 : Spc
  | [.v (.int .i64 m), .v (.int .i64 k), .v (.int .i64 f)], _, _ => .is (inr .i64 m ∧ inr .i64 k ∧ inr .i64 f) (.tup [.v (.int .i64 (chgV m k f).1), .v (.int .i64 (chgV m k f).2)])
  | _, _, _ => .bad
theorem spChg25_q {m k f : Int} {H : Nat → Ch} {nx : Nat} : spChg25 [.v (.int .i64 m), .v (.int .i64 k), .v (.int .i64 f)] H nx = .is (inr .i64 m ∧ inr .i64 k ∧ inr .i64 f) (.tup [.v (.int .i64 (chgV m k f).1), .v (.int .i64 (chgV m k f).2)]) := (rfl)
theorem spChg25_ok : SpecOk Tryz.prog 27 spChg25 := specOk_is fun args H nx => by
  unfold spChg25; split
  · exact fun h w => chg_any _ _ _ h.1 h.2.1 h.2.2 w
  · trivial
def spStm25 : Spc
  | [.v (.int .i64 k), .v (.int .i64 x)], _, _ => .is (inr .i64 x) (.tup [.v (.int .i64 (stmtV k x).1), .v (.int .i64 (stmtV k x).2)])
  | _, _, _ => .bad
theorem spStm25_q {k x : Int} {H : Nat → Ch} {nx : Nat} : spStm25 [.v (.int .i64 k), .v (.int .i64 x)] H nx = .is (inr .i64 x) (.tup [.v (.int .i64 (stmtV k x).1), .v (.int .i64 (stmtV k x).2)]) := (rfl)
theorem spStm25_ok : SpecOk Tryz.prog 30 spStm25 := specOk_is fun args H nx => by
  unfold spStm25; split
  · exact fun h w => stmt_any _ _ h w
  · trivial
def glAw25 : List (FuncId × Spc) := [(13, spPrim25), (15, spRes25), (30, spStm25), (27, spChg25), (18, spExpr25), (38, spNodes exN)]
theorem glAw25_ok : GOk Tryz.prog (lookG glAw25) := lG_cons (by kernel_rfl) spPrim25_ok <| lG_cons (by kernel_rfl) spRes25_ok <| lG_cons (by kernel_rfl) spStm25_ok <| lG_cons (by kernel_rfl) spChg25_ok <| lG_cons (by kernel_rfl) spExpr25_ok <| lG_cons (by kernel_rfl) (spNodes_ok ex25_any) lG_nil
theorem aw2 : primV 15 [3, 3] = (7, 0) := by kernel_rfl
theorem aw3 : resV25 8 5 = (5, 0) := by kernel_rfl
theorem aw4 : stmtV 5 5 = (6, 0) := by kernel_rfl
theorem aw5 : chgV 3 4 7 = (7, 0) := by kernel_rfl
theorem zs_ex : zsN exN := by unfold zsN; decide +kernel
set_option maxRecDepth 100000 in
set_option maxHeartbeats 4000000 in
theorem awake25_any (bn on cn ba oa ca : Nat) (h4 : 4 ≤ cn) (h3 : 3 ≤ ca) (w : World) (h : allRd w.heap.size w (gHu bn on cn ba oa ca)) :
    Calls Tryz.prog 12 #[] w fun e w' => e = .returned (.bool true) ∧ Below w.heap.size w w' := by
  refine calls_go (args := []) (hp := gHu bn on cn ba oa ca) (nx := 1000) (n := 400) (U := [(1000000, 11)]) (V := []) (tl := tlAw25) (gl := glAw25) (post := fun s ys => ys = [.v (.bool true)])
    followP tlAw25_ok glAw25_ok Tryz.func12 rfl (by kernel_rfl) (Nat.le_of_ble_eq_true (by kernel_rfl)) (by kernel_rfl) (by kernel_rfl) (hh_list h) (free_list (by simp [allLt, gHu, gHp])) ?_ ?_
  · rintro s ys w' rfl H
    exact ⟨rfl, H.below⟩
  intro L F T G nd va hE
  obtain ⟨hL, hF, hs, hv, hT, hG, hR, hI, hJ, hW⟩ := hE
  rw [Tryz.results12] at hF
  simp (maxSteps := 1000000) only [En.nN, En.E, En.evsC, List.map_cons, List.map_nil, Nat.reduceBEq, Nat.reduceAdd, Nat.reduceMul, Nat.reduceEqDiff, Nat.reduceLeDiff, Nat.reduceLT, ne_eq, reduceCtorEq, Int.reduceBEq, Int.reduceBNe, Int.reduceAdd, Int.reduceSub, Int.reduceMul, Int.reduceTDiv, Int.reduceTMod, Int.reduceNeg, En.bitN, Nat.testBit, Nat.reduceShiftRight, Nat.reduceShiftLeft, Nat.reduceAnd, Nat.reduceOr, Nat.reduceBNe, Int.reduceToNat, Nat.reduceSub, Int.reduceLE, Int.reduceLT] at hv
  simp only [En.at_nil, En.at_cons, En.ag_nil, En.ag_cons, and_true, tlAw25, glAw25, tyInt, tyI64, tyBool, tyStr, tyErr, tyNode, tyNodes, tyInts] at hT hG
  have gs : ∀ b, (showC b 0 2 (.blk b [.v (.int .i64 3), .v (.int .i64 3)] 3)).bind intsOf = some [3, 3] := fun b => by
    rw [showC, if_pos ⟨rfl, Nat.le_refl 2⟩]; rfl
  have l1 : [(3 : Int), 3].length ≤ 1000 := (by simp)
  have l2 : exN.length ≤ 100000 := (by decide)
  have hz := zs_ex
  have i1 : inr .i64 3 := by simp only [En.inr, En.lo, En.hi]; omega
  have i2 : inr .i64 4 := by simp only [En.inr, En.lo, En.hi]; omega
  have i3 : inr .i64 7 := by simp only [En.inr, En.lo, En.hi]; omega
  have i4 : inr .i64 5 := by simp only [En.inr, En.lo, En.hi]; omega
  simp (maxSteps := 10000000) only [En.E, En.evsC, List.map_cons, List.map_nil, Nat.reduceBEq, Nat.reduceAdd, Nat.reduceMul, Nat.reduceEqDiff, Nat.reduceLeDiff, Nat.reduceLT, ne_eq, reduceCtorEq, Int.reduceBEq, Int.reduceBNe, Int.reduceAdd, Int.reduceSub, Int.reduceMul, Int.reduceTDiv, Int.reduceTMod, Int.reduceNeg, En.bitN, Nat.testBit, Nat.reduceShiftRight, Nat.reduceShiftLeft, Nat.reduceAnd, Nat.reduceOr, Nat.reduceBNe, Int.reduceToNat, Nat.reduceSub, Int.reduceLE, Int.reduceLT, En.vV, hs, hv, hT, hG, hF, gHu, gHp, spPrim25_q, getN_gp, if_true, gs, primR_q, l1, globR_q, globU_q, h4, h3, aw2, spRes25_q, aw3, spStm25_q, i1, i2, i3, i4, aw4, spChg25_q, aw5, spNodes_q, spExpr25_n, ckR, NdR_q, chL_q, l2, hz, aw1]
end Pr
end Go.Proofs.YtapgddiocdcaeaaGreatDoor
/-
Chapter 25: the walks of CostPrims, CostStmts, CostCharges.
-/
set_option linter.unusedSimpArgs false
set_option linter.unusedVariables false
namespace Go.Proofs.YtapgddiocdcaeaaGreatDoor
namespace Pr
open Go Go.RowKit En
def spAwake25 : Spc
  | [], H, _ => .is (globR (H 0) (H 1) (H 2) (H 3) ∧ globU (H 4) (H 5)) (.v (.bool true))
  | _, _, _ => .bad
theorem spAwake25_q {H : Nat → Ch} {nx : Nat} : spAwake25 [] H nx = .is (globR (H 0) (H 1) (H 2) (H 3) ∧ globU (H 4) (H 5)) (.v (.bool true)) := rfl
theorem spAwake25_ok : SpecOk Tryz.prog 12 spAwake25 := by
  intro args hp nx w0 O w H hv
  unfold spAwake25 at hv ⊢
  split at hv
  · obtain ⟨hG, hU⟩ := hv
    obtain ⟨bn, on, cn, ba, oa, ca, hr, h4, h3, hk⟩ := globR_ok H hG
    obtain ⟨u1, u2⟩ := globU_ok H hU
    refine (awake25_any bn on cn ba oa ca h4 h3 w ⟨⟨u1, rfl⟩, ⟨u2, rfl⟩, hr⟩).mono ?_
    rintro e w' ⟨rfl, hb⟩
    exact ⟨⟨0, none, 0, none, 0, mz⟩, rfl, .still hb⟩
  · exact hv.elim
section
variable (xs : List Int) (f : Int) (A : Option Addr) (c bn on cn ba oa ca : Nat)
end
end Pr
end Go.Proofs.YtapgddiocdcaeaaGreatDoor
