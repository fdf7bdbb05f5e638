/-
Names: the program's and the reference's (chapter 15).
-/
import Derived.Test.YtpkldfkmokeamaaGreatDoorNa1
import Derived.Test.YtpkldfkmokeamaaGreatDoorPa4
set_option linter.unusedSimpArgs false
set_option linter.unusedVariables false
namespace Go.Proofs.YtpkldfkmokeamaaGreatDoor
namespace Pr
open Go Go.RowKit En
theorem ifB_str {R : List It → SS → Prop} {c c3 : Code} {k : List It} {s : SS} {a b : ByteArray} : ifB R c c3 k s (a.toList == b.toList) = (((a.toList == b.toList) = true → R (.code c :: k) s) ∧ ((a.toList == b.toList) = false → R (.code c3 :: k) s)) := (rfl)
theorem flip_eq (a b : ByteArray) : (a.toList == b.toList) = (b.toList == a.toList) := BEq.comm
def resF (s : ByteArray) : List ByteArray → Bool
  | [] => false
  | x :: l => bif x.toList == s.toList then true else resF s l
def resL : List ByteArray := [⟨#[118, 97, 114]⟩, ⟨#[100, 101, 102]⟩, ⟨#[111, 117, 116]⟩, ⟨#[105, 102]⟩, ⟨#[101, 108, 115, 101]⟩, ⟨#[119, 104, 105, 108, 101]⟩, ⟨#[101, 110, 100]⟩, ⟨#[114, 101, 108, 101, 97, 115, 101]⟩, ⟨#[105, 110, 116]⟩, ⟨#[99, 104, 97, 114]⟩]
def resV (s : ByteArray) : Bool := resF s resL
def tlNm : List (TypeId × TI) := [tyInt, tyI64, tyBool, tyStr, tyStrs, tyErr, tyTok]
theorem tlNm_ok : TyAll Tryz.prog (lookT tlNm) := tyAll_p tyInt_ok <| tyAll_p tyI64_ok <| tyAll_p tyBool_ok <| tyAll_p tyStr_ok <| tyAll_p tyStrs_ok <| tyAll_p tyErr_ok <| tyAll_p tyTok_ok tyAll_nil
def nameV (s : ByteArray) : Bool := bif resV s then false else bif (findS s).2 == 0 then false else lexW s == 0
def glPN : List (FuncId × Spc) := [(44, spFindS), (45, spLexW)]
theorem glPN_ok : GOk Tryz.prog (lookG glPN) := lG_cons (by kernel_rfl) spFindS_ok <| lG_cons (by kernel_rfl) spLexW_ok lG_nil
set_option maxRecDepth 100000 in
set_option maxHeartbeats 4000000 in
theorem name15_any (s : ByteArray) (hz : s.size ≤ 4611686018427387904) (bn on cn ba oa ca : Nat) (h4 : 4 ≤ cn) (h3 : 3 ≤ ca) (w : World) (hg : allRd w.heap.size w (gHp bn on cn ba oa ca)) :
    Calls Tryz.prog 15 #[.string s] w fun e w' => e = .returned (.bool (nameV s)) ∧ Below w.heap.size w w' := by
  obtain ⟨q, hq⟩ : ∃ q, q = nameV s := ⟨_, rfl⟩
  rw [← hq]
  refine calls_go (args := [.v (.string s)]) (hp := gHp bn on cn ba oa ca) (nx := 1000) (n := 400) (U := []) (V := []) (tl := tlNm) (gl := glPN) (post := fun s ys => ys = [.v (.bool q)])
    followP tlNm_ok glPN_ok Tryz.func15 rfl (by kernel_rfl) (Nat.le_of_ble_eq_true (by kernel_rfl)) (by kernel_rfl) (by kernel_rfl) (hh_list hg) (free_list (by simp [allLt, gHp])) ?_ ?_
  · rintro s ys w' rfl H
    exact ⟨rfl, H.below⟩
  intro L F T G nd va hE
  obtain ⟨hL, hF, hs, hv, hT, hG, hR, hI, hJ, hW⟩ := hE
  rw [Tryz.results15] at hF
  simp (maxSteps := 1000000) only [En.nN, En.E, En.evsC, List.map_cons, List.map_nil, Nat.reduceBEq, Nat.reduceAdd, Nat.reduceMul, Nat.reduceEqDiff, Nat.reduceLeDiff, Nat.reduceLT, ne_eq, reduceCtorEq, Int.reduceBEq, Int.reduceBNe, Int.reduceAdd, Int.reduceSub, Int.reduceMul, Int.reduceTDiv, Int.reduceTMod, Int.reduceNeg, En.bitN, Nat.testBit, Nat.reduceShiftRight, Nat.reduceShiftLeft, Nat.reduceAnd, Nat.reduceOr, Nat.reduceBNe, Int.reduceToNat, Nat.reduceSub, Int.reduceLE, Int.reduceLT] at hv
  simp only [En.at_nil, En.at_cons, En.ag_nil, En.ag_cons, and_true, tlNm, glPN, tyInt, tyI64, tyBool, tyStr, tyStrs, tyErr, tyTok] at hT hG
  unfold nameV resV resL at hq
  simp (maxSteps := 10000000) only [En.E, En.evsC, List.map_cons, List.map_nil, Nat.reduceBEq, Nat.reduceAdd, Nat.reduceMul, Nat.reduceEqDiff, Nat.reduceLeDiff, Nat.reduceLT, ne_eq, reduceCtorEq, Int.reduceBEq, Int.reduceBNe, Int.reduceAdd, Int.reduceSub, Int.reduceMul, Int.reduceTDiv, Int.reduceTMod, Int.reduceNeg, En.bitN, Nat.testBit, Nat.reduceShiftRight, Nat.reduceShiftLeft, Nat.reduceAnd, Nat.reduceOr, Nat.reduceBNe, Int.reduceToNat, Nat.reduceSub, Int.reduceLE, Int.reduceLT, En.vV, hs, hv, hT, hG, hF, spFindS_q, spLexW_q, globR_q, gHp, h4, h3, hz, ifB_str]
  simp only [resF] at hq
  simp only [flip_eq s]
  clear hL hF hs hR hI hJ hW hv hT hG
  generalize ((⟨#[118, 97, 114]⟩ : ByteArray).toList == s.toList) = c0 at hq ⊢
  generalize ((⟨#[100, 101, 102]⟩ : ByteArray).toList == s.toList) = c1 at hq ⊢
  generalize ((⟨#[111, 117, 116]⟩ : ByteArray).toList == s.toList) = c2 at hq ⊢
  generalize ((⟨#[105, 102]⟩ : ByteArray).toList == s.toList) = c3 at hq ⊢
  generalize ((⟨#[101, 108, 115, 101]⟩ : ByteArray).toList == s.toList) = c4 at hq ⊢
  generalize ((⟨#[119, 104, 105, 108, 101]⟩ : ByteArray).toList == s.toList) = c5 at hq ⊢
  generalize ((⟨#[101, 110, 100]⟩ : ByteArray).toList == s.toList) = c6 at hq ⊢
  generalize ((⟨#[114, 101, 108, 101, 97, 115, 101]⟩ : ByteArray).toList == s.toList) = c7 at hq ⊢
  generalize ((⟨#[105, 110, 116]⟩ : ByteArray).toList == s.toList) = c8 at hq ⊢
  generalize ((⟨#[99, 104, 97, 114]⟩ : ByteArray).toList == s.toList) = c9 at hq ⊢
  generalize ((findS s).2 == 0) = d at hq ⊢
  generalize (lexW s == 0) = e at hq ⊢
  simp +contextual [hq]
def spName15 : Spc
  | [.v (.string s)], H, _ => .is (globR (H 0) (H 1) (H 2) (H 3) ∧ s.size ≤ 4611686018427387904) (.v (.bool (nameV s)))
  | _, _, _ => .bad
theorem spName15_q {s : ByteArray} {H : Nat → Ch} {nx : Nat} : spName15 [.v (.string s)] H nx = .is (globR (H 0) (H 1) (H 2) (H 3) ∧ s.size ≤ 4611686018427387904) (.v (.bool (nameV s))) := (rfl)
theorem spName15_ok : SpecOk Tryz.prog 15 spName15 := by
  intro args hp nx w0 O w H hv
  unfold spName15 at hv ⊢
  split at hv
  · next s =>
    obtain ⟨hG, hz⟩ := hv
    obtain ⟨bn, on, cn, ba, oa, ca, hr, h4, h3, _⟩ := globR_ok H hG
    refine (name15_any s hz bn on cn ba oa ca h4 h3 w hr).mono ?_
    rintro e w' ⟨rfl, hb⟩
    exact ⟨⟨0, none, 0, none, 0, mz⟩, rfl, .still hb⟩
  · exact hv.elim
end Pr
end Go.Proofs.YtpkldfkmokeamaaGreatDoor
