/-
Classes of bytes: the program's and the reference's letters and digits (chapters 2, 14), for names.
-/
import Derived.Test.YtpkldfkmokeamaaGreatDoorTyA
import Derived.Test.YtpkldfkmokeamaaGreatDoorShelf
set_option linter.unusedSimpArgs false
set_option linter.unusedVariables false
namespace Go.Proofs.YtpkldfkmokeamaaGreatDoor
namespace Pr
open Go Go.RowKit En
def ltr (x : Int) : Bool := bif decide (97 ≤ x) then decide (x ≤ 122) else false
def dig (x : Int) : Bool := bif decide (48 ≤ x) then decide (x ≤ 57) else false
def hasR (s : ByteArray) (r : Int) : Bool := bif decide (r < 128) then decide (0 ≤ Lib.indexByte s.data.toList r.toNat.toUInt8) else false
def asc (s : ByteArray) : Prop := ∀ b ∈ s.data.toList, b.toNat < 128
def spValidRune : Spc
  | [.v (.int .i32 r)], _, _ => .is True (.v (.bool (Lib.validRune r)))
  | _, _, _ => .bad
theorem spValidRune_q {r : Int} {H : Nat → Ch} {nx : Nat} : spValidRune [.v (.int .i32 r)] H nx = .is True (.v (.bool (Lib.validRune r))) := (rfl)
theorem spValidRune_ok : SpecOk Tryz.prog 173 spValidRune := specOk_is fun args H nx => by
  unfold spValidRune; split
  · exact fun _ w => (Any.utf8_ValidRune laysRune _ w).mono fun e w' h => ⟨h.1, by rw [h.2]; exact Below.refl _ _⟩
  · trivial
def spIndexByte : Spc
  | [.v (.string s), .v (.int .u8 c)], _, _ => .is (0 ≤ c ∧ c ≤ 255) (.v (.int .i64 (Lib.indexByte s.data.toList c.toNat.toUInt8)))
  | _, _, _ => .bad
theorem spIndexByte_q {s : ByteArray} {c : Int} {H : Nat → Ch} {nx : Nat} : spIndexByte [.v (.string s), .v (.int .u8 c)] H nx = .is (0 ≤ c ∧ c ≤ 255) (.v (.int .i64 (Lib.indexByte s.data.toList c.toNat.toUInt8))) := (rfl)
theorem spIndexByte_ok : SpecOk Tryz.prog 188 spIndexByte := specOk_is fun args H nx => by
  unfold spIndexByte; split
  · next s c =>
    exact fun _ w => (Any.strings_IndexByte laysIndexB s c w).mono fun e w' h => ⟨h.1, by rw [h.2]; exact Below.refl _ _⟩
  · trivial
theorem enc2 {r : Int} (h1 : 128 ≤ r) (h2 : r ≤ 255) : (Utf8.encode r).size = 2 ∧ 128 ≤ chr (Utf8.encode r) 1 ∧ chr (Utf8.encode r) 1 ≤ 255 := by
  have hv : Utf8.valid r = true := by rw [validRune_eq]; unfold validRune; simp; omega
  have hc : ¬ r.toNat < 128 := by omega
  have hd : r.toNat < 2048 := by omega
  have : (Utf8.encode r) = ⟨#[UInt8.ofNat (192 + r.toNat / 64), UInt8.ofNat (128 + r.toNat % 64)]⟩ := by
    unfold Utf8.encode
    simp only [hv, if_true, hc, if_false, hd]
  rw [this]
  refine ⟨rfl, ?_, ?_⟩ <;> (simp [chr]; omega)
theorem asc_chr {s : ByteArray} {i : Int} (h : asc s) (h0 : 0 ≤ i) (h1 : i < s.size) : chr s i < 128 := by
  unfold chr
  have h2 : i.toNat < s.data.toList.length := by rw [Array.length_toList]; show i.toNat < s.size; omega
  rw [List.getD_eq_getElem?_getD, List.getElem?_eq_getElem h2]
  have := h _ (List.getElem_mem h2)
  simp only [Option.getD_some]
  omega
theorem idx_nil (c : UInt8) : Lib.indexByte [] c = -1 := by simp [Lib.indexByte]
def tlIR : List (TypeId × TI) := [tyInt, tyU8, tyI32, tyBool, tyStr]
theorem tlIR_ok : TyAll Tryz.prog (lookT tlIR) := tyAll_p tyInt_ok <| tyAll_p tyU8_ok <| tyAll_p tyI32_ok <| tyAll_p tyBool_ok <| tyAll_p tyStr_ok tyAll_nil
def gamIR : Gam := gcons 188 spIndexByte (gcons 173 spValidRune gnil)
theorem gamIR_ok : GOk Tryz.prog gamIR := gOk_cons (by kernel_rfl) spIndexByte_ok <| gOk_cons (by kernel_rfl) spValidRune_ok gOk_nil
set_option maxHeartbeats 1000000 in
theorem indexRune_far (s : ByteArray) (r : Int) (h1 : 128 ≤ r) (h2 : r ≤ 255) (hs : s.size ≤ 2) (ha : asc s) (w : World) :
    Calls Tryz.prog 174 #[.string s, .int .i32 r] w fun e w' => e = .returned (.int .i64 (-1)) ∧ Below w.heap.size w w' := by
  refine calls_run (args := [.v (.string s), .v (.int .i32 r)]) (hp := []) (nx := 1000) (n := 400) (U := [(5, 2)]) (V := []) (T := lookT tlIR) (G := gamIR) (post := fun s ys => ys = [.v (.int .i64 (-1))])
    followP tlIR_ok gamIR_ok Tryz.func174 rfl (by kernel_rfl) (Nat.le_of_ble_eq_true (by kernel_rfl)) (hh_list trivial) (fun _ _ => rfl) ?_ ?_
  · rintro s ys w' rfl H
    exact ⟨rfl, H.below⟩
  obtain ⟨e1, e2, e3⟩ := enc2 h1 h2
  have d1 : decide ((0 : Int) ≤ r) = true := by simp; omega
  have d2 : decide (r < 128) = false := by simp; omega
  have d3 : (r == 65533) = false := by simp; omega
  have hv : Lib.validRune r = true := by unfold Lib.validRune; simp; omega
  rw [Tryz.results174]
  by_cases hz : s.size = 2
  · have d4 : decide ((1 : Int) < (s.size : Int)) = true := by simp; omega
    have c1 := asc_chr (i := 1) ha (by decide) (by omega)
    have d5 : (chr s 1 != chr (Utf8.encode r) 1) = true := by simp; omega
    have hI : ∀ c, Lib.indexByte (s.extract 2 2).data.toList c = -1 := fun c => by
      have hx : (s.extract 2 2).data.toList = [] := by simp
      rw [hx]; exact idx_nil c
    have hz' : (s.size : Int) = 2 := by omega
    have d6 : decide ((-1 : Int) < 0) = true := by decide
    simp (maxSteps := 1000000) only [En.E, En.evsC, List.map_cons, List.map_nil, Nat.reduceBEq, Nat.reduceAdd, Nat.reduceMul, Nat.reduceEqDiff, Nat.reduceLeDiff, Nat.reduceLT, ne_eq, reduceCtorEq, Int.reduceBEq, Int.reduceBNe, Int.reduceAdd, Int.reduceSub, Int.reduceMul, Int.reduceTDiv, Int.reduceTMod, Int.reduceNeg, En.bitN, Nat.testBit, Nat.reduceShiftRight, Nat.reduceShiftLeft, Nat.reduceAnd, Nat.reduceOr, Nat.reduceBNe, Int.reduceToNat, Nat.reduceSub, Int.reduceLE, Int.reduceLT, tlIR, tyInt, tyU8, tyI32, tyBool, tyStr, gamIR, spIndexByte_q, spValidRune_q, d1, d2, d3, hv, e1, d4, d5, d6, hz', hI, Int.reduceSub, Int.reduceAdd, Int.cast_ofNat_Int]
    simp only [En.inr, En.lo, En.hi]; omega
  · have d4 : decide ((1 : Int) < (s.size : Int)) = false := by simp; omega
    simp (maxSteps := 1000000) only [En.E, En.evsC, List.map_cons, List.map_nil, Nat.reduceBEq, Nat.reduceAdd, Nat.reduceMul, Nat.reduceEqDiff, Nat.reduceLeDiff, Nat.reduceLT, ne_eq, reduceCtorEq, Int.reduceBEq, Int.reduceBNe, Int.reduceAdd, Int.reduceSub, Int.reduceMul, Int.reduceTDiv, Int.reduceTMod, Int.reduceNeg, En.bitN, Nat.testBit, Nat.reduceShiftRight, Nat.reduceShiftLeft, Nat.reduceAnd, Nat.reduceOr, Nat.reduceBNe, Int.reduceToNat, Nat.reduceSub, Int.reduceLE, Int.reduceLT, tlIR, tyInt, tyU8, tyI32, tyBool, tyStr, gamIR, spIndexByte_q, spValidRune_q, d1, d2, d3, hv, e1, d4, Int.reduceSub, Int.reduceAdd, Int.cast_ofNat_Int]
    simp only [En.inr, En.lo, En.hi]; omega
def spIndexRune : Spc
  | [.v (.string s), .v (.int .i32 r)], _, _ => .is (128 ≤ r ∧ r ≤ 255 ∧ s.size ≤ 2 ∧ asc s) (.v (.int .i64 (-1)))
  | _, _, _ => .bad
theorem spIndexRune_q {s : ByteArray} {r : Int} {H : Nat → Ch} {nx : Nat} : spIndexRune [.v (.string s), .v (.int .i32 r)] H nx = .is (128 ≤ r ∧ r ≤ 255 ∧ s.size ≤ 2 ∧ asc s) (.v (.int .i64 (-1))) := (rfl)
theorem spIndexRune_ok : SpecOk Tryz.prog 174 spIndexRune := specOk_is fun args H nx => by
  unfold spIndexRune; split
  · exact fun h w => indexRune_far _ _ h.1 h.2.1 h.2.2.1 h.2.2.2 w
  · trivial
def gamCR : Gam := gcons 174 spIndexRune gnil
theorem gamCR_ok : GOk Tryz.prog gamCR := gOk_cons (by kernel_rfl) spIndexRune_ok gOk_nil
theorem containsRune_any (s : ByteArray) (r : Int) (h1 : 0 ≤ r) (h2 : r ≤ 255) (hs : s.size ≤ 2) (ha : asc s) (w : World) :
    Calls Tryz.prog 148 #[.string s, .int .i32 r] w fun e w' => e = .returned (.bool (hasR s r)) ∧ Below w.heap.size w w' := by
  by_cases h : r < 128
  · refine (Any.strings_ContainsRune_ascii laysContains s r w h1 h).mono fun e w' h' => ⟨?_, by rw [h'.2]; exact Below.refl _ _⟩
    rw [h'.1, hasR, decide_eq_true h]; rfl
  · have hr : hasR s r = false := by rw [hasR, decide_eq_false h]; rfl
    rw [hr]
    have d6 : decide ((0 : Int) ≤ -1) = false := by decide
    refine calls_run (args := [.v (.string s), .v (.int .i32 r)]) (hp := []) (nx := 1000) (n := 400) (U := []) (V := []) (T := lookT tlIR) (G := gamCR) (post := fun s ys => ys = [.v (.bool false)])
      followP tlIR_ok gamCR_ok Tryz.func148 rfl (by kernel_rfl) (Nat.le_of_ble_eq_true (by kernel_rfl)) (hh_list trivial) (fun _ _ => rfl) ?_ ?_
    · rintro s ys w' rfl H
      exact ⟨rfl, H.below⟩
    rw [Tryz.results148]
    simp (maxSteps := 1000000) only [En.E, En.evsC, List.map_cons, List.map_nil, Nat.reduceBEq, Nat.reduceAdd, Nat.reduceMul, Nat.reduceEqDiff, Nat.reduceLeDiff, Nat.reduceLT, ne_eq, reduceCtorEq, Int.reduceBEq, Int.reduceBNe, Int.reduceAdd, Int.reduceSub, Int.reduceMul, Int.reduceTDiv, Int.reduceTMod, Int.reduceNeg, En.bitN, Nat.testBit, Nat.reduceShiftRight, Nat.reduceShiftLeft, Nat.reduceAnd, Nat.reduceOr, Nat.reduceBNe, Int.reduceToNat, Nat.reduceSub, Int.reduceLE, Int.reduceLT, tlIR, tyInt, tyU8, tyI32, tyBool, tyStr, gamCR, spIndexRune_q, d6]
    exact ⟨by omega, h2, hs, ha⟩
def spContainsRune : Spc
  | [.v (.string s), .v (.int .i32 r)], _, _ => .is (0 ≤ r ∧ r ≤ 255 ∧ s.size ≤ 2 ∧ asc s) (.v (.bool (hasR s r)))
  | _, _, _ => .bad
theorem spContainsRune_q {s : ByteArray} {r : Int} {H : Nat → Ch} {nx : Nat} : spContainsRune [.v (.string s), .v (.int .i32 r)] H nx = .is (0 ≤ r ∧ r ≤ 255 ∧ s.size ≤ 2 ∧ asc s) (.v (.bool (hasR s r))) := (rfl)
theorem spContainsRune_ok : SpecOk Tryz.prog 148 spContainsRune := specOk_is fun args H nx => by
  unfold spContainsRune; split
  · exact fun h w => containsRune_any _ _ h.1 h.2.1 h.2.2.1 h.2.2.2 w
  · trivial
def tlRu : List (TypeId × TI) := [tyInt, tyI64, tyI32, tyBool, tyStr, tyErr, tyCls]
theorem tlRu_ok : TyAll Tryz.prog (lookT tlRu) := tyAll_p tyInt_ok <| tyAll_p tyI64_ok <| tyAll_p tyI32_ok <| tyAll_p tyBool_ok <| tyAll_p tyStr_ok <| tyAll_p tyErr_ok <| tyAll_p tyCls_ok tyAll_nil
def glVR : List (FuncId × Spc) := [(173, spValidRune)]
theorem glVR_ok : GOk Tryz.prog (lookG glVR) := lG_cons (by kernel_rfl) spValidRune_ok lG_nil
def gl0 : List (FuncId × Spc) := []
theorem gl0_ok : GOk Tryz.prog (lookG gl0) := lG_nil
theorem is_any (r : Int) (h1 : 0 ≤ r) (h2 : r ≤ 255) (w : World) :
    Calls Tryz.prog 146 #[.int .i64 r] w fun e w' => e = .returned (.bool true) ∧ Below w.heap.size w w' := by
  have hV : Lib.validRune r = true := by unfold Lib.validRune; simp; omega
  refine calls_go (args := [.v (.int .i64 r)]) (hp := []) (nx := 1000) (n := 400) (U := []) (V := []) (tl := tlRu) (gl := glVR) (post := fun s ys => ys = [.v (.bool true)])
    followP tlRu_ok glVR_ok Tryz.func146 rfl (by kernel_rfl) (Nat.le_of_ble_eq_true (by kernel_rfl)) (by kernel_rfl) (by kernel_rfl) (hh_list trivial) (fun _ _ => rfl) ?_ ?_
  · rintro s ys w' rfl H
    exact ⟨rfl, H.below⟩
  intro L F T G nd va hE
  obtain ⟨hL, hF, hs, hv, hT, hG, hR, hI, hJ, hW⟩ := hE
  rw [Tryz.results146] at hF
  simp (maxSteps := 1000000) only [En.nN, En.E, En.evsC, List.map_cons, List.map_nil, Nat.reduceBEq, Nat.reduceAdd, Nat.reduceMul, Nat.reduceEqDiff, Nat.reduceLeDiff, Nat.reduceLT, ne_eq, reduceCtorEq, Int.reduceBEq, Int.reduceBNe, Int.reduceAdd, Int.reduceSub, Int.reduceMul, Int.reduceTDiv, Int.reduceTMod, Int.reduceNeg, En.bitN, Nat.testBit, Nat.reduceShiftRight, Nat.reduceShiftLeft, Nat.reduceAnd, Nat.reduceOr, Nat.reduceBNe, Int.reduceToNat, Nat.reduceSub, Int.reduceLE, Int.reduceLT] at hv
  simp only [En.at_nil, En.at_cons, En.ag_nil, En.ag_cons, and_true, tlRu, glVR, tyInt, tyI64, tyI32, tyBool, tyStr, tyErr, tyCls] at hT hG
  simp (maxSteps := 10000000) only [En.E, En.evsC, List.map_cons, List.map_nil, Nat.reduceBEq, Nat.reduceAdd, Nat.reduceMul, Nat.reduceEqDiff, Nat.reduceLeDiff, Nat.reduceLT, ne_eq, reduceCtorEq, Int.reduceBEq, Int.reduceBNe, Int.reduceAdd, Int.reduceSub, Int.reduceMul, Int.reduceTDiv, Int.reduceTMod, Int.reduceNeg, En.bitN, Nat.testBit, Nat.reduceShiftRight, Nat.reduceShiftLeft, Nat.reduceAnd, Nat.reduceOr, Nat.reduceBNe, Int.reduceToNat, Nat.reduceSub, Int.reduceLE, Int.reduceLT, En.vV, hs, hv, hT, hG, hF, spValidRune_q, hV]
  simp only [En.inr, En.lo, En.hi]; omega
def spIsRune : Spc
  | [.v (.int .i64 r)], _, _ => .is (0 ≤ r ∧ r ≤ 255) (.v (.bool true))
  | _, _, _ => .bad
theorem spIsRune_q {r : Int} {H : Nat → Ch} {nx : Nat} : spIsRune [.v (.int .i64 r)] H nx = .is (0 ≤ r ∧ r ≤ 255) (.v (.bool true)) := (rfl)
theorem spIsRune_ok : SpecOk Tryz.prog 146 spIsRune := specOk_is fun args H nx => by
  unfold spIsRune; split
  · exact fun h w => is_any _ h.1 h.2 w
  · trivial
def clsL : List ByteArray := [⟨#[]⟩, ⟨#[32]⟩, ⟨#[10]⟩, ⟨#[40, 91]⟩, ⟨#[41, 93]⟩, ⟨#[34]⟩, ⟨#[]⟩, ⟨#[45]⟩, ⟨#[]⟩, ⟨#[60, 61]⟩]
def clsS : List SV := [.v (.string ⟨#[]⟩), .v (.string ⟨#[32]⟩), .v (.string ⟨#[10]⟩), .v (.string ⟨#[40, 91]⟩), .v (.string ⟨#[41, 93]⟩), .v (.string ⟨#[34]⟩), .v (.string ⟨#[]⟩), .v (.string ⟨#[45]⟩), .v (.string ⟨#[]⟩), .v (.string ⟨#[60, 61]⟩)]
theorem classes_any (w : World) : Calls Tryz.prog 147 #[] w fun e w' => e = .returned (den (.agg clsS)) ∧ Below w.heap.size w w' := by
  refine calls_go (args := []) (hp := []) (nx := 1000) (n := 400) (U := []) (V := []) (tl := tlRu) (gl := gl0) (post := fun s ys => ys = [.agg clsS])
    followP tlRu_ok gl0_ok Tryz.func147 rfl (by kernel_rfl) (Nat.le_of_ble_eq_true (by kernel_rfl)) (by kernel_rfl) (by kernel_rfl) (hh_list trivial) (fun _ _ => rfl) ?_ ?_
  · rintro s ys w' rfl H
    exact ⟨rfl, H.below⟩
  intro L F T G nd va hE
  obtain ⟨hL, hF, hs, hv, hT, hG, hR, hI, hJ, hW⟩ := hE
  rw [Tryz.results147] at hF
  simp (maxSteps := 1000000) only [En.nN, En.E, En.evsC, List.map_cons, List.map_nil, Nat.reduceBEq, Nat.reduceAdd, Nat.reduceMul, Nat.reduceEqDiff, Nat.reduceLeDiff, Nat.reduceLT, ne_eq, reduceCtorEq, Int.reduceBEq, Int.reduceBNe, Int.reduceAdd, Int.reduceSub, Int.reduceMul, Int.reduceTDiv, Int.reduceTMod, Int.reduceNeg, En.bitN, Nat.testBit, Nat.reduceShiftRight, Nat.reduceShiftLeft, Nat.reduceAnd, Nat.reduceOr, Nat.reduceBNe, Int.reduceToNat, Nat.reduceSub, Int.reduceLE, Int.reduceLT] at hv
  simp only [En.at_nil, En.at_cons, En.ag_nil, En.ag_cons, and_true, tlRu, gl0, tyInt, tyI64, tyI32, tyBool, tyStr, tyErr, tyCls] at hT hG
  simp (maxSteps := 10000000) only [En.E, En.evsC, List.map_cons, List.map_nil, Nat.reduceBEq, Nat.reduceAdd, Nat.reduceMul, Nat.reduceEqDiff, Nat.reduceLeDiff, Nat.reduceLT, ne_eq, reduceCtorEq, Int.reduceBEq, Int.reduceBNe, Int.reduceAdd, Int.reduceSub, Int.reduceMul, Int.reduceTDiv, Int.reduceTMod, Int.reduceNeg, En.bitN, Nat.testBit, Nat.reduceShiftRight, Nat.reduceShiftLeft, Nat.reduceAnd, Nat.reduceOr, Nat.reduceBNe, Int.reduceToNat, Nat.reduceSub, Int.reduceLE, Int.reduceLT, En.vV, hs, hv, hT, hG, hF, plS]
  rfl
def spClasses : Spc
  | [], _, _ => .is (True) (.agg clsS)
  | _, _, _ => .bad
theorem spClasses_q  {H : Nat → Ch} {nx : Nat} : spClasses [] H nx = .is (True) (.agg clsS) := (rfl)
theorem spClasses_ok : SpecOk Tryz.prog 147 spClasses := specOk_is fun args H nx => by
  unfold spClasses; split
  · exact fun _ w => classes_any w
  · trivial
def clsF (r : Int) : Int → List ByteArray → Int
  | _, [] => 10
  | i, s :: l => bif hasR s r then i else clsF r (i + 1) l
def clsV (r : Int) : Int := bif dig r then 6 else bif ltr r then 8 else clsF r 0 clsL
theorem ifB_has {R : List It → SS → Prop} {c c3 : Code} {k : List It} {s : SS} {a : ByteArray} {r : Int} : ifB R c c3 k s (hasR a r) = ((hasR a r = true → R (.code c :: k) s) ∧ (hasR a r = false → R (.code c3 :: k) s)) := (rfl)
def glCl : List (FuncId × Spc) := [(146, spIsRune), (147, spClasses), (148, spContainsRune)]
theorem glCl_ok : GOk Tryz.prog (lookG glCl) := lG_cons (by kernel_rfl) spIsRune_ok <| lG_cons (by kernel_rfl) spClasses_ok <| lG_cons (by kernel_rfl) spContainsRune_ok lG_nil
theorem asc_cls : ∀ s ∈ clsL, s.size ≤ 2 ∧ asc s := by
  unfold asc clsL
  decide
set_option maxRecDepth 100000 in
set_option maxHeartbeats 4000000 in
theorem class_any (r : Int) (h1 : 0 ≤ r) (h2 : r ≤ 255) (w : World) :
    Calls Tryz.prog 109 #[.int .i64 r] w fun e w' => e = .returned (.tuple #[.int .i64 (clsV r), .int .i64 0]) ∧ Below w.heap.size w w' := by
  obtain ⟨q, hq⟩ : ∃ q, q = clsV r := ⟨_, rfl⟩
  rw [← hq]
  refine calls_go (args := [.v (.int .i64 r)]) (hp := []) (nx := 1000) (n := 800) (U := [(8, 11)]) (V := []) (tl := tlRu) (gl := glCl) (post := fun s ys => ys = [.v (.int .i64 q), .v (.int .i64 0)])
    followP tlRu_ok glCl_ok Tryz.func109 rfl (by kernel_rfl) (Nat.le_of_ble_eq_true (by kernel_rfl)) (by kernel_rfl) (by kernel_rfl) (hh_list trivial) (fun _ _ => rfl) ?_ ?_
  · rintro s ys w' rfl H
    exact ⟨rfl, H.below⟩
  intro L F T G nd va hE
  obtain ⟨hL, hF, hs, hv, hT, hG, hR, hI, hJ, hW⟩ := hE
  rw [Tryz.results109] at hF
  simp (maxSteps := 1000000) only [En.nN, En.E, En.evsC, List.map_cons, List.map_nil, Nat.reduceBEq, Nat.reduceAdd, Nat.reduceMul, Nat.reduceEqDiff, Nat.reduceLeDiff, Nat.reduceLT, ne_eq, reduceCtorEq, Int.reduceBEq, Int.reduceBNe, Int.reduceAdd, Int.reduceSub, Int.reduceMul, Int.reduceTDiv, Int.reduceTMod, Int.reduceNeg, En.bitN, Nat.testBit, Nat.reduceShiftRight, Nat.reduceShiftLeft, Nat.reduceAnd, Nat.reduceOr, Nat.reduceBNe, Int.reduceToNat, Nat.reduceSub, Int.reduceLE, Int.reduceLT] at hv
  simp only [En.at_nil, En.at_cons, En.ag_nil, En.ag_cons, and_true, tlRu, glCl, tyInt, tyI64, tyI32, tyBool, tyStr, tyErr, tyCls] at hT hG
  simp (maxSteps := 10000000) only [En.E, En.evsC, List.map_cons, List.map_nil, Nat.reduceBEq, Nat.reduceAdd, Nat.reduceMul, Nat.reduceEqDiff, Nat.reduceLeDiff, Nat.reduceLT, ne_eq, reduceCtorEq, Int.reduceBEq, Int.reduceBNe, Int.reduceAdd, Int.reduceSub, Int.reduceMul, Int.reduceTDiv, Int.reduceTMod, Int.reduceNeg, En.bitN, Nat.testBit, Nat.reduceShiftRight, Nat.reduceShiftLeft, Nat.reduceAnd, Nat.reduceOr, Nat.reduceBNe, Int.reduceToNat, Nat.reduceSub, Int.reduceLE, Int.reduceLT, En.vV, hs, hv, hT, hG, hF, spIsRune_q, spClasses_q, spContainsRune_q, clsS, h1, h2, ifB_has]
  have i32 : inr .i32 r := by simp only [En.inr, En.lo, En.hi]; omega
  have j : ∀ n : Int, 0 ≤ n → n ≤ 10 → inr .i64 n := fun n _ _ => by simp only [En.inr, En.lo, En.hi]; omega
  have ha := asc_cls
  simp only [clsL, List.mem_cons, List.not_mem_nil, or_false, forall_eq_or_imp, forall_eq] at ha
  obtain ⟨a0, a1, a2, a3, a4, a5, a6, a7, a8, a9⟩ := ha
  have e : clsV r = bif (bif decide (48 ≤ r) then decide (r ≤ 57) else false) then 6 else bif (bif decide (97 ≤ r) then decide (r ≤ 122) else false) then 8 else clsF r 0 clsL := rfl
  rw [e] at hq
  generalize (bif decide (48 ≤ r) then decide (r ≤ 57) else false) = D at hq ⊢
  generalize (bif decide (97 ≤ r) then decide (r ≤ 122) else false) = E at hq ⊢
  simp only [clsL, clsF] at hq
  simp only [i32, a0, a1, a2, a3, a4, a5, a7, a9, and_self, true_and, j 1 (by decide) (by decide), j 2 (by decide) (by decide), j 3 (by decide) (by decide), j 4 (by decide) (by decide), j 5 (by decide) (by decide), j 6 (by decide) (by decide), j 7 (by decide) (by decide), j 8 (by decide) (by decide), j 9 (by decide) (by decide), j 10 (by decide) (by decide)]
  simp +contextual [hq]
def spClass : Spc
  | [.v (.int .i64 r)], _, _ => .is (0 ≤ r ∧ r ≤ 255) (.tup [.v (.int .i64 (clsV r)), .v (.int .i64 0)])
  | _, _, _ => .bad
theorem spClass_q {r : Int} {H : Nat → Ch} {nx : Nat} : spClass [.v (.int .i64 r)] H nx = .is (0 ≤ r ∧ r ≤ 255) (.tup [.v (.int .i64 (clsV r)), .v (.int .i64 0)]) := (rfl)
theorem spClass_ok : SpecOk Tryz.prog 109 spClass := specOk_is fun args H nx => by
  unfold spClass; split
  · exact fun h w => class_any _ h.1 h.2 w
  · trivial
end Pr
end Go.Proofs.YtpkldfkmokeamaaGreatDoor
/-
Words: lexer.Check at a word, the reference's, and what they read (chapter 14).
-/
set_option linter.unusedSimpArgs false
set_option linter.unusedVariables false
namespace Go.Proofs.YtpkldfkmokeamaaGreatDoor
namespace Pr
open Go Go.RowKit En
def clAt (s : ByteArray) (i : Int) : Int := bif decide ((s.size : Int) ≤ i) then 10 else clsV (chr s i)
theorem chr_byte (s : ByteArray) (i : Int) : 0 ≤ chr s i ∧ chr s i ≤ 255 := by
  unfold chr
  have := (s.data.toList.getD i.toNat 0).toNat_lt
  omega
def rdClass (b : Nat) (i : Int) : Ch → Res
  | .blk b' [.v (.string s), .v (.int .i64 _)] _ => .is (b = b' ∧ 0 ≤ i) (.v (.int .i64 (clAt s i)))
  | _ => .bad
def spRdClass : Spc
  | [.p key b 0, .v (.int .i64 i)], H, _ => rdClass b i (H key)
  | _, _, _ => .bad
theorem spRdClass_q {key b : Nat} {i : Int} {H : Nat → Ch} {nx : Nat} : spRdClass [.p key b 0, .v (.int .i64 i)] H nx = rdClass b i (H key) := (rfl)
theorem rdClass_q {b b' : Nat} {i at_ : Int} {s : ByteArray} {t : TypeId} : rdClass b i (.blk b' [.v (.string s), .v (.int .i64 at_)] t) = .is (b = b' ∧ 0 ≤ i) (.v (.int .i64 (clAt s i))) := (rfl)
def tlRd : List (TypeId × TI) := [tyInt, tyI64, tyU8, tyBool, tyStr, tyErr, tyRdr]
theorem tlRd_ok : TyAll Tryz.prog (lookT tlRd) := tyAll_p tyInt_ok <| tyAll_p tyI64_ok <| tyAll_p tyU8_ok <| tyAll_p tyBool_ok <| tyAll_p tyStr_ok <| tyAll_p tyErr_ok <| tyAll_p tyRdr_ok tyAll_nil
def glRd : List (FuncId × Spc) := [(109, spClass)]
theorem glRd_ok : GOk Tryz.prog (lookG glRd) := lG_cons (by kernel_rfl) spClass_ok lG_nil
theorem rdClass_any (s : ByteArray) (at_ i : Int) (b : Nat) (h0 : 0 ≤ i) (w : World) (h : Hold w.heap.size w (.cst b 0 [.v (.string s), .v (.int .i64 at_)])) :
    Calls Tryz.prog 73 #[.pointer (some ⟨b, 0, none⟩), .int .i64 i] w fun e w' => e = .returned (.int .i64 (clAt s i)) ∧ Below w.heap.size w w' := by
  refine calls_go (args := [.p 1000 b 0, .v (.int .i64 i)]) (hp := [(1000, .cst b 0 [.v (.string s), .v (.int .i64 at_)])]) (nx := 1001) (n := 400) (U := []) (V := []) (tl := tlRd) (gl := glRd) (post := fun s' ys => ys = [.v (.int .i64 (clAt s i))])
    followP tlRd_ok glRd_ok Tryz.func73 rfl (by kernel_rfl) (Nat.le_of_ble_eq_true (by kernel_rfl)) (by kernel_rfl) (by kernel_rfl) (hh_list ⟨⟨h, rfl⟩, trivial⟩) (free_list (by simp [allLt])) ?_ ?_
  · rintro s ys w' rfl H
    exact ⟨rfl, H.below⟩
  intro L F T G nd va hE
  obtain ⟨hL, hF, hs, hv, hT, hG, hR, hI, hJ, hW⟩ := hE
  rw [Tryz.results73] at hF
  simp (maxSteps := 1000000) only [En.nN, En.E, En.evsC, List.map_cons, List.map_nil, Nat.reduceBEq, Nat.reduceAdd, Nat.reduceMul, Nat.reduceEqDiff, Nat.reduceLeDiff, Nat.reduceLT, ne_eq, reduceCtorEq, Int.reduceBEq, Int.reduceBNe, Int.reduceAdd, Int.reduceSub, Int.reduceMul, Int.reduceTDiv, Int.reduceTMod, Int.reduceNeg, En.bitN, Nat.testBit, Nat.reduceShiftRight, Nat.reduceShiftLeft, Nat.reduceAnd, Nat.reduceOr, Nat.reduceBNe, Int.reduceToNat, Nat.reduceSub, Int.reduceLE, Int.reduceLT] at hv
  simp only [En.at_nil, En.at_cons, En.ag_nil, En.ag_cons, and_true, tlRd, glRd, tyInt, tyI64, tyU8, tyBool, tyStr, tyErr, tyRdr] at hT hG
  cases hc : decide ((s.size : Int) ≤ i)
  · have hi : i < s.size := by have := of_decide_eq_false hc; omega
    have e : clAt s i = clsV (chr s i) := by rw [clAt, hc]; rfl
    have hb := chr_byte s i
    simp (maxSteps := 10000000) only [En.E, En.evsC, List.map_cons, List.map_nil, Nat.reduceBEq, Nat.reduceAdd, Nat.reduceMul, Nat.reduceEqDiff, Nat.reduceLeDiff, Nat.reduceLT, ne_eq, reduceCtorEq, Int.reduceBEq, Int.reduceBNe, Int.reduceAdd, Int.reduceSub, Int.reduceMul, Int.reduceTDiv, Int.reduceTMod, Int.reduceNeg, En.bitN, Nat.testBit, Nat.reduceShiftRight, Nat.reduceShiftLeft, Nat.reduceAnd, Nat.reduceOr, Nat.reduceBNe, Int.reduceToNat, Nat.reduceSub, Int.reduceLE, Int.reduceLT, En.vV, hs, hv, hT, hG, hF, spClass_q, hc, e, h0, hi, hb]
    simp only [En.inr, En.lo, En.hi]; omega
  · have e : clAt s i = 10 := by rw [clAt, hc]; rfl
    simp (maxSteps := 10000000) only [En.E, En.evsC, List.map_cons, List.map_nil, Nat.reduceBEq, Nat.reduceAdd, Nat.reduceMul, Nat.reduceEqDiff, Nat.reduceLeDiff, Nat.reduceLT, ne_eq, reduceCtorEq, Int.reduceBEq, Int.reduceBNe, Int.reduceAdd, Int.reduceSub, Int.reduceMul, Int.reduceTDiv, Int.reduceTMod, Int.reduceNeg, En.bitN, Nat.testBit, Nat.reduceShiftRight, Nat.reduceShiftLeft, Nat.reduceAnd, Nat.reduceOr, Nat.reduceBNe, Int.reduceToNat, Nat.reduceSub, Int.reduceLE, Int.reduceLT, En.vV, hs, hv, hT, hG, hF, spClass_q, hc, e]
theorem spRdClass_ok : SpecOk Tryz.prog 73 spRdClass := by
  intro args hp nx w0 O w H hv
  unfold spRdClass at hv ⊢
  split at hv
  · next key b i =>
    have hk := H.hold key
    unfold rdClass at hv ⊢
    split at hv
    · next b' s at_ t e =>
      rw [e] at hk
      obtain ⟨rfl, h0⟩ := hv
      refine (rdClass_any s at_ i b h0 w (blk_cells hk)).mono ?_
      rintro e w' ⟨rfl, hb⟩
      exact ⟨⟨0, none, 0, none, 0, mz⟩, rfl, .still hb⟩
    · exact hv.elim
  · exact hv.elim
def wEnd (s : ByteArray) (a b : Int) : Nat → Nat → Nat
  | 0, i => i
  | f + 1, i => if clAt s i = a ∨ clAt s i = b then wEnd s a b f (i + 1) else i
def wE (s : ByteArray) (a b : Int) (i : Nat) : Nat := wEnd s a b (s.size - i) i
theorem clAt_end {s : ByteArray} {i : Nat} (h : s.size ≤ i) : clAt s i = 10 := by
  have : decide ((s.size : Int) ≤ i) = true := by simpa using h
  rw [clAt, this]; rfl
theorem wE_step {s : ByteArray} {a b : Int} (ha : a ≠ 10) (hb : b ≠ 10) {i : Nat} (h : clAt s i = a ∨ clAt s i = b) : i < s.size ∧ wE s a b i = wE s a b (i + 1) := by
  have hi : i < s.size := Classical.byContradiction fun hn => by
    rw [clAt_end (by omega)] at h
    rcases h with h | h
    · exact ha h.symm
    · exact hb h.symm
  refine ⟨hi, ?_⟩
  unfold wE
  obtain ⟨f, hf⟩ : ∃ f, s.size - i = f + 1 := ⟨s.size - i - 1, by omega⟩
  rw [hf, wEnd, if_pos h, show s.size - (i + 1) = f by omega]
theorem wE_stop {s : ByteArray} {a b : Int} {i : Nat} (h : ¬ (clAt s i = a ∨ clAt s i = b)) : wE s a b i = i := by
  unfold wE
  cases s.size - i with
  | zero => rfl
  | succ f => rw [wEnd, if_neg h]
theorem wE_le (s : ByteArray) (a b : Int) : ∀ f i, i + f ≤ s.size → i ≤ wEnd s a b f i ∧ wEnd s a b f i ≤ i + f
  | 0, i, _ => ⟨Nat.le_refl _, Nat.le_refl _⟩
  | f + 1, i, h => by
    rw [wEnd]
    split
    · have := wE_le s a b f (i + 1) (by omega); omega
    · omega
def glWh : List (FuncId × Spc) := [(73, spRdClass)]
theorem glWh_ok : GOk Tryz.prog (lookG glWh) := lG_cons (by kernel_rfl) spRdClass_ok lG_nil
def whI (s : ByteArray) (a b : Int) (i bk : Nat) (hA : Array Obj) (j : Nat) : SS :=
  ⟨[(0, .p 1000 bk 0), (1, .v (.int .i64 a)), (2, .v (.int .i64 b)), (7, .v (.int .i64 i)), (8, .v (.int .i64 (clAt s j)))], [(1000, .blk bk [.v (.string s), .v (.int .i64 j)] 95), (1001, .pin hA fun i => i ≠ bk)], 1002 + 512 * 8⟩
theorem while_any (s : ByteArray) (a b : Int) (i bk : Nat) (ha : a ≠ 10) (hb : b ≠ 10) (hi : i ≤ s.size) (hz : s.size ≤ 4611686018427387904) (w0 : World) (O : Nat → Prop) (w : World) (hA : Array Obj)
    (H : HH w0 O [(1000, .blk bk [.v (.string s), .v (.int .i64 i)] 95), (1001, .pin hA fun i => i ≠ bk)] w) :
    Calls Tryz.prog 74 #[.pointer (some ⟨bk, 0, none⟩), .int .i64 a, .int .i64 b] w fun e w' => ∃ hp', e = .returned (.string (s.extract i (wE s a b i))) ∧ HH w0 O hp' w' ∧ lookH hp' 1000 = .blk bk [.v (.string s), .v (.int .i64 (wE s a b i))] 95 ∧ lookH hp' 1001 = .pin hA fun i => i ≠ bk := by
  obtain ⟨E, hE⟩ : ∃ E, E = wE s a b i := ⟨_, rfl⟩
  rw [← hE]
  refine calls_go_at (args := [.p 1000 bk 0, .v (.int .i64 a), .v (.int .i64 b)]) (hp := [(1000, .blk bk [.v (.string s), .v (.int .i64 i)] 95), (1001, .pin hA fun i => i ≠ bk)]) (nx := 1002) (n := 400) (U := [(1000000, 18)]) (V := []) (tl := tlRd) (gl := glWh)
    (post := fun s' ys => ys = [.v (.string (s.extract i E))] ∧ lookH s'.hp 1000 = .blk bk [.v (.string s), .v (.int .i64 E)] 95 ∧ lookH s'.hp 1001 = .pin hA fun i => i ≠ bk)
    followP tlRd_ok glWh_ok Tryz.func74 rfl (by kernel_rfl) (Nat.le_of_ble_eq_true (by kernel_rfl)) (by kernel_rfl) (by kernel_rfl) H (free_list (by simp [allLt])) ?_ ?_
  · rintro s' ys w' ⟨rfl, h1, h2⟩ H
    exact ⟨s'.hp, rfl, H, h1, h2⟩
  intro L F T G nd va hE
  obtain ⟨hL, hF, hs, hv, hT, hG, hR, hI, hJ, hW⟩ := hE
  rw [Tryz.results74] at hF
  simp (maxSteps := 1000000) only [En.nN, En.E, En.evsC, List.map_cons, List.map_nil, Nat.reduceBEq, Nat.reduceAdd, Nat.reduceMul, Nat.reduceEqDiff, Nat.reduceLeDiff, Nat.reduceLT, ne_eq, reduceCtorEq, Int.reduceBEq, Int.reduceBNe, Int.reduceAdd, Int.reduceSub, Int.reduceMul, Int.reduceTDiv, Int.reduceTMod, Int.reduceNeg, En.bitN, Nat.testBit, Nat.reduceShiftRight, Nat.reduceShiftLeft, Nat.reduceAnd, Nat.reduceOr, Nat.reduceBNe, Int.reduceToNat, Nat.reduceSub, Int.reduceLE, Int.reduceLT] at hv
  simp only [En.at_nil, En.at_cons, En.ag_nil, En.ag_cons, and_true, tlRd, glWh, tyInt, tyI64, tyU8, tyBool, tyStr, tyErr, tyRdr] at hT hG
  have hi0 : (0 : Int) ≤ i := by omega
  simp (maxSteps := 10000000) only [En.E, En.evsC, List.map_cons, List.map_nil, Nat.reduceBEq, Nat.reduceAdd, Nat.reduceMul, Nat.reduceEqDiff, Nat.reduceLeDiff, Nat.reduceLT, ne_eq, reduceCtorEq, Int.reduceBEq, Int.reduceBNe, Int.reduceAdd, Int.reduceSub, Int.reduceMul, Int.reduceTDiv, Int.reduceTMod, Int.reduceNeg, En.bitN, Nat.testBit, Nat.reduceShiftRight, Nat.reduceShiftLeft, Nat.reduceAnd, Nat.reduceOr, Nat.reduceBNe, Int.reduceToNat, Nat.reduceSub, Int.reduceLE, Int.reduceLT, En.vV, hs, hv, hT, hG, hF, spRdClass_q, rdClass_q, hi0]
  refine hI {j : Nat // i ≤ j ∧ j ≤ s.size ∧ wE s a b j = E} (fun j => whI s a b i bk hA j.1) (fun j => s.size - j.1) _ _ _ ⟨i, Nat.le_refl _, hi, hE.symm⟩ (sle_all [1000, 1001] (by decide) (by simp only [En.E, En.evsC, List.map_cons, List.map_nil, Nat.reduceBEq, Nat.reduceAdd, Nat.reduceMul, Nat.reduceEqDiff, Nat.reduceLeDiff, Nat.reduceLT, ne_eq, reduceCtorEq, Int.reduceBEq, Int.reduceBNe, Int.reduceAdd, Int.reduceSub, Int.reduceMul, Int.reduceTDiv, Int.reduceTMod, Int.reduceNeg, En.bitN, Nat.testBit, Nat.reduceShiftRight, Nat.reduceShiftLeft, Nat.reduceAnd, Nat.reduceOr, Nat.reduceBNe, Int.reduceToNat, Nat.reduceSub, Int.reduceLE, Int.reduceLT, En.slLe, En.hpLe, En.chE, En.allLt, whI])) ?_
  rintro ⟨j, hij, hjs, hj⟩
  refine hR 2000 _ _ ?_
  have hj0 : (0 : Int) ≤ j := by omega
  have hj1 : (0 : Int) ≤ j + 1 := by omega
  by_cases hc : clAt s j = a ∨ clAt s j = b
  · obtain ⟨hlt, hst⟩ := wE_step ha hb hc
    have hd : (bif clAt s j == a then true else clAt s j == b) = true := by
      rcases hc with h | h <;> simp [h]
    simp (maxSteps := 10000000) only [En.E, En.evsC, List.map_cons, List.map_nil, Nat.reduceBEq, Nat.reduceAdd, Nat.reduceMul, Nat.reduceEqDiff, Nat.reduceLeDiff, Nat.reduceLT, ne_eq, reduceCtorEq, Int.reduceBEq, Int.reduceBNe, Int.reduceAdd, Int.reduceSub, Int.reduceMul, Int.reduceTDiv, Int.reduceTMod, Int.reduceNeg, En.bitN, Nat.testBit, Nat.reduceShiftRight, Nat.reduceShiftLeft, Nat.reduceAnd, Nat.reduceOr, Nat.reduceBNe, Int.reduceToNat, Nat.reduceSub, Int.reduceLE, Int.reduceLT, En.vV, hs, hv, hT, hG, hF, spRdClass_q, rdClass_q, hj0, hj1, hd, whI]
    refine ⟨fun h => by rw [h]; rfl, by simp only [En.inr, En.lo, En.hi]; omega, ⟨j + 1, by omega, by omega, by rw [← hst]; exact hj⟩, (sle_all [1000, 1001] (by decide) (by simp only [En.E, En.evsC, List.map_cons, List.map_nil, Nat.reduceBEq, Nat.reduceAdd, Nat.reduceMul, Nat.reduceEqDiff, Nat.reduceLeDiff, Nat.reduceLT, ne_eq, reduceCtorEq, Int.reduceBEq, Int.reduceBNe, Int.reduceAdd, Int.reduceSub, Int.reduceMul, Int.reduceTDiv, Int.reduceTMod, Int.reduceNeg, En.bitN, Nat.testBit, Nat.reduceShiftRight, Nat.reduceShiftLeft, Nat.reduceAnd, Nat.reduceOr, Nat.reduceBNe, Int.reduceToNat, Nat.reduceSub, Int.reduceLE, Int.reduceLT, En.slLe, En.hpLe, En.chE, En.allLt, whI, Int.natCast_add, Int.cast_ofNat_Int])), by simp only; omega⟩
  · have hst := wE_stop hc
    obtain rfl : j = E := by rw [← hj, hst]
    have hd : (bif clAt s j == a then true else clAt s j == b) = false := by
      simp only [not_or] at hc
      simp [hc]
    simp (maxSteps := 10000000) only [En.E, En.evsC, List.map_cons, List.map_nil, Nat.reduceBEq, Nat.reduceAdd, Nat.reduceMul, Nat.reduceEqDiff, Nat.reduceLeDiff, Nat.reduceLT, ne_eq, reduceCtorEq, Int.reduceBEq, Int.reduceBNe, Int.reduceAdd, Int.reduceSub, Int.reduceMul, Int.reduceTDiv, Int.reduceTMod, Int.reduceNeg, En.bitN, Nat.testBit, Nat.reduceShiftRight, Nat.reduceShiftLeft, Nat.reduceAnd, Nat.reduceOr, Nat.reduceBNe, Int.reduceToNat, Nat.reduceSub, Int.reduceLE, Int.reduceLT, En.vV, hs, hv, hT, hG, hF, spRdClass_q, rdClass_q, hj0, hd, whI]
    exact ⟨fun h => by rw [h]; rfl, ⟨by omega, by omega, by omega⟩, by simp⟩
def rdWhile (key b : Nat) (a c : Int) : Ch → Res
  | .blk b' [.v (.string s), .v (.int .i64 i)] t => .app (b = b' ∧ t = 95 ∧ a ≠ 10 ∧ c ≠ 10 ∧ 0 ≤ i ∧ i ≤ s.size ∧ s.size ≤ 4611686018427387904) key fun _ _ => (.v (.string (s.extract i.toNat (wE s a c i.toNat))), [(key, .blk b' [.v (.string s), .v (.int .i64 (wE s a c i.toNat))] t)])
  | _ => .bad
def spRdWhile : Spc
  | [.p key b 0, .v (.int .i64 a), .v (.int .i64 c)], H, _ => rdWhile key b a c (H key)
  | _, _, _ => .bad
theorem spRdWhile_q {key b : Nat} {a c : Int} {H : Nat → Ch} {nx : Nat} : spRdWhile [.p key b 0, .v (.int .i64 a), .v (.int .i64 c)] H nx = rdWhile key b a c (H key) := (rfl)
theorem rdWhile_q {key b b' : Nat} {a c i : Int} {s : ByteArray} {t : TypeId} : rdWhile key b a c (.blk b' [.v (.string s), .v (.int .i64 i)] t) = .app (b = b' ∧ t = 95 ∧ a ≠ 10 ∧ c ≠ 10 ∧ 0 ≤ i ∧ i ≤ s.size ∧ s.size ≤ 4611686018427387904) key fun _ _ => (.v (.string (s.extract i.toNat (wE s a c i.toNat))), [(key, .blk b' [.v (.string s), .v (.int .i64 (wE s a c i.toNat))] t)]) := (rfl)
theorem spRdWhile_ok : SpecOk Tryz.prog 74 spRdWhile := by
  intro args hp nx w0 O w H hv
  unfold spRdWhile at hv ⊢
  split at hv
  · next key b a c =>
    have hk := H.hold key
    unfold rdWhile at hv ⊢
    split at hv
    · next b' s i t e =>
      rw [e] at hk
      obtain ⟨rfl, rfl, ha, hc, h0, h1, h2⟩ := hv
      obtain ⟨i, rfl⟩ := Int.eq_ofNat_of_zero_le h0
      have hh := hh_pin (k := 1000) (kp := 1001) (rs := []) hk.2 (fun j => ⟨trivial, rfl, fun h => h⟩) rfl rfl (by decide)
      refine (while_any s a c i b ha hc (by omega) h2 _ _ w w.heap hh).mono ?_
      rintro e' w' ⟨hp', rfl, H', l1, l2⟩
      refine ⟨⟨0, none, 0, none, 0, mz⟩, by simp [Res.out, den], ?_⟩
      have := stp_pin H e H' l1 l2
      simpa [Res.out, Res.wr] using this
    · exact hv.elim
  · exact hv.elim
theorem hasR_nil (r : Int) : hasR ⟨#[]⟩ r = false := by
  unfold hasR
  rw [show (⟨#[]⟩ : ByteArray).data.toList = [] from rfl, idx_nil]
  cases decide (r < 128) <;> rfl
theorem clsV_ltr {r : Int} : clsV r = 8 ↔ ltr r = true := by
  unfold clsV clsL
  cases hd : dig r <;> cases hl : ltr r <;> simp only [cond_true, cond_false, clsF, hasR_nil]
  · refine iff_of_false ?_ (by decide)
    (repeat' (rw [Bool.cond_eq_ite]; split)) <;> decide
  · decide
  · unfold dig at hd; unfold ltr at hl
    exfalso
    cases h1 : decide (48 ≤ r) <;> cases h2 : decide (97 ≤ r) <;> simp_all
    omega
theorem clsV_dig {r : Int} : clsV r = 6 ↔ dig r = true := by
  unfold clsV clsL
  cases hd : dig r <;> simp only [cond_true, cond_false, clsF, hasR_nil]
  · refine iff_of_false ?_ (by decide)
    (repeat' (rw [Bool.cond_eq_ite]; split)) <;> decide
def ldAt (s : ByteArray) (i : Nat) : Bool := bif ltr (chr s i) then true else dig (chr s i)
def ldAll (s : ByteArray) : Nat → Nat → Bool
  | 0, _ => true
  | f + 1, i => bif ldAt s i then ldAll s f (i + 1) else false
def namedV (s : ByteArray) : Bool := bif decide (s.size = 0) then false else bif ltr (chr s 0) then ldAll s s.size 0 else false
theorem clAt_in {s : ByteArray} {i : Nat} (h : i < s.size) : clAt s i = clsV (chr s i) := by
  have : decide ((s.size : Int) ≤ i) = false := by simpa using h
  rw [clAt, this]; rfl
theorem ldAt_cls {s : ByteArray} {i : Nat} (h : i < s.size) : ldAt s i = true ↔ clAt s i = 8 ∨ clAt s i = 6 := by
  rw [clAt_in h, clsV_ltr, clsV_dig, ldAt]
  cases ltr (chr s i) <;> simp
theorem ldAll_end (s : ByteArray) : ∀ f i, i + f = s.size → (ldAll s f i = true ↔ wEnd s 8 6 f i = s.size)
  | 0, i, h => by simp [ldAll, wEnd]; omega
  | f + 1, i, h => by
    have hi : i < s.size := by omega
    rw [ldAll, wEnd]
    cases hl : ldAt s i
    · rw [if_neg (fun h => by rw [(ldAt_cls hi).2 h] at hl; cases hl)]
      simp; omega
    · rw [if_pos ((ldAt_cls hi).1 hl)]
      exact ldAll_end s f (i + 1) (by omega)
theorem ext_all {s : ByteArray} {e : Nat} (h : e ≤ s.size) : ((s.extract 0 e).toList == s.toList) = decide (e = s.size) := by
  by_cases he : e = s.size
  · subst he; simp
  · rw [decide_eq_false he, beq_eq_false_iff_ne]
    intro h2
    have := congrArg List.length h2
    rw [Lib.toList_data, Lib.toList_data] at this
    simp at this
    have h3 : s.data.size = s.size := rfl
    omega
theorem word_no {s : ByteArray} (h : clAt s 0 ≠ 8) : namedV s = false := by
  unfold namedV
  by_cases h0 : s.size = 0
  · rw [decide_eq_true h0]; rfl
  · have := clAt_in (s := s) (i := 0) (by omega)
    cases hl : ltr (chr s 0)
    · rw [decide_eq_false h0]; rfl
    · exact absurd (this.trans (clsV_ltr.2 hl)) h
theorem word_end {s : ByteArray} (h : clAt s 0 = 8) : namedV s = decide (wE s 8 6 0 = s.size) := by
  have h0 : s.size ≠ 0 := fun h0 => by
    have := clAt_end (s := s) (i := 0) (by omega)
    have h2 : clAt s 0 = 10 := this
    rw [h] at h2; cases h2
  have hl : ltr (chr s 0) = true := by
    have := clAt_in (s := s) (i := 0) (by omega)
    exact clsV_ltr.1 (this.symm.trans h)
  have := ldAll_end s s.size 0 (by omega)
  unfold namedV
  rw [decide_eq_false h0, hl, cond_false, cond_true]
  unfold wE
  rw [Nat.sub_zero]
  cases hd : ldAll s s.size 0
  · exact (decide_eq_false fun e => by rw [this.2 e] at hd; cases hd).symm
  · exact (decide_eq_true (this.1 hd)).symm
def lexW (s : ByteArray) : Int := bif namedV s then (bif decide (16 < (s.size : Int)) then 3 else 0) else 6
def tlLx : List (TypeId × TI) := [tyInt, tyI64, tyBool, tyStr, tyErr, tyRdr, tyTok]
theorem tlLx_ok : TyAll Tryz.prog (lookT tlLx) := tyAll_p tyInt_ok <| tyAll_p tyI64_ok <| tyAll_p tyBool_ok <| tyAll_p tyStr_ok <| tyAll_p tyErr_ok <| tyAll_p tyRdr_ok <| tyAll_p tyTok_ok tyAll_nil
def glLx : List (FuncId × Spc) := [(73, spRdClass), (74, spRdWhile)]
theorem glLx_ok : GOk Tryz.prog (lookG glLx) := lG_cons (by kernel_rfl) spRdClass_ok <| lG_cons (by kernel_rfl) spRdWhile_ok lG_nil
theorem lexCheck_word (s : ByteArray) (hz : s.size ≤ 4611686018427387904) (w : World) :
    Calls Tryz.prog 45 #[.agg #[.int .i64 1, .int .i64 0, .int .i64 0, .int .i64 0, .string s]] w fun e w' => e = .returned (.int .i64 (lexW s)) ∧ Below w.heap.size w w' := by
  obtain ⟨q, hq⟩ : ∃ q, q = lexW s := ⟨_, rfl⟩
  rw [← hq]
  refine calls_go (args := [.agg [.v (.int .i64 1), .v (.int .i64 0), .v (.int .i64 0), .v (.int .i64 0), .v (.string s)]]) (hp := []) (nx := 1000) (n := 800) (U := []) (V := [(14, ([(5, 3048)], [(7, [3048])]))]) (tl := tlLx) (gl := glLx) (post := fun s ys => ys = [.v (.int .i64 q)])
    followP tlLx_ok glLx_ok Tryz.func45 rfl (by kernel_rfl) (Nat.le_of_ble_eq_true (by kernel_rfl)) (by kernel_rfl) (by kernel_rfl) (hh_list trivial) (fun _ _ => rfl) ?_ ?_
  · rintro s ys w' rfl H
    exact ⟨rfl, H.below⟩
  intro L F T G nd va hE
  obtain ⟨hL, hF, hs, hv, hT, hG, hR, hI, hJ, hW⟩ := hE
  rw [Tryz.results45] at hF
  simp (maxSteps := 1000000) only [En.nN, En.E, En.evsC, List.map_cons, List.map_nil, Nat.reduceBEq, Nat.reduceAdd, Nat.reduceMul, Nat.reduceEqDiff, Nat.reduceLeDiff, Nat.reduceLT, ne_eq, reduceCtorEq, Int.reduceBEq, Int.reduceBNe, Int.reduceAdd, Int.reduceSub, Int.reduceMul, Int.reduceTDiv, Int.reduceTMod, Int.reduceNeg, En.bitN, Nat.testBit, Nat.reduceShiftRight, Nat.reduceShiftLeft, Nat.reduceAnd, Nat.reduceOr, Nat.reduceBNe, Int.reduceToNat, Nat.reduceSub, Int.reduceLE, Int.reduceLT] at hv
  simp only [En.at_nil, En.at_cons, En.ag_nil, En.ag_cons, and_true, tlLx, glLx, tyInt, tyI64, tyBool, tyStr, tyErr, tyRdr, tyTok] at hT hG
  cases hc : clAt s 0 != 8
  · have h8 : clAt s 0 = 8 := by simpa using hc
    have hle := wE_le s 8 6 (s.size - 0) 0 (by omega)
    have hx := ext_all (s := s) (e := wE s 8 6 0) (by unfold wE; omega)
    have hn := word_end h8
    cases hL : decide (16 < (s.size : Int))
    · simp (maxSteps := 10000000) only [En.E, En.evsC, List.map_cons, List.map_nil, Nat.reduceBEq, Nat.reduceAdd, Nat.reduceMul, Nat.reduceEqDiff, Nat.reduceLeDiff, Nat.reduceLT, ne_eq, reduceCtorEq, Int.reduceBEq, Int.reduceBNe, Int.reduceAdd, Int.reduceSub, Int.reduceMul, Int.reduceTDiv, Int.reduceTMod, Int.reduceNeg, En.bitN, Nat.testBit, Nat.reduceShiftRight, Nat.reduceShiftLeft, Nat.reduceAnd, Nat.reduceOr, Nat.reduceBNe, Int.reduceToNat, Nat.reduceSub, Int.reduceLE, Int.reduceLT, En.vV, hs, hv, hT, hG, hF, spRdClass_q, rdClass_q, spRdWhile_q, rdWhile_q, hc, hx, hL, hz]
      rw [lexW, hL, hn] at hq
      refine ⟨⟨by decide, by decide, by omega⟩, fun h => ?_, fun h => ?_⟩ <;> (simp at h; rw [hq]; simp [h])
    · simp (maxSteps := 10000000) only [En.E, En.evsC, List.map_cons, List.map_nil, Nat.reduceBEq, Nat.reduceAdd, Nat.reduceMul, Nat.reduceEqDiff, Nat.reduceLeDiff, Nat.reduceLT, ne_eq, reduceCtorEq, Int.reduceBEq, Int.reduceBNe, Int.reduceAdd, Int.reduceSub, Int.reduceMul, Int.reduceTDiv, Int.reduceTMod, Int.reduceNeg, En.bitN, Nat.testBit, Nat.reduceShiftRight, Nat.reduceShiftLeft, Nat.reduceAnd, Nat.reduceOr, Nat.reduceBNe, Int.reduceToNat, Nat.reduceSub, Int.reduceLE, Int.reduceLT, En.vV, hs, hv, hT, hG, hF, spRdClass_q, rdClass_q, spRdWhile_q, rdWhile_q, hc, hx, hL, hz]
      rw [lexW, hL, hn] at hq
      refine ⟨⟨by decide, by decide, by omega⟩, fun h => ?_, fun h => ?_⟩ <;> (simp at h; rw [hq]; simp [h])
  · have h8 : clAt s 0 ≠ 8 := by simpa using hc
    rw [lexW, word_no h8] at hq
    simp (maxSteps := 10000000) only [En.E, En.evsC, List.map_cons, List.map_nil, Nat.reduceBEq, Nat.reduceAdd, Nat.reduceMul, Nat.reduceEqDiff, Nat.reduceLeDiff, Nat.reduceLT, ne_eq, reduceCtorEq, Int.reduceBEq, Int.reduceBNe, Int.reduceAdd, Int.reduceSub, Int.reduceMul, Int.reduceTDiv, Int.reduceTMod, Int.reduceNeg, En.bitN, Nat.testBit, Nat.reduceShiftRight, Nat.reduceShiftLeft, Nat.reduceAnd, Nat.reduceOr, Nat.reduceBNe, Int.reduceToNat, Nat.reduceSub, Int.reduceLE, Int.reduceLT, En.vV, hs, hv, hT, hG, hF, spRdClass_q, rdClass_q, spRdWhile_q, rdWhile_q, hc]
    rw [hq]; rfl
def spLexW : Spc
  | [.agg [.v (.int .i64 1), .v (.int .i64 0), .v (.int .i64 0), .v (.int .i64 0), .v (.string s)]], _, _ => .is (s.size ≤ 4611686018427387904) (.v (.int .i64 (lexW s)))
  | _, _, _ => .bad
theorem spLexW_q {s : ByteArray} {H : Nat → Ch} {nx : Nat} : spLexW [.agg [.v (.int .i64 1), .v (.int .i64 0), .v (.int .i64 0), .v (.int .i64 0), .v (.string s)]] H nx = .is (s.size ≤ 4611686018427387904) (.v (.int .i64 (lexW s))) := (rfl)
theorem spLexW_ok : SpecOk Tryz.prog 45 spLexW := specOk_is fun args H nx => by
  unfold spLexW; split
  · exact fun h w => lexCheck_word _ h w
  · trivial
end Pr
end Go.Proofs.YtpkldfkmokeamaaGreatDoor
