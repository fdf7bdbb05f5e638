/-
Letters of a text (chapters 2 and 15), plainly: the reference's decoding by its definition and the library's; how many letters a text has.
-/
import Derived.Test.YtpkldfkmokeamaaGreatDoorBa1
import Derived.Lib.DecodeN
import Derived.Lib.ValidU
import Derived.Lib.RuneCount
import Derived.Test.YtpkldfkmokeamaaGreatDoorTyA
import Derived.Test.YtpkldfkmokeamaaGreatDoorPa1
set_option linter.unusedSimpArgs false
set_option linter.unusedVariables false
namespace Go.Proofs.YtpkldfkmokeamaaGreatDoor
namespace Ut
def st1 (a : Nat) : Option Nat := if a < 128 then some a else none
def st2 (a b : Nat) : Option Nat := if 192 ≤ a ∧ a < 224 ∧ 128 ≤ b ∧ b < 192 ∧ 128 ≤ 64 * (a - 192) + (b - 128) then some (64 * (a - 192) + (b - 128)) else none
def is16 (r : Nat) : Prop := r ≤ 1114111 ∧ (r < 55296 ∨ 57343 < r)
instance (r : Nat) : Decidable (is16 r) := inferInstanceAs (Decidable (_ ∧ _))
def st3 (a b c : Nat) : Option Nat := if 224 ≤ a ∧ a < 240 ∧ 128 ≤ b ∧ b < 192 ∧ 128 ≤ c ∧ c < 192 ∧ 2048 ≤ 64 * (64 * (a - 224) + (b - 128)) + (c - 128) ∧ is16 (64 * (64 * (a - 224) + (b - 128)) + (c - 128)) then some (64 * (64 * (a - 224) + (b - 128)) + (c - 128)) else none
def st4 (a b c d : Nat) : Option Nat := if 240 ≤ a ∧ a < 248 ∧ 128 ≤ b ∧ b < 192 ∧ 128 ≤ c ∧ c < 192 ∧ 128 ≤ d ∧ d < 192 ∧ 65536 ≤ 64 * (64 * (64 * (a - 240) + (b - 128)) + (c - 128)) + (d - 128) ∧ is16 (64 * (64 * (64 * (a - 240) + (b - 128)) + (c - 128)) + (d - 128)) then some (64 * (64 * (64 * (a - 240) + (b - 128)) + (c - 128)) + (d - 128)) else none
def dec (n a b c d : Nat) : Option (Nat × Nat) :=
  match st1 a with
  | some r => some (r, 1)
  | none => match (if 2 ≤ n then st2 a b else none) with
    | some r => some (r, 2)
    | none => match (if 3 ≤ n then st3 a b c else none) with
      | some r => some (r, 3)
      | none => match (if 4 ≤ n then st4 a b c d else none) with
        | some r => some (r, 4)
        | none => none
theorem st1_some {a r : Nat} (h : st1 a = some r) : a < 128 ∧ r = a := by
  unfold st1 at h; split at h <;> cases h; exact ⟨by assumption, rfl⟩
theorem st1_none {a : Nat} (h : st1 a = none) : 128 ≤ a := by
  unfold st1 at h; split at h
  · cases h
  · omega
theorem dec_lib {n a b c d : Nat} (hn : 1 ≤ n) (ha : a < 256) (hb : b < 256) (hc : c < 256) (hd : d < 256) :
    (∀ p, dec n a b c d = some p → Lib.decodeN n a b c d = p ∧ ¬ (p.1 = 65533 ∧ p.2 = 1)) ∧ (dec n a b c d = none → Lib.decodeN n a b c d = (65533, 1)) := by
  unfold dec
  cases h1 : st1 a with
  | some r =>
    obtain ⟨q, rfl⟩ := st1_some h1
    refine ⟨fun p hp => ?_, fun hp => (by cases hp)⟩
    cases hp
    exact ⟨by rw [Lib.decodeN, if_pos q], fun hq => by have := hq.1; omega⟩
  | none =>
    have q1 := st1_none h1
    dsimp only
    cases h2 : (if 2 ≤ n then st2 a b else none) with
    | some r =>
      refine ⟨fun p hp => ?_, fun hp => (by cases hp)⟩
      cases hp
      unfold st2 at h2
      split at h2
      · split at h2
        · have h2 := Option.some.inj h2; subst h2
          refine ⟨?_, fun hq => by have := hq.2; omega⟩
          rw [Lib.decodeN, if_neg (by omega), if_pos (by omega), if_pos (by omega)]
          exact Prod.ext (by simp only; omega) rfl
        · cases h2
      · cases h2
    | none =>
      have q2 : ¬ (2 ≤ n ∧ 192 ≤ a ∧ a < 224 ∧ 128 ≤ b ∧ b < 192 ∧ 128 ≤ 64 * (a - 192) + (b - 128)) := by
        rintro ⟨k1, k2⟩
        rw [if_pos k1, st2, if_pos k2] at h2; cases h2
      dsimp only
      cases h3 : (if 3 ≤ n then st3 a b c else none) with
      | some r =>
        refine ⟨fun p hp => ?_, fun hp => (by cases hp)⟩
        cases hp
        unfold st3 is16 at h3
        split at h3
        · split at h3
          · have h3 := Option.some.inj h3; subst h3
            refine ⟨?_, fun hq => by have := hq.2; omega⟩
            rw [Lib.decodeN, if_neg (by omega), if_neg (by omega), if_pos (by omega), if_pos (by omega)]
            exact Prod.ext (by simp only; omega) rfl
          · cases h3
        · cases h3
      | none =>
        have q3 : ¬ (3 ≤ n ∧ 224 ≤ a ∧ a < 240 ∧ 128 ≤ b ∧ b < 192 ∧ 128 ≤ c ∧ c < 192 ∧ 2048 ≤ 64 * (64 * (a - 224) + (b - 128)) + (c - 128) ∧ is16 (64 * (64 * (a - 224) + (b - 128)) + (c - 128))) := by
          rintro ⟨k1, k2⟩
          rw [if_pos k1, st3, if_pos k2] at h3; cases h3
        dsimp only
        cases h4 : (if 4 ≤ n then st4 a b c d else none) with
        | some r =>
          refine ⟨fun p hp => ?_, fun hp => (by cases hp)⟩
          cases hp
          unfold st4 is16 at h4
          split at h4
          · split at h4
            · have h4 := Option.some.inj h4; subst h4
              refine ⟨?_, fun hq => by have := hq.2; omega⟩
              rw [Lib.decodeN, if_neg (by omega), if_neg (by omega), if_neg (by omega), if_pos (by omega), if_pos (by omega)]
              exact Prod.ext (by simp only; omega) rfl
            · cases h4
          · cases h4
        | none =>
          have q4 : ¬ (4 ≤ n ∧ 240 ≤ a ∧ a < 248 ∧ 128 ≤ b ∧ b < 192 ∧ 128 ≤ c ∧ c < 192 ∧ 128 ≤ d ∧ d < 192 ∧ 65536 ≤ 64 * (64 * (64 * (a - 240) + (b - 128)) + (c - 128)) + (d - 128) ∧ is16 (64 * (64 * (64 * (a - 240) + (b - 128)) + (c - 128)) + (d - 128))) := by
            rintro ⟨k1, k2⟩
            rw [if_pos k1, st4, if_pos k2] at h4; cases h4
          refine ⟨fun p hp => (by cases hp), fun _ => ?_⟩
          unfold is16 at q3 q4
          rw [Lib.decodeN, if_neg (by omega)]
          split
          · rw [if_neg (by omega)]
          · split
            · rw [if_neg (by omega)]
            · split
              · rw [if_neg (by omega)]
              · rfl
def decS (s : ByteArray) (i : Nat) : Option (Nat × Nat) := dec (s.size - i) (s.get! i).toNat (s.get! (i + 1)).toNat (s.get! (i + 2)).toNat (s.get! (i + 3)).toNat
theorem byte_lt (x : UInt8) : x.toNat < 256 := x.toNat_lt
theorem decS_lib {s : ByteArray} {i : Nat} (h : i < s.size) :
    (∀ p, decS s i = some p → Utf8.decode s i = p ∧ ¬ (p.1 = 65533 ∧ p.2 = 1)) ∧ (decS s i = none → Utf8.decode s i = (65533, 1)) := by
  rw [Lib.decode_at]
  exact dec_lib (by omega) (byte_lt _) (byte_lt _) (byte_lt _) (byte_lt _)
def cntR (s : ByteArray) : Nat → Nat → Option Nat
  | 0, _ => some 0
  | f + 1, i => if i < s.size then (match decS s i with | some p => (cntR s f (i + p.2)).map (1 + ·) | none => none) else some 0
theorem get_drop (s : ByteArray) (i k : Nat) : (⟨(s.data.toList.drop i).toArray⟩ : ByteArray).get! k = s.get! (i + k) := by
  simp [ByteArray.get!, getElem!_def]
theorem decodeL_drop (s : ByteArray) (i : Nat) : Lib.decodeL (s.data.toList.drop i) = Utf8.decode s i := by
  rw [Lib.decodeL, Lib.decode_at, Lib.decode_at]
  simp only [get_drop]
  have : (⟨(s.data.toList.drop i).toArray⟩ : ByteArray).size = s.size - i := by
    show (s.data.toList.drop i).toArray.size = _
    rw [List.size_toArray, List.length_drop, Array.length_toList]; rfl
  rw [this, Nat.sub_zero]
  rfl
theorem cnt_lib (s : ByteArray) : ∀ f i, s.size ≤ i + f → cntR s f i = if Lib.validGoD f (s.data.toList.drop i) = true then some (Lib.runeCountFrom s f i) else none
  | 0, i, h => rfl
  | f + 1, i, h => by
    rw [cntR, Lib.validGoD, Lib.runeCountFrom]
    have hl : s.data.toList.length = s.size := Array.length_toList
    by_cases hi : i < s.size
    · have hne : s.data.toList.drop i ≠ [] := by
        intro e
        have := congrArg List.length e
        rw [List.length_drop, hl] at this
        simp at this
        omega
      rw [if_pos hi, if_neg hne, if_pos hi, decodeL_drop]
      have hd := decS_lib hi
      have hw := Lib.decode_width_pos s i hi
      cases h1 : decS s i with
      | none =>
        rw [hd.2 h1]
        rfl
      | some p =>
        have h2 := hd.1 p h1
        rw [h2.1, if_neg h2.2, List.drop_drop]
        rw [h2.1] at hw
        dsimp only
        rw [cnt_lib s f (i + p.2) (by omega)]
        split <;> rfl
    · have he : s.data.toList.drop i = [] := List.drop_eq_nil_of_le (by rw [hl]; omega)
      rw [if_neg hi, if_pos he, if_neg hi]
      rfl
theorem count_lib (s : ByteArray) : cntR s s.size 0 = if Lib.validD s.data.toList = true then some (Lib.runeCount s) else none := by
  have h := cnt_lib s s.size 0 (by omega)
  rw [List.drop_zero] at h
  rw [h, Lib.validD, Lib.runeCount]
  have hl : s.data.toList.length = s.size := Array.length_toList
  rw [hl]
end Ut
end Go.Proofs.YtpkldfkmokeamaaGreatDoor
/-
The reference's letters: what bytes are one, how they are written (chapter 2).
-/
set_option linter.unusedSimpArgs false
set_option linter.unusedVariables false
namespace Go.Proofs.YtpkldfkmokeamaaGreatDoor
namespace Pr
open Go Go.RowKit En
def tlUt : List (TypeId × TI) := [tyInt, tyI64, tyU8, tyUint, tyBool, tyStr, tyErr, tyBytes, tyI5]
theorem tlUt_ok : TyAll Tryz.prog (lookT tlUt) := tyAll_p tyInt_ok <| tyAll_p tyI64_ok <| tyAll_p tyU8_ok <| tyAll_p tyUint_ok <| tyAll_p tyBool_ok <| tyAll_p tyStr_ok <| tyAll_p tyErr_ok <| tyAll_p tyBytes_ok <| tyAll_p tyI5_ok tyAll_nil
def glUt0 : List (FuncId × Spc) := []
theorem glUt0_ok : GOk Tryz.prog (lookG glUt0) := lG_nil
def isR (r : Int) : Bool := bif (bif decide (0 ≤ r) then decide (r ≤ 1114111) else false) then (bif decide (r < 55296) then true else decide (57343 < r)) else false
theorem isR_any (r : Int) (w : World) : Calls Tryz.prog 161 #[.int .i64 r] w fun e w' => e = .returned (.bool (isR r)) ∧ Below w.heap.size w w' := by
  refine calls_go (args := [.v (.int .i64 r)]) (hp := []) (nx := 1000) (n := 400) (U := []) (V := []) (tl := tlUt) (gl := glUt0) (post := fun s ys => ys = [.v (.bool (isR r))])
    followP tlUt_ok glUt0_ok Tryz.func161 rfl (by kernel_rfl) (Nat.le_of_ble_eq_true (by kernel_rfl)) (by kernel_rfl) (by kernel_rfl) (hh_list trivial) (fun _ _ => rfl) ?_ ?_
  · rintro s ys w' rfl H
    exact ⟨rfl, H.below⟩
  intro L F T G nd va hE
  obtain ⟨hL, hF, hs, hv, hT, hG, hR, hI, hJ, hW⟩ := hE
  rw [Tryz.results161] at hF
  simp (maxSteps := 1000000) only [En.nN, En.E, En.evsC, List.map_cons, List.map_nil, Nat.reduceBEq, Nat.reduceAdd, Nat.reduceMul, Nat.reduceEqDiff, Nat.reduceLeDiff, Nat.reduceLT, ne_eq, reduceCtorEq, Int.reduceBEq, Int.reduceBNe, Int.reduceAdd, Int.reduceSub, Int.reduceMul, Int.reduceTDiv, Int.reduceTMod, Int.reduceNeg, En.bitN, Nat.testBit, Nat.reduceShiftRight, Nat.reduceShiftLeft, Nat.reduceAnd, Nat.reduceOr, Nat.reduceBNe, Int.reduceToNat, Nat.reduceSub, Int.reduceLE, Int.reduceLT] at hv
  simp only [En.at_nil, En.at_cons, En.ag_nil, En.ag_cons, and_true, tlUt, glUt0, tyInt, tyI64, tyU8, tyUint, tyBool, tyStr, tyErr, tyBytes, tyI5] at hT hG
  simp (maxSteps := 10000000) only [En.E, En.evsC, List.map_cons, List.map_nil, Nat.reduceBEq, Nat.reduceAdd, Nat.reduceMul, Nat.reduceEqDiff, Nat.reduceLeDiff, Nat.reduceLT, ne_eq, reduceCtorEq, Int.reduceBEq, Int.reduceBNe, Int.reduceAdd, Int.reduceSub, Int.reduceMul, Int.reduceTDiv, Int.reduceTMod, Int.reduceNeg, En.bitN, Nat.testBit, Nat.reduceShiftRight, Nat.reduceShiftLeft, Nat.reduceAnd, Nat.reduceOr, Nat.reduceBNe, Int.reduceToNat, Nat.reduceSub, Int.reduceLE, Int.reduceLT, En.vV, hs, hv, hT, hG, hF, ]
  refine ⟨fun h => ⟨h, fun h2 => ?_⟩, rfl⟩
  rw [h, h2]; rfl
def spIsR : Spc
  | [.v (.int .i64 r)], _, _ => .is (True) (.v (.bool (isR r)))
  | _, _, _ => .bad
theorem spIsR_q {r : Int} {H : Nat → Ch} {nx : Nat} : spIsR [.v (.int .i64 r)] H nx = .is (True) (.v (.bool (isR r))) := (rfl)
theorem spIsR_ok : SpecOk Tryz.prog 161 spIsR := specOk_is fun args H nx => by
  unfold spIsR; split
  · exact fun _ w => isR_any _ w
  · trivial
def numV : List Int → Int
  | [a] => if a < 128 then a else -1
  | [a, b] => if 192 ≤ a ∧ a < 224 ∧ 128 ≤ b ∧ b < 192 then 64 * (a - 192) + b - 128 else -1
  | [a, b, c] => if 224 ≤ a ∧ a < 240 ∧ 128 ≤ b ∧ b < 192 ∧ 128 ≤ c ∧ c < 192 then 64 * (64 * (a - 224) + b - 128) + c - 128 else -1
  | [a, b, c, d] => if 240 ≤ a ∧ a < 248 ∧ 128 ≤ b ∧ b < 192 ∧ 128 ≤ c ∧ c < 192 ∧ 128 ≤ d ∧ d < 192 then 64 * (64 * (64 * (a - 240) + b - 128) + c - 128) + d - 128 else -1
  | _ => -1
def byt (x : Int) : Prop := 0 ≤ x ∧ x ≤ 255
theorem lit_shift : (64 : Int) / 2 ^ min 2 64 * 2 = 32 ∧ (64 : Int) / 2 ^ min 3 64 * 2 = 16 ∧ (64 : Int) / 2 ^ min 4 64 * 2 = 8 := by decide
set_option maxRecDepth 100000 in
set_option maxHeartbeats 4000000 in
theorem number1_any (a : Int) (ha : byt a) (A : Option Addr) (cv cc : Nat) (w : World) (h : Hold w.heap.size w (.ints A cc .u8 [a])) :
    Calls Tryz.prog 160 #[.slice A 1 cv] w fun e w' => e = .returned (.int .i64 (numV [a])) ∧ Below w.heap.size w w' := by
  obtain ⟨q, hq⟩ : ∃ q, q = numV [a] := ⟨_, rfl⟩
  rw [← hq]
  refine calls_go (args := [.g 1000 A 1 cv]) (hp := [(1000, .ints A cc .u8 [a])]) (nx := 1001) (n := 1500) (U := [(4, 4), (10, 4)]) (V := []) (tl := tlUt) (gl := glUt0) (post := fun s ys => ys = [.v (.int .i64 q)])
    followP tlUt_ok glUt0_ok Tryz.func160 rfl (by kernel_rfl) (Nat.le_of_ble_eq_true (by kernel_rfl)) (by kernel_rfl) (by kernel_rfl) (hh_list ⟨⟨h, rfl⟩, trivial⟩) (free_list (by simp [allLt])) ?_ ?_
  · rintro s ys w' rfl H
    exact ⟨rfl, H.below⟩
  intro L F T G nd va hE
  obtain ⟨hL, hF, hs, hv, hT, hG, hR, hI, hJ, hW⟩ := hE
  rw [Tryz.results160] at hF
  simp (maxSteps := 1000000) only [En.nN, En.E, En.evsC, List.map_cons, List.map_nil, Nat.reduceBEq, Nat.reduceAdd, Nat.reduceMul, Nat.reduceEqDiff, Nat.reduceLeDiff, Nat.reduceLT, ne_eq, reduceCtorEq, Int.reduceBEq, Int.reduceBNe, Int.reduceAdd, Int.reduceSub, Int.reduceMul, Int.reduceTDiv, Int.reduceTMod, Int.reduceNeg, En.bitN, Nat.testBit, Nat.reduceShiftRight, Nat.reduceShiftLeft, Nat.reduceAnd, Nat.reduceOr, Nat.reduceBNe, Int.reduceToNat, Nat.reduceSub, Int.reduceLE, Int.reduceLT] at hv
  simp only [En.at_nil, En.at_cons, En.ag_nil, En.ag_cons, and_true, tlUt, glUt0, tyInt, tyI64, tyU8, tyUint, tyBool, tyStr, tyErr, tyBytes, tyI5] at hT hG
  obtain ⟨e2, e3, e4⟩ := lit_shift
  simp (maxSteps := 10000000) only [En.E, En.evsC, List.map_cons, List.map_nil, Nat.reduceBEq, Nat.reduceAdd, Nat.reduceMul, Nat.reduceEqDiff, Nat.reduceLeDiff, Nat.reduceLT, ne_eq, reduceCtorEq, Int.reduceBEq, Int.reduceBNe, Int.reduceAdd, Int.reduceSub, Int.reduceMul, Int.reduceTDiv, Int.reduceTMod, Int.reduceNeg, En.bitN, Nat.testBit, Nat.reduceShiftRight, Nat.reduceShiftLeft, Nat.reduceAnd, Nat.reduceOr, Nat.reduceBNe, Int.reduceToNat, Nat.reduceSub, Int.reduceLE, Int.reduceLT, En.vV, hs, hv, hT, hG, hF, plS]
  clear hL hF hs hR hI hJ hW hv hT hG
  simp only [e2, e3, e4, byt, numV] at *
  simp [En.inr, En.lo, En.hi]
  split at hq <;> omega
set_option maxRecDepth 100000 in
set_option maxHeartbeats 4000000 in
theorem number2_any (a b : Int) (ha : byt a) (hb : byt b) (A : Option Addr) (cv cc : Nat) (w : World) (h : Hold w.heap.size w (.ints A cc .u8 [a, b])) :
    Calls Tryz.prog 160 #[.slice A 2 cv] w fun e w' => e = .returned (.int .i64 (numV [a, b])) ∧ Below w.heap.size w w' := by
  obtain ⟨q, hq⟩ : ∃ q, q = numV [a, b] := ⟨_, rfl⟩
  rw [← hq]
  refine calls_go (args := [.g 1000 A 2 cv]) (hp := [(1000, .ints A cc .u8 [a, b])]) (nx := 1001) (n := 1500) (U := [(4, 4), (10, 4)]) (V := []) (tl := tlUt) (gl := glUt0) (post := fun s ys => ys = [.v (.int .i64 q)])
    followP tlUt_ok glUt0_ok Tryz.func160 rfl (by kernel_rfl) (Nat.le_of_ble_eq_true (by kernel_rfl)) (by kernel_rfl) (by kernel_rfl) (hh_list ⟨⟨h, rfl⟩, trivial⟩) (free_list (by simp [allLt])) ?_ ?_
  · rintro s ys w' rfl H
    exact ⟨rfl, H.below⟩
  intro L F T G nd va hE
  obtain ⟨hL, hF, hs, hv, hT, hG, hR, hI, hJ, hW⟩ := hE
  rw [Tryz.results160] at hF
  simp (maxSteps := 1000000) only [En.nN, En.E, En.evsC, List.map_cons, List.map_nil, Nat.reduceBEq, Nat.reduceAdd, Nat.reduceMul, Nat.reduceEqDiff, Nat.reduceLeDiff, Nat.reduceLT, ne_eq, reduceCtorEq, Int.reduceBEq, Int.reduceBNe, Int.reduceAdd, Int.reduceSub, Int.reduceMul, Int.reduceTDiv, Int.reduceTMod, Int.reduceNeg, En.bitN, Nat.testBit, Nat.reduceShiftRight, Nat.reduceShiftLeft, Nat.reduceAnd, Nat.reduceOr, Nat.reduceBNe, Int.reduceToNat, Nat.reduceSub, Int.reduceLE, Int.reduceLT] at hv
  simp only [En.at_nil, En.at_cons, En.ag_nil, En.ag_cons, and_true, tlUt, glUt0, tyInt, tyI64, tyU8, tyUint, tyBool, tyStr, tyErr, tyBytes, tyI5] at hT hG
  obtain ⟨e2, e3, e4⟩ := lit_shift
  simp (maxSteps := 10000000) only [En.E, En.evsC, List.map_cons, List.map_nil, Nat.reduceBEq, Nat.reduceAdd, Nat.reduceMul, Nat.reduceEqDiff, Nat.reduceLeDiff, Nat.reduceLT, ne_eq, reduceCtorEq, Int.reduceBEq, Int.reduceBNe, Int.reduceAdd, Int.reduceSub, Int.reduceMul, Int.reduceTDiv, Int.reduceTMod, Int.reduceNeg, En.bitN, Nat.testBit, Nat.reduceShiftRight, Nat.reduceShiftLeft, Nat.reduceAnd, Nat.reduceOr, Nat.reduceBNe, Int.reduceToNat, Nat.reduceSub, Int.reduceLE, Int.reduceLT, En.vV, hs, hv, hT, hG, hF, plS]
  clear hL hF hs hR hI hJ hW hv hT hG
  simp only [e2, e3, e4, byt, numV] at *
  simp [En.inr, En.lo, En.hi]
  split at hq <;> omega
set_option maxRecDepth 100000 in
set_option maxHeartbeats 4000000 in
theorem number3_any (a b c : Int) (ha : byt a) (hb : byt b) (hc : byt c) (A : Option Addr) (cv cc : Nat) (w : World) (h : Hold w.heap.size w (.ints A cc .u8 [a, b, c])) :
    Calls Tryz.prog 160 #[.slice A 3 cv] w fun e w' => e = .returned (.int .i64 (numV [a, b, c])) ∧ Below w.heap.size w w' := by
  obtain ⟨q, hq⟩ : ∃ q, q = numV [a, b, c] := ⟨_, rfl⟩
  rw [← hq]
  refine calls_go (args := [.g 1000 A 3 cv]) (hp := [(1000, .ints A cc .u8 [a, b, c])]) (nx := 1001) (n := 1500) (U := [(4, 4), (10, 4)]) (V := []) (tl := tlUt) (gl := glUt0) (post := fun s ys => ys = [.v (.int .i64 q)])
    followP tlUt_ok glUt0_ok Tryz.func160 rfl (by kernel_rfl) (Nat.le_of_ble_eq_true (by kernel_rfl)) (by kernel_rfl) (by kernel_rfl) (hh_list ⟨⟨h, rfl⟩, trivial⟩) (free_list (by simp [allLt])) ?_ ?_
  · rintro s ys w' rfl H
    exact ⟨rfl, H.below⟩
  intro L F T G nd va hE
  obtain ⟨hL, hF, hs, hv, hT, hG, hR, hI, hJ, hW⟩ := hE
  rw [Tryz.results160] at hF
  simp (maxSteps := 1000000) only [En.nN, En.E, En.evsC, List.map_cons, List.map_nil, Nat.reduceBEq, Nat.reduceAdd, Nat.reduceMul, Nat.reduceEqDiff, Nat.reduceLeDiff, Nat.reduceLT, ne_eq, reduceCtorEq, Int.reduceBEq, Int.reduceBNe, Int.reduceAdd, Int.reduceSub, Int.reduceMul, Int.reduceTDiv, Int.reduceTMod, Int.reduceNeg, En.bitN, Nat.testBit, Nat.reduceShiftRight, Nat.reduceShiftLeft, Nat.reduceAnd, Nat.reduceOr, Nat.reduceBNe, Int.reduceToNat, Nat.reduceSub, Int.reduceLE, Int.reduceLT] at hv
  simp only [En.at_nil, En.at_cons, En.ag_nil, En.ag_cons, and_true, tlUt, glUt0, tyInt, tyI64, tyU8, tyUint, tyBool, tyStr, tyErr, tyBytes, tyI5] at hT hG
  obtain ⟨e2, e3, e4⟩ := lit_shift
  simp (maxSteps := 10000000) only [En.E, En.evsC, List.map_cons, List.map_nil, Nat.reduceBEq, Nat.reduceAdd, Nat.reduceMul, Nat.reduceEqDiff, Nat.reduceLeDiff, Nat.reduceLT, ne_eq, reduceCtorEq, Int.reduceBEq, Int.reduceBNe, Int.reduceAdd, Int.reduceSub, Int.reduceMul, Int.reduceTDiv, Int.reduceTMod, Int.reduceNeg, En.bitN, Nat.testBit, Nat.reduceShiftRight, Nat.reduceShiftLeft, Nat.reduceAnd, Nat.reduceOr, Nat.reduceBNe, Int.reduceToNat, Nat.reduceSub, Int.reduceLE, Int.reduceLT, En.vV, hs, hv, hT, hG, hF, plS]
  clear hL hF hs hR hI hJ hW hv hT hG
  simp only [e2, e3, e4, byt, numV] at *
  simp [En.inr, En.lo, En.hi]
  split at hq <;> omega
set_option maxRecDepth 100000 in
set_option maxHeartbeats 4000000 in
theorem number4_any (a b c d : Int) (ha : byt a) (hb : byt b) (hc : byt c) (hd : byt d) (A : Option Addr) (cv cc : Nat) (w : World) (h : Hold w.heap.size w (.ints A cc .u8 [a, b, c, d])) :
    Calls Tryz.prog 160 #[.slice A 4 cv] w fun e w' => e = .returned (.int .i64 (numV [a, b, c, d])) ∧ Below w.heap.size w w' := by
  obtain ⟨q, hq⟩ : ∃ q, q = numV [a, b, c, d] := ⟨_, rfl⟩
  rw [← hq]
  refine calls_go (args := [.g 1000 A 4 cv]) (hp := [(1000, .ints A cc .u8 [a, b, c, d])]) (nx := 1001) (n := 1500) (U := [(4, 4), (10, 4)]) (V := []) (tl := tlUt) (gl := glUt0) (post := fun s ys => ys = [.v (.int .i64 q)])
    followP tlUt_ok glUt0_ok Tryz.func160 rfl (by kernel_rfl) (Nat.le_of_ble_eq_true (by kernel_rfl)) (by kernel_rfl) (by kernel_rfl) (hh_list ⟨⟨h, rfl⟩, trivial⟩) (free_list (by simp [allLt])) ?_ ?_
  · rintro s ys w' rfl H
    exact ⟨rfl, H.below⟩
  intro L F T G nd va hE
  obtain ⟨hL, hF, hs, hv, hT, hG, hR, hI, hJ, hW⟩ := hE
  rw [Tryz.results160] at hF
  simp (maxSteps := 1000000) only [En.nN, En.E, En.evsC, List.map_cons, List.map_nil, Nat.reduceBEq, Nat.reduceAdd, Nat.reduceMul, Nat.reduceEqDiff, Nat.reduceLeDiff, Nat.reduceLT, ne_eq, reduceCtorEq, Int.reduceBEq, Int.reduceBNe, Int.reduceAdd, Int.reduceSub, Int.reduceMul, Int.reduceTDiv, Int.reduceTMod, Int.reduceNeg, En.bitN, Nat.testBit, Nat.reduceShiftRight, Nat.reduceShiftLeft, Nat.reduceAnd, Nat.reduceOr, Nat.reduceBNe, Int.reduceToNat, Nat.reduceSub, Int.reduceLE, Int.reduceLT] at hv
  simp only [En.at_nil, En.at_cons, En.ag_nil, En.ag_cons, and_true, tlUt, glUt0, tyInt, tyI64, tyU8, tyUint, tyBool, tyStr, tyErr, tyBytes, tyI5] at hT hG
  obtain ⟨e2, e3, e4⟩ := lit_shift
  simp (maxSteps := 10000000) only [En.E, En.evsC, List.map_cons, List.map_nil, Nat.reduceBEq, Nat.reduceAdd, Nat.reduceMul, Nat.reduceEqDiff, Nat.reduceLeDiff, Nat.reduceLT, ne_eq, reduceCtorEq, Int.reduceBEq, Int.reduceBNe, Int.reduceAdd, Int.reduceSub, Int.reduceMul, Int.reduceTDiv, Int.reduceTMod, Int.reduceNeg, En.bitN, Nat.testBit, Nat.reduceShiftRight, Nat.reduceShiftLeft, Nat.reduceAnd, Nat.reduceOr, Nat.reduceBNe, Int.reduceToNat, Nat.reduceSub, Int.reduceLE, Int.reduceLT, En.vV, hs, hv, hT, hG, hF, plS]
  clear hL hF hs hR hI hJ hW hv hT hG
  simp only [e2, e3, e4, byt, numV] at *
  simp [En.inr, En.lo, En.hi]
  split at hq <;> omega
def numR (A : Option Addr) (n : Nat) : Ch → Res
  | .ints A' _ .u8 xs => .is (A = A' ∧ n = xs.length ∧ 1 ≤ n ∧ n ≤ 4 ∧ ∀ x ∈ xs, byt x) (.v (.int .i64 (numV xs)))
  | _ => .bad
def spNumber : Spc
  | [.g key A n _], H, _ => numR A n (H key)
  | _, _, _ => .bad
theorem spNumber_q {key n c : Nat} {A : Option Addr} {H : Nat → Ch} {nx : Nat} : spNumber [.g key A n c] H nx = numR A n (H key) := (rfl)
theorem numR_q {A A' : Option Addr} {n c : Nat} {xs : List Int} : numR A n (.ints A' c .u8 xs) = .is (A = A' ∧ n = xs.length ∧ 1 ≤ n ∧ n ≤ 4 ∧ ∀ x ∈ xs, byt x) (.v (.int .i64 (numV xs))) := (rfl)
theorem spNumber_ok : SpecOk Tryz.prog 160 spNumber := by
  intro args hp nx w0 O w H hv
  unfold spNumber at hv ⊢
  split at hv
  · next key A n c =>
    have hk := H.hold key
    unfold numR at hv ⊢
    split at hv
    · next A' c' xs e =>
      rw [e] at hk
      obtain ⟨rfl, rfl, h1, h2, h3⟩ := hv
      have go : Calls Tryz.prog 160 (dens [.g key A xs.length c]).toArray w fun e w' => e = .returned (.int .i64 (numV xs)) ∧ Below w.heap.size w w' := by
        match xs, h1, h2, h3, hk with
        | [a], _, _, h3, hk => exact number1_any a (h3 a (by simp)) A c c' w hk
        | [a, b], _, _, h3, hk => exact number2_any a b (h3 a (by simp)) (h3 b (by simp)) A c c' w hk
        | [a, b, d], _, _, h3, hk => exact number3_any a b d (h3 a (by simp)) (h3 b (by simp)) (h3 d (by simp)) A c c' w hk
        | [a, b, d, f], _, _, h3, hk => exact number4_any a b d f (h3 a (by simp)) (h3 b (by simp)) (h3 d (by simp)) (h3 f (by simp)) A c c' w hk
        | _ :: _ :: _ :: _ :: _ :: _, _, h2, _, _ => simp at h2
      refine go.mono ?_
      rintro e w' ⟨rfl, hb⟩
      exact ⟨⟨0, none, 0, none, 0, mz⟩, rfl, .still hb⟩
    · exact hv.elim
  · exact hv.elim
def encL (r : Int) : List Int :=
  if r < 128 then [r] else if r < 2048 then [192 + r / 64, 128 + r % 64] else if r < 65536 then [224 + r / 4096, 128 + r / 64 % 64, 128 + r % 64] else [240 + r / 262144, 128 + r / 4096 % 64, 128 + r / 64 % 64, 128 + r % 64]
theorem isR_iff {r : Int} : isR r = true ↔ (0 ≤ r ∧ r ≤ 1114111) ∧ (r < 55296 ∨ 57343 < r) := by
  unfold isR; simp
theorem encL_ok {r : Int} (h : isR r = true) : (∀ x ∈ encL r, byt x) ∧ 1 ≤ (encL r).length ∧ (encL r).length ≤ 4 := by
  obtain ⟨⟨h0, h1⟩, _⟩ := isR_iff.1 h
  unfold encL byt
  split
  · simp; omega
  · split
    · simp; omega
    · split
      · simp; omega
      · simp; omega
def glUt1 : List (FuncId × Spc) := [(161, spIsR)]
theorem glUt1_ok : GOk Tryz.prog (lookG glUt1) := lG_cons (by kernel_rfl) spIsR_ok lG_nil
def EncPost (r : Int) (s : SS) (ys : List SV) : Prop := ∃ key b cs t, ys = [.gp key b 0 (encL r).length (encL r).length, .v (.int .i64 0)] ∧ lookH s.hp key = .blk b cs t ∧ numsU cs = some (encL r)
theorem encode_any (r : Int) (hr : isR r = true) (w : World) :
    Calls Tryz.prog 162 #[.int .i64 r] w fun e w' => ∃ s ys, e = .returned (oneV ys) ∧ EncPost r s ys ∧ HH w (oldOf []) s.hp w' := by
  refine calls_go (args := [.v (.int .i64 r)]) (hp := []) (nx := 1000) (n := 800) (U := []) (V := []) (tl := tlUt) (gl := glUt1) (post := EncPost r)
    followP tlUt_ok glUt1_ok Tryz.func162 rfl (by kernel_rfl) (Nat.le_of_ble_eq_true (by kernel_rfl)) (by kernel_rfl) (by kernel_rfl) (hh_list trivial) (fun _ _ => rfl) ?_ ?_
  · exact fun s xs w' h H => ⟨s, xs, rfl, h, H⟩
  intro L F T G nd va hE
  obtain ⟨hL, hF, hs, hv, hT, hG, hR, hI, hJ, hW⟩ := hE
  rw [Tryz.results162] at hF
  simp (maxSteps := 1000000) only [En.nN, En.E, En.evsC, List.map_cons, List.map_nil, Nat.reduceBEq, Nat.reduceAdd, Nat.reduceMul, Nat.reduceEqDiff, Nat.reduceLeDiff, Nat.reduceLT, ne_eq, reduceCtorEq, Int.reduceBEq, Int.reduceBNe, Int.reduceAdd, Int.reduceSub, Int.reduceMul, Int.reduceTDiv, Int.reduceTMod, Int.reduceNeg, En.bitN, Nat.testBit, Nat.reduceShiftRight, Nat.reduceShiftLeft, Nat.reduceAnd, Nat.reduceOr, Nat.reduceBNe, Int.reduceToNat, Nat.reduceSub, Int.reduceLE, Int.reduceLT] at hv
  simp only [En.at_nil, En.at_cons, En.ag_nil, En.ag_cons, and_true, tlUt, glUt1, tyInt, tyI64, tyU8, tyUint, tyBool, tyStr, tyErr, tyBytes, tyI5] at hT hG
  obtain ⟨⟨h0, h1⟩, _⟩ := isR_iff.1 hr
  simp (maxSteps := 10000000) only [En.E, En.evsC, List.map_cons, List.map_nil, Nat.reduceBEq, Nat.reduceAdd, Nat.reduceMul, Nat.reduceEqDiff, Nat.reduceLeDiff, Nat.reduceLT, ne_eq, reduceCtorEq, Int.reduceBEq, Int.reduceBNe, Int.reduceAdd, Int.reduceSub, Int.reduceMul, Int.reduceTDiv, Int.reduceTMod, Int.reduceNeg, En.bitN, Nat.testBit, Nat.reduceShiftRight, Nat.reduceShiftLeft, Nat.reduceAnd, Nat.reduceOr, Nat.reduceBNe, Int.reduceToNat, Nat.reduceSub, Int.reduceLE, Int.reduceLT, En.vV, hs, hv, hT, hG, hF, spIsR_q, hr]
  have t1 : r.tdiv 64 = r / 64 := Int.tdiv_eq_ediv_of_nonneg h0
  have t2 : r.tdiv 4096 = r / 4096 := Int.tdiv_eq_ediv_of_nonneg h0
  have t3 : r.tdiv 262144 = r / 262144 := Int.tdiv_eq_ediv_of_nonneg h0
  have m1 : r.tmod 64 = r % 64 := Int.tmod_eq_emod_of_nonneg h0
  have m2 : (r / 64).tmod 64 = r / 64 % 64 := Int.tmod_eq_emod_of_nonneg (by omega)
  have m3 : (r / 4096).tmod 64 = r / 4096 % 64 := Int.tmod_eq_emod_of_nonneg (by omega)
  clear hL hF hs hR hI hJ hW hv hT hG
  simp only [t1, t2, t3, m1, m2, m3]
  refine ⟨fun d1 => ⟨?_, fun b => ?_⟩, fun d1 => ⟨fun d2 => ⟨⟨by decide, ?_⟩, ?_, ?_, by decide, ?_, ?_, fun b => ?_⟩, fun d2 => ⟨fun d3 => ⟨⟨by decide, ?_⟩, ?_, ?_, ⟨by decide, ?_⟩, by decide, ?_, ?_, by decide, ?_, ?_, fun b => ?_⟩, fun d3 => ⟨⟨by decide, ?_⟩, ?_, ?_, ⟨by decide, ?_⟩, by decide, ?_, ?_, ⟨by decide, ?_⟩, by decide, ?_, ?_, by decide, ?_, ?_, fun b => ?_⟩⟩⟩⟩
  all_goals first | (simp only [decide_eq_true_eq, decide_eq_false_iff_not] at *; simp only [En.inr, En.lo, En.hi]; omega) | skip
  all_goals
    simp only [decide_eq_true_eq, decide_eq_false_iff_not] at *
    first
    | (have he : encL r = [r] := if_pos d1
       exact ⟨1000, b, _, _, by rw [he]; rfl, rfl, by rw [he]; rfl⟩)
    | (have he : encL r = [192 + r / 64, 128 + r % 64] := by rw [encL, if_neg d1, if_pos d2]
       exact ⟨1000, b, _, _, by rw [he]; rfl, rfl, by rw [he]; rfl⟩)
    | (have he : encL r = [224 + r / 4096, 128 + r / 64 % 64, 128 + r % 64] := by rw [encL, if_neg d1, if_neg d2, if_pos d3]
       exact ⟨1000, b, _, _, by rw [he]; rfl, rfl, by rw [he]; rfl⟩)
    | (have he : encL r = [240 + r / 262144, 128 + r / 4096 % 64, 128 + r / 64 % 64, 128 + r % 64] := by rw [encL, if_neg d1, if_neg d2, if_neg d3]
       exact ⟨1000, b, _, _, by rw [he]; rfl, rfl, by rw [he]; rfl⟩)
theorem numsU_len {cs : List SV} {xs : List Int} (h : numsU cs = some xs) : cs.length = xs.length := by
  have := congrArg List.length (numsU_map h)
  rw [dens_len] at this
  simpa using this
def spEncode : Spc
  | [.v (.int .i64 r)], _, nx => .val (isR r = true) fun A c => (.tup [.g nx A (encL r).length c, .v (.int .i64 0)], [(nx, .ints A c .u8 (encL r))])
  | _, _, _ => .bad
theorem spEncode_q {r : Int} {H : Nat → Ch} {nx : Nat} : spEncode [.v (.int .i64 r)] H nx = .val (isR r = true) fun A c => (.tup [.g nx A (encL r).length c, .v (.int .i64 0)], [(nx, .ints A c .u8 (encL r))]) := (rfl)
theorem spEncode_ok : SpecOk Tryz.prog 162 spEncode := by
  intro args hp nx w0 O w H hv
  unfold spEncode at hv ⊢
  split at hv
  · next nx r =>
    have hv : isR r = true := hv
    refine (encode_any r hv w).mono ?_
    rintro e w' ⟨s, ys, rfl, ⟨key, b, cs, t, rfl, hk, hn⟩, HS⟩
    have hh := HS.hold key
    rw [hk] at hh
    have hl := numsU_len hn
    have hc := blk_cells hh
    refine ⟨⟨0, some ⟨b, 0, none⟩, (encL r).length, none, 0, mz⟩, by simp [oneV, Res.out, den, dens], Stp.one (c := .ints (some ⟨b, 0, none⟩) (encL r).length .u8 (encL r)) HS.below ?_ ?_⟩
    · refine hc.sl (by rw [dens_len, hl]) (Nat.le_refl _) fun i hi => ?_
      rw [numsU_map hn]
      simp [List.getD, fI, hi]
    · rintro q ⟨_, a, e, rfl⟩
      cases e
      exact .inl hh.1
  · exact hv.elim
def standsV (xs : List Int) : Int × Bool := if isR (numV xs) = true then (numV xs, (strOfNums xs).toList == (strOfNums (encL (numV xs))).toList) else (0, false)
def glUt2 : List (FuncId × Spc) := [(160, spNumber), (161, spIsR), (162, spEncode)]
theorem glUt2_ok : GOk Tryz.prog (lookG glUt2) := lG_cons (by kernel_rfl) spNumber_ok <| lG_cons (by kernel_rfl) spIsR_ok <| lG_cons (by kernel_rfl) spEncode_ok lG_nil
theorem stands_any (xs : List Int) (h1 : 1 ≤ xs.length) (h2 : xs.length ≤ 4) (hb : ∀ x ∈ xs, byt x) (A : Option Addr) (cv cc : Nat) (w : World) (h : Hold w.heap.size w (.ints A cc .u8 xs)) :
    Calls Tryz.prog 118 #[.slice A xs.length cv] w fun e w' => e = .returned (.tuple #[.int .i64 (standsV xs).1, .bool (standsV xs).2]) ∧ Below w.heap.size w w' := by
  obtain ⟨q, hq⟩ : ∃ q, q = standsV xs := ⟨_, rfl⟩
  rw [← hq]
  refine calls_go (args := [.g 1000 A xs.length cv]) (hp := [(1000, .ints A cc .u8 xs)]) (nx := 1001) (n := 800) (U := []) (V := []) (tl := tlUt) (gl := glUt2) (post := fun s ys => ys = [.v (.int .i64 q.1), .v (.bool q.2)])
    followP tlUt_ok glUt2_ok Tryz.func118 rfl (by kernel_rfl) (Nat.le_of_ble_eq_true (by kernel_rfl)) (by kernel_rfl) (by kernel_rfl) (hh_list ⟨⟨h, rfl⟩, trivial⟩) (free_list (by simp [allLt])) ?_ ?_
  · rintro s ys w' rfl H
    exact ⟨rfl, H.below⟩
  intro L F T G nd va hE
  obtain ⟨hL, hF, hs, hv, hT, hG, hR, hI, hJ, hW⟩ := hE
  rw [Tryz.results118] at hF
  simp (maxSteps := 1000000) only [En.nN, En.E, En.evsC, List.map_cons, List.map_nil, Nat.reduceBEq, Nat.reduceAdd, Nat.reduceMul, Nat.reduceEqDiff, Nat.reduceLeDiff, Nat.reduceLT, ne_eq, reduceCtorEq, Int.reduceBEq, Int.reduceBNe, Int.reduceAdd, Int.reduceSub, Int.reduceMul, Int.reduceTDiv, Int.reduceTMod, Int.reduceNeg, En.bitN, Nat.testBit, Nat.reduceShiftRight, Nat.reduceShiftLeft, Nat.reduceAnd, Nat.reduceOr, Nat.reduceBNe, Int.reduceToNat, Nat.reduceSub, Int.reduceLE, Int.reduceLT] at hv
  simp only [En.at_nil, En.at_cons, En.ag_nil, En.ag_cons, and_true, tlUt, glUt2, tyInt, tyI64, tyU8, tyUint, tyBool, tyStr, tyErr, tyBytes, tyI5] at hT hG
  unfold standsV at hq
  cases hr : isR (numV xs)
  · rw [if_neg (by rw [hr]; decide)] at hq
    simp (maxSteps := 10000000) only [En.E, En.evsC, List.map_cons, List.map_nil, Nat.reduceBEq, Nat.reduceAdd, Nat.reduceMul, Nat.reduceEqDiff, Nat.reduceLeDiff, Nat.reduceLT, ne_eq, reduceCtorEq, Int.reduceBEq, Int.reduceBNe, Int.reduceAdd, Int.reduceSub, Int.reduceMul, Int.reduceTDiv, Int.reduceTMod, Int.reduceNeg, En.bitN, Nat.testBit, Nat.reduceShiftRight, Nat.reduceShiftLeft, Nat.reduceAnd, Nat.reduceOr, Nat.reduceBNe, Int.reduceToNat, Nat.reduceSub, Int.reduceLE, Int.reduceLT, En.vV, hs, hv, hT, hG, hF, spNumber_q, numR_q, spIsR_q, spEncode_q, h1, h2, hr]
    exact ⟨hb, by rw [hq]⟩
  · rw [if_pos hr] at hq
    simp (maxSteps := 10000000) only [En.E, En.evsC, List.map_cons, List.map_nil, Nat.reduceBEq, Nat.reduceAdd, Nat.reduceMul, Nat.reduceEqDiff, Nat.reduceLeDiff, Nat.reduceLT, ne_eq, reduceCtorEq, Int.reduceBEq, Int.reduceBNe, Int.reduceAdd, Int.reduceSub, Int.reduceMul, Int.reduceTDiv, Int.reduceTMod, Int.reduceNeg, En.bitN, Nat.testBit, Nat.reduceShiftRight, Nat.reduceShiftLeft, Nat.reduceAnd, Nat.reduceOr, Nat.reduceBNe, Int.reduceToNat, Nat.reduceSub, Int.reduceLE, Int.reduceLT, En.vV, hs, hv, hT, hG, hF, spNumber_q, numR_q, spIsR_q, spEncode_q, h1, h2, hr]
    exact ⟨hb, by rw [hq]⟩
def standsB (A A' : Option Addr) (n : Nat) : Option (List Int) → Res
  | some xs => .is (A = A' ∧ n = xs.length ∧ 1 ≤ n ∧ n ≤ 4 ∧ ∀ x ∈ xs, byt x) (.tup [.v (.int .i64 (standsV xs).1), .v (.bool (standsV xs).2)])
  | none => .bad
def standsR (A : Option Addr) (n : Nat) : Ch → Res
  | .ints A' _ .u8 xs => standsB A A' n (some xs)
  | .rowV A' _ _ 1 m cs => convG.addVc' (n = m ∧ cs.length = n) (standsB A A' n (numsU cs))
  | _ => .bad
def spStands : Spc
  | [.g key A n _], H, _ => standsR A n (H key)
  | _, _, _ => .bad
theorem spStands_q {key n c : Nat} {A : Option Addr} {H : Nat → Ch} {nx : Nat} : spStands [.g key A n c] H nx = standsR A n (H key) := (rfl)
theorem standsR_q {A A' : Option Addr} {n c : Nat} {xs : List Int} : standsR A n (.ints A' c .u8 xs) = standsB A A' n (some xs) := (rfl)
theorem standsR_r {A A' : Option Addr} {n c m : Nat} {e : TypeId} {cs : List SV} : standsR A n (.rowV A' c e 1 m cs) = convG.addVc' (n = m ∧ cs.length = n) (standsB A A' n (numsU cs)) := (rfl)
theorem standsB_q {A A' : Option Addr} {n : Nat} {xs : List Int} : standsB A A' n (some xs) = .is (A = A' ∧ n = xs.length ∧ 1 ≤ n ∧ n ≤ 4 ∧ ∀ x ∈ xs, byt x) (.tup [.v (.int .i64 (standsV xs).1), .v (.bool (standsV xs).2)]) := (rfl)
theorem spStands_ok : SpecOk Tryz.prog 118 spStands := by
  intro args hp nx w0 O w H hv
  unfold spStands at hv ⊢
  split at hv
  · next key A n c =>
    have hk := H.hold key
    unfold standsR at hv ⊢
    split at hv
    · next A' c' xs e =>
      rw [e] at hk
      obtain ⟨rfl, rfl, h1, h2, h3⟩ := hv
      refine (stands_any xs h1 h2 h3 A c c' w hk).mono ?_
      rintro e w' ⟨rfl, hb⟩
      exact ⟨⟨0, none, 0, none, 0, mz⟩, rfl, .still hb⟩
    · next A' c' e' m cs e =>
      rw [e] at hk
      cases hn : numsU cs with
      | none => rw [hn] at hv; exact hv.elim
      | some xs =>
        rw [hn] at hv
        obtain ⟨⟨rfl, hl⟩, rfl, rfl, h1, h2, h3⟩ := hv
        have hs := row_sl hk
        have hh : Hold w.heap.size w (.ints A c' .u8 xs) := by
          refine hs.congr fun i hi j hj => ?_
          have : j = 0 := by omega
          subst this
          rw [numsU_map hn]; simp [List.getD, fI, hi]
        refine (stands_any xs h1 h2 h3 A c c' w hh).mono ?_
        rintro e w' ⟨rfl, hb⟩
        exact ⟨⟨0, none, 0, none, 0, mz⟩, rfl, .still hb⟩
    · exact hv.elim
  · exact hv.elim
def glUt3 : List (FuncId × Spc) := [(118, spStands)]
theorem glUt3_ok : GOk Tryz.prog (lookG glUt3) := lG_cons (by kernel_rfl) spStands_ok lG_nil
theorem ifB_st {R : List It → SS → Prop} {c c3 : Code} {k : List It} {s : SS} {xs : List Int} : ifB R c c3 k s (standsV xs).2 = (((standsV xs).2 = true → R (.code c :: k) s) ∧ ((standsV xs).2 = false → R (.code c3 :: k) s)) := (rfl)
set_option maxRecDepth 100000 in
set_option maxHeartbeats 4000000 in
theorem begins1_any (a : Int) (ha : byt a) (A : Option Addr) (cv cc : Nat) (w : World) (h : Hold w.heap.size w (.ints A cc .u8 [a])) :
    Calls Tryz.prog 119 #[.slice A 1 cv] w fun e w' => (∃ p, e = .returned (.bool p)) ∧ Below w.heap.size w w' := by
  refine calls_go (args := [.g 1000 A 1 cv]) (hp := [(1000, .ints A cc .u8 [a])]) (nx := 1001) (n := 1500) (U := [(12, 3), (15, 4)]) (V := []) (tl := tlUt) (gl := glUt3) (post := fun s ys => ∃ p, ys = [.v (.bool p)])
    followP tlUt_ok glUt3_ok Tryz.func119 rfl (by kernel_rfl) (Nat.le_of_ble_eq_true (by kernel_rfl)) (by kernel_rfl) (by kernel_rfl) (hh_list ⟨⟨h, rfl⟩, trivial⟩) (free_list (by simp [allLt])) ?_ ?_
  · rintro s ys w' ⟨p, rfl⟩ H
    exact ⟨⟨p, rfl⟩, H.below⟩
  intro L F T G nd va hE
  obtain ⟨hL, hF, hs, hv, hT, hG, hR, hI, hJ, hW⟩ := hE
  rw [Tryz.results119] at hF
  simp (maxSteps := 1000000) only [En.nN, En.E, En.evsC, List.map_cons, List.map_nil, Nat.reduceBEq, Nat.reduceAdd, Nat.reduceMul, Nat.reduceEqDiff, Nat.reduceLeDiff, Nat.reduceLT, ne_eq, reduceCtorEq, Int.reduceBEq, Int.reduceBNe, Int.reduceAdd, Int.reduceSub, Int.reduceMul, Int.reduceTDiv, Int.reduceTMod, Int.reduceNeg, En.bitN, Nat.testBit, Nat.reduceShiftRight, Nat.reduceShiftLeft, Nat.reduceAnd, Nat.reduceOr, Nat.reduceBNe, Int.reduceToNat, Nat.reduceSub, Int.reduceLE, Int.reduceLT] at hv
  simp only [En.at_nil, En.at_cons, En.ag_nil, En.ag_cons, and_true, tlUt, glUt3, tyInt, tyI64, tyU8, tyUint, tyBool, tyStr, tyErr, tyBytes, tyI5] at hT hG
  simp (maxSteps := 10000000) only [En.E, En.evsC, List.map_cons, List.map_nil, Nat.reduceBEq, Nat.reduceAdd, Nat.reduceMul, Nat.reduceEqDiff, Nat.reduceLeDiff, Nat.reduceLT, ne_eq, reduceCtorEq, Int.reduceBEq, Int.reduceBNe, Int.reduceAdd, Int.reduceSub, Int.reduceMul, Int.reduceTDiv, Int.reduceTMod, Int.reduceNeg, En.bitN, Nat.testBit, Nat.reduceShiftRight, Nat.reduceShiftLeft, Nat.reduceAnd, Nat.reduceOr, Nat.reduceBNe, Int.reduceToNat, Nat.reduceSub, Int.reduceLE, Int.reduceLT, En.vV, hs, hv, hT, hG, hF, plS, spStands_q, standsR_q, standsR_r, standsB_q, ifB_st]
  clear hL hF hs hR hI hJ hW hv hT hG
  simp only [byt] at *
  simp [En.inr, En.lo, En.hi]
  (try omega)
set_option maxRecDepth 100000 in
set_option maxHeartbeats 4000000 in
theorem begins2_any (a b : Int) (ha : byt a) (hb : byt b) (A : Option Addr) (cv cc : Nat) (w : World) (h : Hold w.heap.size w (.ints A cc .u8 [a, b])) :
    Calls Tryz.prog 119 #[.slice A 2 cv] w fun e w' => (∃ p, e = .returned (.bool p)) ∧ Below w.heap.size w w' := by
  refine calls_go (args := [.g 1000 A 2 cv]) (hp := [(1000, .ints A cc .u8 [a, b])]) (nx := 1001) (n := 1500) (U := [(12, 3), (15, 4)]) (V := []) (tl := tlUt) (gl := glUt3) (post := fun s ys => ∃ p, ys = [.v (.bool p)])
    followP tlUt_ok glUt3_ok Tryz.func119 rfl (by kernel_rfl) (Nat.le_of_ble_eq_true (by kernel_rfl)) (by kernel_rfl) (by kernel_rfl) (hh_list ⟨⟨h, rfl⟩, trivial⟩) (free_list (by simp [allLt])) ?_ ?_
  · rintro s ys w' ⟨p, rfl⟩ H
    exact ⟨⟨p, rfl⟩, H.below⟩
  intro L F T G nd va hE
  obtain ⟨hL, hF, hs, hv, hT, hG, hR, hI, hJ, hW⟩ := hE
  rw [Tryz.results119] at hF
  simp (maxSteps := 1000000) only [En.nN, En.E, En.evsC, List.map_cons, List.map_nil, Nat.reduceBEq, Nat.reduceAdd, Nat.reduceMul, Nat.reduceEqDiff, Nat.reduceLeDiff, Nat.reduceLT, ne_eq, reduceCtorEq, Int.reduceBEq, Int.reduceBNe, Int.reduceAdd, Int.reduceSub, Int.reduceMul, Int.reduceTDiv, Int.reduceTMod, Int.reduceNeg, En.bitN, Nat.testBit, Nat.reduceShiftRight, Nat.reduceShiftLeft, Nat.reduceAnd, Nat.reduceOr, Nat.reduceBNe, Int.reduceToNat, Nat.reduceSub, Int.reduceLE, Int.reduceLT] at hv
  simp only [En.at_nil, En.at_cons, En.ag_nil, En.ag_cons, and_true, tlUt, glUt3, tyInt, tyI64, tyU8, tyUint, tyBool, tyStr, tyErr, tyBytes, tyI5] at hT hG
  simp (maxSteps := 10000000) only [En.E, En.evsC, List.map_cons, List.map_nil, Nat.reduceBEq, Nat.reduceAdd, Nat.reduceMul, Nat.reduceEqDiff, Nat.reduceLeDiff, Nat.reduceLT, ne_eq, reduceCtorEq, Int.reduceBEq, Int.reduceBNe, Int.reduceAdd, Int.reduceSub, Int.reduceMul, Int.reduceTDiv, Int.reduceTMod, Int.reduceNeg, En.bitN, Nat.testBit, Nat.reduceShiftRight, Nat.reduceShiftLeft, Nat.reduceAnd, Nat.reduceOr, Nat.reduceBNe, Int.reduceToNat, Nat.reduceSub, Int.reduceLE, Int.reduceLT, En.vV, hs, hv, hT, hG, hF, plS, spStands_q, standsR_q, standsR_r, standsB_q, ifB_st]
  clear hL hF hs hR hI hJ hW hv hT hG
  simp only [byt] at *
  simp [En.inr, En.lo, En.hi]
  (try omega)
set_option maxRecDepth 100000 in
set_option maxHeartbeats 4000000 in
theorem begins3_any (a b c : Int) (ha : byt a) (hb : byt b) (hc : byt c) (A : Option Addr) (cv cc : Nat) (w : World) (h : Hold w.heap.size w (.ints A cc .u8 [a, b, c])) :
    Calls Tryz.prog 119 #[.slice A 3 cv] w fun e w' => (∃ p, e = .returned (.bool p)) ∧ Below w.heap.size w w' := by
  refine calls_go (args := [.g 1000 A 3 cv]) (hp := [(1000, .ints A cc .u8 [a, b, c])]) (nx := 1001) (n := 1500) (U := [(12, 3), (15, 4)]) (V := []) (tl := tlUt) (gl := glUt3) (post := fun s ys => ∃ p, ys = [.v (.bool p)])
    followP tlUt_ok glUt3_ok Tryz.func119 rfl (by kernel_rfl) (Nat.le_of_ble_eq_true (by kernel_rfl)) (by kernel_rfl) (by kernel_rfl) (hh_list ⟨⟨h, rfl⟩, trivial⟩) (free_list (by simp [allLt])) ?_ ?_
  · rintro s ys w' ⟨p, rfl⟩ H
    exact ⟨⟨p, rfl⟩, H.below⟩
  intro L F T G nd va hE
  obtain ⟨hL, hF, hs, hv, hT, hG, hR, hI, hJ, hW⟩ := hE
  rw [Tryz.results119] at hF
  simp (maxSteps := 1000000) only [En.nN, En.E, En.evsC, List.map_cons, List.map_nil, Nat.reduceBEq, Nat.reduceAdd, Nat.reduceMul, Nat.reduceEqDiff, Nat.reduceLeDiff, Nat.reduceLT, ne_eq, reduceCtorEq, Int.reduceBEq, Int.reduceBNe, Int.reduceAdd, Int.reduceSub, Int.reduceMul, Int.reduceTDiv, Int.reduceTMod, Int.reduceNeg, En.bitN, Nat.testBit, Nat.reduceShiftRight, Nat.reduceShiftLeft, Nat.reduceAnd, Nat.reduceOr, Nat.reduceBNe, Int.reduceToNat, Nat.reduceSub, Int.reduceLE, Int.reduceLT] at hv
  simp only [En.at_nil, En.at_cons, En.ag_nil, En.ag_cons, and_true, tlUt, glUt3, tyInt, tyI64, tyU8, tyUint, tyBool, tyStr, tyErr, tyBytes, tyI5] at hT hG
  simp (maxSteps := 10000000) only [En.E, En.evsC, List.map_cons, List.map_nil, Nat.reduceBEq, Nat.reduceAdd, Nat.reduceMul, Nat.reduceEqDiff, Nat.reduceLeDiff, Nat.reduceLT, ne_eq, reduceCtorEq, Int.reduceBEq, Int.reduceBNe, Int.reduceAdd, Int.reduceSub, Int.reduceMul, Int.reduceTDiv, Int.reduceTMod, Int.reduceNeg, En.bitN, Nat.testBit, Nat.reduceShiftRight, Nat.reduceShiftLeft, Nat.reduceAnd, Nat.reduceOr, Nat.reduceBNe, Int.reduceToNat, Nat.reduceSub, Int.reduceLE, Int.reduceLT, En.vV, hs, hv, hT, hG, hF, plS, spStands_q, standsR_q, standsR_r, standsB_q, ifB_st]
  clear hL hF hs hR hI hJ hW hv hT hG
  simp only [byt] at *
  simp [En.inr, En.lo, En.hi]
  (try omega)
def beginsR (A : Option Addr) (n : Nat) : Ch → Res
  | .ints A' _ .u8 xs => .val (A = A' ∧ n = xs.length ∧ 1 ≤ n ∧ n ≤ 3 ∧ ∀ x ∈ xs, byt x) fun _ c => (.v (.bool (c == 0)), [])
  | _ => .bad
def spBegins : Spc
  | [.g key A n _], H, _ => beginsR A n (H key)
  | _, _, _ => .bad
theorem spBegins_q {key n c : Nat} {A : Option Addr} {H : Nat → Ch} {nx : Nat} : spBegins [.g key A n c] H nx = beginsR A n (H key) := (rfl)
theorem beginsR_q {A A' : Option Addr} {n c : Nat} {xs : List Int} : beginsR A n (.ints A' c .u8 xs) = .val (A = A' ∧ n = xs.length ∧ 1 ≤ n ∧ n ≤ 3 ∧ ∀ x ∈ xs, byt x) fun _ c => (.v (.bool (c == 0)), []) := (rfl)
theorem spBegins_ok : SpecOk Tryz.prog 119 spBegins := by
  intro args hp nx w0 O w H hv
  unfold spBegins at hv ⊢
  split at hv
  · next key A n c =>
    have hk := H.hold key
    unfold beginsR at hv ⊢
    split at hv
    · next A' c' xs e =>
      rw [e] at hk
      obtain ⟨rfl, rfl, h1, h2, h3⟩ := hv
      have go : Calls Tryz.prog 119 (dens [.g key A xs.length c]).toArray w fun e w' => (∃ p, e = .returned (.bool p)) ∧ Below w.heap.size w w' := by
        match xs, h1, h2, h3, hk with
        | [a], _, _, h3, hk => exact begins1_any a (h3 a (by simp)) A c c' w hk
        | [a, b], _, _, h3, hk => exact begins2_any a b (h3 a (by simp)) (h3 b (by simp)) A c c' w hk
        | [a, b, d], _, _, h3, hk => exact begins3_any a b d (h3 a (by simp)) (h3 b (by simp)) (h3 d (by simp)) A c c' w hk
        | _ :: _ :: _ :: _ :: _, _, h2, _, _ => simp at h2
      refine go.mono ?_
      rintro e w' ⟨⟨p, rfl⟩, hb⟩
      refine ⟨⟨0, none, bif p then 0 else 1, none, 0, mz⟩, ?_, .still hb⟩
      cases p <;> rfl
    · exact hv.elim
  · exact hv.elim
def decF (xs : List Int) (i : Nat) : Nat → Nat → Option (Int × Nat)
  | 0, _ => none
  | f + 1, n => if i + n ≤ xs.length then (if (standsV ((xs.drop i).take n)).2 = true then some ((standsV ((xs.drop i).take n)).1, n) else decF xs i f (n + 1)) else none
def decV (xs : List Int) (i : Nat) : Option (Int × Nat) := decF xs i 4 1
def glUt4 : List (FuncId × Spc) := [(118, spStands), (119, spBegins)]
theorem glUt4_ok : GOk Tryz.prog (lookG glUt4) := lG_cons (by kernel_rfl) spStands_ok <| lG_cons (by kernel_rfl) spBegins_ok lG_nil
theorem ifB_nat {R : List It → SS → Prop} {c c3 : Code} {k : List It} {s : SS} {m n : Nat} : ifB R c c3 k s (m == n) = (((m == n) = true → R (.code c :: k) s) ∧ ((m == n) = false → R (.code c3 :: k) s)) := (rfl)
def DecPost (o : Option (Int × Nat)) (ys : List SV) : Prop :=
  match o with
  | some p => ys = [.v (.int .i64 p.1), .v (.int .i64 p.2), .v (.int .i64 0)]
  | none => ∃ e : Int, ys = [.v (.int .i64 0), .v (.int .i64 0), .v (.int .i64 e)] ∧ (e = 370 ∨ e = 6)
set_option maxRecDepth 100000 in
set_option maxHeartbeats 8000000 in
theorem decode_any (xs : List Int) (hb : ∀ x ∈ xs, byt x) (i : Nat) (hi : i < xs.length) (hz : xs.length ≤ 4611686018427387904) (A : Option Addr) (c : Nat) (w : World) (h : Hold w.heap.size w (.ints A c .u8 xs)) :
    Calls Tryz.prog 87 #[.slice A xs.length c, .int .i64 i] w fun e w' => ∃ ys, e = .returned (oneV ys) ∧ DecPost (decV xs i) ys ∧ Below w.heap.size w w' := by
  obtain ⟨o, ho⟩ : ∃ o, o = decV xs i := ⟨_, rfl⟩
  rw [← ho]
  refine calls_go (args := [.g 1000 A xs.length c, .v (.int .i64 i)]) (hp := [(1000, .ints A c .u8 xs)]) (nx := 1001) (n := 1500) (U := [(4, 5)]) (V := []) (tl := tlUt) (gl := glUt4) (post := fun s ys => DecPost o ys)
    followP tlUt_ok glUt4_ok Tryz.func87 rfl (by kernel_rfl) (Nat.le_of_ble_eq_true (by kernel_rfl)) (by kernel_rfl) (by kernel_rfl) (hh_list ⟨⟨h, rfl⟩, trivial⟩) (free_list (by simp [allLt])) ?_ ?_
  · exact fun s ys w' h H => ⟨ys, rfl, h, H.below⟩
  intro L F T G nd va hE
  obtain ⟨hL, hF, hs, hv, hT, hG, hR, hI, hJ, hW⟩ := hE
  rw [Tryz.results87] at hF
  simp (maxSteps := 1000000) only [En.nN, En.E, En.evsC, List.map_cons, List.map_nil, Nat.reduceBEq, Nat.reduceAdd, Nat.reduceMul, Nat.reduceEqDiff, Nat.reduceLeDiff, Nat.reduceLT, ne_eq, reduceCtorEq, Int.reduceBEq, Int.reduceBNe, Int.reduceAdd, Int.reduceSub, Int.reduceMul, Int.reduceTDiv, Int.reduceTMod, Int.reduceNeg, En.bitN, Nat.testBit, Nat.reduceShiftRight, Nat.reduceShiftLeft, Nat.reduceAnd, Nat.reduceOr, Nat.reduceBNe, Int.reduceToNat, Nat.reduceSub, Int.reduceLE, Int.reduceLT] at hv
  simp only [En.at_nil, En.at_cons, En.ag_nil, En.ag_cons, and_true, tlUt, glUt4, tyInt, tyI64, tyU8, tyUint, tyBool, tyStr, tyErr, tyBytes, tyI5] at hT hG
  have i0 : decide ((i : Int) < 0) = false := decide_eq_false (by omega)
  have i1 : decide ((xs.length : Int) ≤ i) = false := decide_eq_false (by omega)
  have n1 : ((i : Int) + 1).toNat - i = 1 := by omega
  have n2 : ((i : Int) + 2).toNat - i = 2 := by omega
  have n3 : ((i : Int) + 3).toNat - i = 3 := by omega
  have n4 : ((i : Int) + 4).toNat - i = 4 := by omega
  have l1 : i + 1 ≤ xs.length → ((xs.drop i).take 1).length = 1 := fun h => by simp; omega
  have l2 : i + 2 ≤ xs.length → ((xs.drop i).take 2).length = 2 := fun h => by simp; omega
  have l3 : i + 3 ≤ xs.length → ((xs.drop i).take 3).length = 3 := fun h => by simp; omega
  have l4 : i + 4 ≤ xs.length → ((xs.drop i).take 4).length = 4 := fun h => by simp; omega
  have hbt : ∀ n, ∀ x ∈ (xs.drop i).take n, byt x := fun n x hx => hb x (List.mem_of_mem_drop (List.mem_of_mem_take hx))
  have i2 : decide ((i : Int) + 1 ≤ xs.length) = true := decide_eq_true (by omega)
  have j5 : ∀ n : Int, 0 ≤ n → n ≤ 5 → inr .i64 n := fun n _ _ => by simp only [En.inr, En.lo, En.hi]; omega
  have ji : ∀ n : Int, 0 ≤ n → n ≤ 4 → inr .i64 (i + n) := fun n _ _ => by simp only [En.inr, En.lo, En.hi]; omega
  have jl : inr .i64 (xs.length - i) := by simp only [En.inr, En.lo, En.hi]; omega
  have a0 : (0 : Int) ≤ i ∧ (i : Int) ≤ xs.length := by omega
  unfold decV at ho
  simp only [decF] at ho
  have hk : xs.length = i + 1 ∨ xs.length = i + 2 ∨ xs.length = i + 3 ∨ i + 4 ≤ xs.length := by omega
  have oN : ∀ e : Int, (e = 370 ∨ e = 6) → o = none → DecPost o [.v (.int .i64 0), .v (.int .i64 0), .v (.int .i64 e)] := fun e he h => by rw [h]; exact ⟨e, rfl, he⟩
  have oS : ∀ (r : Int) (n : Nat) (m : Int), m = n → o = some (r, n) → DecPost o [.v (.int .i64 r), .v (.int .i64 m), .v (.int .i64 0)] := fun r n m hm h => by rw [h, hm]; rfl
  rcases hk with hk | hk | hk | hk
  · have d2 : decide ((i : Int) + 2 ≤ xs.length) = false := decide_eq_false (by omega)
    have g : decide ((xs.length : Int) - i < 4) = true := decide_eq_true (by omega)
    simp (maxSteps := 10000000) only [En.E, En.evsC, List.map_cons, List.map_nil, Nat.reduceBEq, Nat.reduceAdd, Nat.reduceMul, Nat.reduceEqDiff, Nat.reduceLeDiff, Nat.reduceLT, ne_eq, reduceCtorEq, Int.reduceBEq, Int.reduceBNe, Int.reduceAdd, Int.reduceSub, Int.reduceMul, Int.reduceTDiv, Int.reduceTMod, Int.reduceNeg, En.bitN, Nat.testBit, Nat.reduceShiftRight, Nat.reduceShiftLeft, Nat.reduceAnd, Nat.reduceOr, Nat.reduceBNe, Int.reduceToNat, Nat.reduceSub, Int.reduceLE, Int.reduceLT, En.vV, hs, hv, hT, hG, hF, spStands_q, standsR_q, standsB_q, spBegins_q, beginsR_q, ifB_st, ifB_nat, i0, i1, i2, d2, g, n1, n2, n3, n4, Int.toNat_natCast, Int.reduceAdd]
    clear hL hF hs hR hI hJ hW hv hT hG
    exact ⟨ji 1 (by decide) (by decide), ji 1 (by decide) (by decide), ⟨by omega, by omega, by omega⟩, ⟨(l1 (by omega)).symm, hbt 1⟩, fun s1 => oS _ 1 _ rfl (by rw [if_pos (by omega), if_pos s1] at ho; exact ho), fun s1 => ⟨j5 2 (by decide) (by decide), ji 2 (by decide) (by decide), jl, ⟨by omega, by omega, by omega⟩, ⟨by simp, by omega, by omega, hbt _⟩, fun c => ⟨fun _ => oN _ (.inl rfl) (by rw [if_pos (by omega), if_neg (by rw [s1]; decide), if_neg (by omega)] at ho; exact ho), fun _ => oN _ (.inr rfl) (by rw [if_pos (by omega), if_neg (by rw [s1]; decide), if_neg (by omega)] at ho; exact ho)⟩⟩⟩
  · have d2 : decide ((i : Int) + 2 ≤ xs.length) = true := decide_eq_true (by omega)
    have d3 : decide ((i : Int) + 3 ≤ xs.length) = false := decide_eq_false (by omega)
    have g : decide ((xs.length : Int) - i < 4) = true := decide_eq_true (by omega)
    simp (maxSteps := 10000000) only [En.E, En.evsC, List.map_cons, List.map_nil, Nat.reduceBEq, Nat.reduceAdd, Nat.reduceMul, Nat.reduceEqDiff, Nat.reduceLeDiff, Nat.reduceLT, ne_eq, reduceCtorEq, Int.reduceBEq, Int.reduceBNe, Int.reduceAdd, Int.reduceSub, Int.reduceMul, Int.reduceTDiv, Int.reduceTMod, Int.reduceNeg, En.bitN, Nat.testBit, Nat.reduceShiftRight, Nat.reduceShiftLeft, Nat.reduceAnd, Nat.reduceOr, Nat.reduceBNe, Int.reduceToNat, Nat.reduceSub, Int.reduceLE, Int.reduceLT, En.vV, hs, hv, hT, hG, hF, spStands_q, standsR_q, standsB_q, spBegins_q, beginsR_q, ifB_st, ifB_nat, i0, i1, i2, d2, d3, g, n1, n2, n3, n4, Int.toNat_natCast, Int.reduceAdd]
    clear hL hF hs hR hI hJ hW hv hT hG
    exact ⟨ji 1 (by decide) (by decide), ji 1 (by decide) (by decide), ⟨by omega, by omega, by omega⟩, ⟨(l1 (by omega)).symm, hbt 1⟩, fun s1 => oS _ 1 _ rfl (by rw [if_pos (by omega), if_pos s1] at ho; exact ho), fun s1 => ⟨j5 2 (by decide) (by decide), ji 2 (by decide) (by decide), ji 2 (by decide) (by decide), ⟨by omega, by omega, by omega⟩, ⟨(l2 (by omega)).symm, hbt 2⟩, fun s2 => oS _ 2 _ rfl (by rw [if_pos (by omega), if_neg (by rw [s1]; decide), if_pos (by omega), if_pos s2] at ho; exact ho), fun s2 => ⟨j5 3 (by decide) (by decide), ji 3 (by decide) (by decide), jl, ⟨by omega, by omega, by omega⟩, ⟨by simp, by omega, by omega, hbt _⟩, fun c => ⟨fun _ => oN _ (.inl rfl) (by rw [if_pos (by omega), if_neg (by rw [s1]; decide), if_pos (by omega), if_neg (by rw [s2]; decide), if_neg (by omega)] at ho; exact ho), fun _ => oN _ (.inr rfl) (by rw [if_pos (by omega), if_neg (by rw [s1]; decide), if_pos (by omega), if_neg (by rw [s2]; decide), if_neg (by omega)] at ho; exact ho)⟩⟩⟩⟩
  · have d2 : decide ((i : Int) + 2 ≤ xs.length) = true := decide_eq_true (by omega)
    have d3 : decide ((i : Int) + 3 ≤ xs.length) = true := decide_eq_true (by omega)
    have d4 : decide ((i : Int) + 4 ≤ xs.length) = false := decide_eq_false (by omega)
    have g : decide ((xs.length : Int) - i < 4) = true := decide_eq_true (by omega)
    simp (maxSteps := 10000000) only [En.E, En.evsC, List.map_cons, List.map_nil, Nat.reduceBEq, Nat.reduceAdd, Nat.reduceMul, Nat.reduceEqDiff, Nat.reduceLeDiff, Nat.reduceLT, ne_eq, reduceCtorEq, Int.reduceBEq, Int.reduceBNe, Int.reduceAdd, Int.reduceSub, Int.reduceMul, Int.reduceTDiv, Int.reduceTMod, Int.reduceNeg, En.bitN, Nat.testBit, Nat.reduceShiftRight, Nat.reduceShiftLeft, Nat.reduceAnd, Nat.reduceOr, Nat.reduceBNe, Int.reduceToNat, Nat.reduceSub, Int.reduceLE, Int.reduceLT, En.vV, hs, hv, hT, hG, hF, spStands_q, standsR_q, standsB_q, spBegins_q, beginsR_q, ifB_st, ifB_nat, i0, i1, i2, d2, d3, d4, g, n1, n2, n3, n4, Int.toNat_natCast, Int.reduceAdd]
    clear hL hF hs hR hI hJ hW hv hT hG
    exact ⟨ji 1 (by decide) (by decide), ji 1 (by decide) (by decide), ⟨by omega, by omega, by omega⟩, ⟨(l1 (by omega)).symm, hbt 1⟩, fun s1 => oS _ 1 _ rfl (by rw [if_pos (by omega), if_pos s1] at ho; exact ho), fun s1 => ⟨j5 2 (by decide) (by decide), ji 2 (by decide) (by decide), ji 2 (by decide) (by decide), ⟨by omega, by omega, by omega⟩, ⟨(l2 (by omega)).symm, hbt 2⟩, fun s2 => oS _ 2 _ rfl (by rw [if_pos (by omega), if_neg (by rw [s1]; decide), if_pos (by omega), if_pos s2] at ho; exact ho), fun s2 => ⟨j5 3 (by decide) (by decide), ji 3 (by decide) (by decide), ji 3 (by decide) (by decide), ⟨by omega, by omega, by omega⟩, ⟨(l3 (by omega)).symm, hbt 3⟩, fun s3 => oS _ 3 _ rfl (by rw [if_pos (by omega), if_neg (by rw [s1]; decide), if_pos (by omega), if_neg (by rw [s2]; decide), if_pos (by omega), if_pos s3] at ho; exact ho), fun s3 => ⟨j5 4 (by decide) (by decide), ji 4 (by decide) (by decide), jl, ⟨by omega, by omega, by omega⟩, ⟨by simp, by omega, by omega, hbt _⟩, fun c => ⟨fun _ => oN _ (.inl rfl) (by rw [if_pos (by omega), if_neg (by rw [s1]; decide), if_pos (by omega), if_neg (by rw [s2]; decide), if_pos (by omega), if_neg (by rw [s3]; decide), if_neg (by omega)] at ho; exact ho), fun _ => oN _ (.inr rfl) (by rw [if_pos (by omega), if_neg (by rw [s1]; decide), if_pos (by omega), if_neg (by rw [s2]; decide), if_pos (by omega), if_neg (by rw [s3]; decide), if_neg (by omega)] at ho; exact ho)⟩⟩⟩⟩⟩
  · have d2 : decide ((i : Int) + 2 ≤ xs.length) = true := decide_eq_true (by omega)
    have d3 : decide ((i : Int) + 3 ≤ xs.length) = true := decide_eq_true (by omega)
    have d4 : decide ((i : Int) + 4 ≤ xs.length) = true := decide_eq_true (by omega)
    have g : decide ((xs.length : Int) - i < 4) = false := decide_eq_false (by omega)
    simp (maxSteps := 10000000) only [En.E, En.evsC, List.map_cons, List.map_nil, Nat.reduceBEq, Nat.reduceAdd, Nat.reduceMul, Nat.reduceEqDiff, Nat.reduceLeDiff, Nat.reduceLT, ne_eq, reduceCtorEq, Int.reduceBEq, Int.reduceBNe, Int.reduceAdd, Int.reduceSub, Int.reduceMul, Int.reduceTDiv, Int.reduceTMod, Int.reduceNeg, En.bitN, Nat.testBit, Nat.reduceShiftRight, Nat.reduceShiftLeft, Nat.reduceAnd, Nat.reduceOr, Nat.reduceBNe, Int.reduceToNat, Nat.reduceSub, Int.reduceLE, Int.reduceLT, En.vV, hs, hv, hT, hG, hF, spStands_q, standsR_q, standsB_q, spBegins_q, beginsR_q, ifB_st, ifB_nat, i0, i1, i2, d2, d3, d4, g, n1, n2, n3, n4, Int.toNat_natCast, Int.reduceAdd]
    clear hL hF hs hR hI hJ hW hv hT hG
    exact ⟨ji 1 (by decide) (by decide), ji 1 (by decide) (by decide), ⟨by omega, by omega, by omega⟩, ⟨(l1 (by omega)).symm, hbt 1⟩, fun s1 => oS _ 1 _ rfl (by rw [if_pos (by omega), if_pos s1] at ho; exact ho), fun s1 => ⟨j5 2 (by decide) (by decide), ji 2 (by decide) (by decide), ji 2 (by decide) (by decide), ⟨by omega, by omega, by omega⟩, ⟨(l2 (by omega)).symm, hbt 2⟩, fun s2 => oS _ 2 _ rfl (by rw [if_pos (by omega), if_neg (by rw [s1]; decide), if_pos (by omega), if_pos s2] at ho; exact ho), fun s2 => ⟨j5 3 (by decide) (by decide), ji 3 (by decide) (by decide), ji 3 (by decide) (by decide), ⟨by omega, by omega, by omega⟩, ⟨(l3 (by omega)).symm, hbt 3⟩, fun s3 => oS _ 3 _ rfl (by rw [if_pos (by omega), if_neg (by rw [s1]; decide), if_pos (by omega), if_neg (by rw [s2]; decide), if_pos (by omega), if_pos s3] at ho; exact ho), fun s3 => ⟨j5 4 (by decide) (by decide), ji 4 (by decide) (by decide), ji 4 (by decide) (by decide), ⟨by omega, by omega, by omega⟩, ⟨(l4 (by omega)).symm, hbt 4⟩, fun s4 => oS _ 4 _ rfl (by rw [if_pos (by omega), if_neg (by rw [s1]; decide), if_pos (by omega), if_neg (by rw [s2]; decide), if_pos (by omega), if_neg (by rw [s3]; decide), if_pos (by omega), if_pos s4] at ho; exact ho), fun s4 => ⟨j5 5 (by decide) (by decide), jl, oN _ (.inr rfl) (by rw [if_pos (by omega), if_neg (by rw [s1]; decide), if_pos (by omega), if_neg (by rw [s2]; decide), if_pos (by omega), if_neg (by rw [s3]; decide), if_pos (by omega), if_neg (by rw [s4]; decide)] at ho; exact ho)⟩⟩⟩⟩⟩
def decR (A : Option Addr) (n c : Nat) (i : Int) : Ch → Res
  | .ints A' c' .u8 xs => .val (A = A' ∧ n = xs.length ∧ c = c' ∧ 0 ≤ i ∧ i < n ∧ n ≤ 4611686018427387904 ∧ ∀ x ∈ xs, byt x) fun _ d => (.tup (match decV xs i.toNat with | some p => [.v (.int .i64 p.1), .v (.int .i64 p.2), .v (.int .i64 0)] | none => [.v (.int .i64 0), .v (.int .i64 0), .v (.int .i64 (bif d == 0 then 370 else 6))]), [])
  | _ => .bad
def spDecode : Spc
  | [.g key A n c, .v (.int .i64 i)], H, _ => decR A n c i (H key)
  | _, _, _ => .bad
theorem spDecode_q {key n c : Nat} {A : Option Addr} {i : Int} {H : Nat → Ch} {nx : Nat} : spDecode [.g key A n c, .v (.int .i64 i)] H nx = decR A n c i (H key) := (rfl)
theorem decR_q {A A' : Option Addr} {n c c' : Nat} {i : Int} {xs : List Int} : decR A n c i (.ints A' c' .u8 xs) = .val (A = A' ∧ n = xs.length ∧ c = c' ∧ 0 ≤ i ∧ i < n ∧ n ≤ 4611686018427387904 ∧ ∀ x ∈ xs, byt x) fun _ d => (.tup (match decV xs i.toNat with | some p => [.v (.int .i64 p.1), .v (.int .i64 p.2), .v (.int .i64 0)] | none => [.v (.int .i64 0), .v (.int .i64 0), .v (.int .i64 (bif d == 0 then 370 else 6))]), []) := (rfl)
theorem spDecode_ok : SpecOk Tryz.prog 87 spDecode := by
  intro args hp nx w0 O w H hv
  unfold spDecode at hv ⊢
  split at hv
  · next key A n c i =>
    have hk := H.hold key
    unfold decR at hv ⊢
    split at hv
    · next A' c' xs e =>
      rw [e] at hk
      obtain ⟨rfl, rfl, rfl, h1, h2, h3, h4⟩ := hv
      obtain ⟨i, rfl⟩ := Int.eq_ofNat_of_zero_le h1
      refine (decode_any xs h4 i (by omega) h3 A c w hk).mono ?_
      rintro e w' ⟨ys, rfl, hp, hb⟩
      rw [Int.toNat_natCast]
      cases hd : decV xs i with
      | some p =>
        rw [hd] at hp
        obtain rfl : ys = _ := hp
        exact ⟨⟨0, none, 0, none, 0, mz⟩, rfl, .still hb⟩
      | none =>
        rw [hd] at hp
        obtain ⟨v, rfl, hv⟩ := hp
        rcases hv with rfl | rfl
        · exact ⟨⟨0, none, 0, none, 0, mz⟩, rfl, .still hb⟩
        · exact ⟨⟨0, none, 1, none, 0, mz⟩, rfl, .still hb⟩
    · exact hv.elim
  · exact hv.elim
end Pr
end Go.Proofs.YtpkldfkmokeamaaGreatDoor
/-
How many letters a text has: the reference's count (chapter 15), and that it is the library's.
-/
set_option linter.unusedSimpArgs false
set_option linter.unusedVariables false
namespace Go.Proofs.YtpkldfkmokeamaaGreatDoor
namespace Pr
open Go Go.RowKit En
open Ut
theorem nums_inj {xs ys : List Int} (hx : ∀ x ∈ xs, byt x) (hy : ∀ x ∈ ys, byt x) : ((strOfNums xs).toList == (strOfNums ys).toList) = decide (xs = ys) := by
  have key : ∀ {x y : Int}, byt x → byt y → (UInt8.ofNat x.toNat = UInt8.ofNat y.toNat) → x = y := by
    intro x y hx hy h
    have := congrArg UInt8.toNat h
    simp at this
    unfold byt at hx hy
    omega
  by_cases h : xs = ys
  · subst h; simp
  · rw [decide_eq_false h, beq_eq_false_iff_ne]
    intro h2
    apply h
    rw [Lib.toList_data, Lib.toList_data, strOfNums_data, strOfNums_data] at h2
    clear h
    induction xs generalizing ys with
    | nil => cases ys with
      | nil => rfl
      | cons y ys => simp at h2
    | cons x xs ih => cases ys with
      | nil => simp at h2
      | cons y ys =>
        simp only [List.map_cons, List.cons.injEq] at h2
        rw [key (hx x (by simp)) (hy y (by simp)) h2.1, ih (fun z hz => hx z (by simp [hz])) (fun z hz => hy z (by simp [hz])) h2.2]
theorem stands_eq {xs : List Int} (hx : ∀ x ∈ xs, byt x) : (standsV xs).2 = true ↔ isR (numV xs) = true ∧ xs = encL (numV xs) := by
  unfold standsV
  by_cases h : isR (numV xs) = true
  · rw [if_pos h]
    simp only [nums_inj hx (encL_ok h).1, decide_eq_true_eq, h, true_and]
  · rw [if_neg h]
    simp [h]
theorem byt_nat {a : Nat} (h : a < 256) : byt (a : Int) := by unfold byt; omega
theorem st1_v {a : Nat} (ha : a < 256) : (standsV [(a : Int)]).2 = (st1 a).isSome := by
  have h := stands_eq (xs := [(a : Int)]) (by intro x hx; simp at hx; subst hx; exact byt_nat ha)
  rw [Bool.eq_iff_iff, h, isR_iff, st1]
  by_cases h1 : a < 128
  · have hn : numV [(a : Int)] = a := by simp only [numV]; rw [if_pos (by omega)]
    have he : encL (a : Int) = [(a : Int)] := by rw [encL, if_pos (by omega)]
    rw [hn, he, if_pos h1]; simp; omega
  · have hn : numV [(a : Int)] = -1 := by simp only [numV]; rw [if_neg (by omega)]
    rw [hn, if_neg h1]; simp
theorem st2_v {a b : Nat} (ha : a < 256) (hb : b < 256) : (standsV [(a : Int), b]).2 = (st2 a b).isSome := by
  have h := stands_eq (xs := [(a : Int), b]) (by intro x hx; simp at hx; rcases hx with rfl | rfl <;> exact byt_nat (by assumption))
  rw [Bool.eq_iff_iff, h, isR_iff, st2]
  by_cases h1 : 192 ≤ a ∧ a < 224 ∧ 128 ≤ b ∧ b < 192
  · have hn : numV [(a : Int), b] = ((64 * (a - 192) + (b - 128) : Nat) : Int) := (if_pos (by omega)).trans (by omega)
    rw [hn]
    generalize hu : 64 * (a - 192) + (b - 128) = u
    by_cases h2 : 128 ≤ u
    · have he : encL (u : Int) = [192 + (u : Int) / 64, 128 + (u : Int) % 64] := by rw [encL, if_neg (by omega), if_pos (by omega)]
      rw [he, if_pos ⟨h1.1, h1.2.1, h1.2.2.1, h1.2.2.2, h2⟩]; simp; omega
    · have he : encL (u : Int) = [(u : Int)] := by rw [encL, if_pos (by omega)]
      rw [he, if_neg (by omega)]; simp
  · have hn : numV [(a : Int), b] = -1 := if_neg (by omega)
    rw [hn, if_neg (by omega)]; simp
theorem st3_v {a b c : Nat} (ha : a < 256) (hb : b < 256) (hc : c < 256) : (standsV [(a : Int), b, c]).2 = (st3 a b c).isSome := by
  have h := stands_eq (xs := [(a : Int), b, c]) (by intro x hx; simp at hx; rcases hx with rfl | rfl | rfl <;> exact byt_nat (by assumption))
  rw [Bool.eq_iff_iff, h, isR_iff, st3]
  by_cases h1 : 224 ≤ a ∧ a < 240 ∧ 128 ≤ b ∧ b < 192 ∧ 128 ≤ c ∧ c < 192
  · have hn : numV [(a : Int), b, c] = ((64 * (64 * (a - 224) + (b - 128)) + (c - 128) : Nat) : Int) := (if_pos (by omega)).trans (by omega)
    rw [hn]
    generalize hu : 64 * (64 * (a - 224) + (b - 128)) + (c - 128) = u
    by_cases h2 : 2048 ≤ u
    · have he : encL (u : Int) = [224 + (u : Int) / 4096, 128 + (u : Int) / 64 % 64, 128 + (u : Int) % 64] := by rw [encL, if_neg (by omega), if_neg (by omega), if_pos (by omega)]
      rw [he]
      by_cases h3 : is16 u
      · rw [if_pos ⟨h1.1, h1.2.1, h1.2.2.1, h1.2.2.2.1, h1.2.2.2.2.1, h1.2.2.2.2.2, h2, h3⟩]
        unfold is16 at h3; simp; omega
      · rw [if_neg (fun h => h3 h.2.2.2.2.2.2.2)]
        unfold is16 at h3; simp; omega
    · rw [if_neg (fun h => h2 h.2.2.2.2.2.2.1)]
      have he : (encL (u : Int)).length ≠ 3 := by
        unfold encL
        split
        · simp
        · rw [if_pos (by omega)]; simp
      exact iff_of_false (fun h => he (by rw [← h.2]; rfl)) (by simp)
  · have hn : numV [(a : Int), b, c] = -1 := if_neg (by omega)
    rw [hn, if_neg (by omega)]; simp
theorem st4_v {a b c d : Nat} (ha : a < 256) (hb : b < 256) (hc : c < 256) (hd : d < 256) : (standsV [(a : Int), b, c, d]).2 = (st4 a b c d).isSome := by
  have h := stands_eq (xs := [(a : Int), b, c, d]) (by intro x hx; simp at hx; rcases hx with rfl | rfl | rfl | rfl <;> exact byt_nat (by assumption))
  rw [Bool.eq_iff_iff, h, isR_iff, st4]
  by_cases h1 : 240 ≤ a ∧ a < 248 ∧ 128 ≤ b ∧ b < 192 ∧ 128 ≤ c ∧ c < 192 ∧ 128 ≤ d ∧ d < 192
  · have hn : numV [(a : Int), b, c, d] = ((64 * (64 * (64 * (a - 240) + (b - 128)) + (c - 128)) + (d - 128) : Nat) : Int) := (if_pos (by omega)).trans (by omega)
    rw [hn]
    generalize hu : 64 * (64 * (64 * (a - 240) + (b - 128)) + (c - 128)) + (d - 128) = u
    by_cases h2 : 65536 ≤ u
    · have he : encL (u : Int) = [240 + (u : Int) / 262144, 128 + (u : Int) / 4096 % 64, 128 + (u : Int) / 64 % 64, 128 + (u : Int) % 64] := by rw [encL, if_neg (by omega), if_neg (by omega), if_neg (by omega)]
      rw [he]
      by_cases h3 : is16 u
      · rw [if_pos ⟨h1.1, h1.2.1, h1.2.2.1, h1.2.2.2.1, h1.2.2.2.2.1, h1.2.2.2.2.2.1, h1.2.2.2.2.2.2.1, h1.2.2.2.2.2.2.2, h2, h3⟩]
        unfold is16 at h3; simp; omega
      · rw [if_neg (fun h => h3 h.2.2.2.2.2.2.2.2.2)]
        unfold is16 at h3; simp; omega
    · rw [if_neg (fun h => h2 h.2.2.2.2.2.2.2.2.1)]
      have he : (encL (u : Int)).length ≠ 4 := by
        unfold encL
        split
        · simp
        · split
          · simp
          · rw [if_pos (by omega)]; simp
      exact iff_of_false (fun h => he (by rw [← h.2]; rfl)) (by simp)
  · have hn : numV [(a : Int), b, c, d] = -1 := if_neg (by omega)
    rw [hn, if_neg (by omega)]; simp
theorem bytesI_len (s : ByteArray) : (bytesI s).length = s.size := by rw [bytesI, List.length_map, Array.length_toList]; rfl
theorem bytesI_byt (s : ByteArray) : ∀ x ∈ bytesI s, byt x := by
  intro x hx
  obtain ⟨b, _, rfl⟩ := List.mem_map.1 hx
  exact byt_nat b.toNat_lt
theorem bytesI_at {s : ByteArray} {i : Nat} (h : i < s.size) : (bytesI s)[i]? = some (((s.get! i).toNat : Nat) : Int) := by
  have h' : i < s.data.size := h
  simp [bytesI, ByteArray.get!, getElem!_def, Array.getElem?_eq_getElem h']
theorem take_at {s : ByteArray} : ∀ (n i : Nat), i + n ≤ s.size → ((bytesI s).drop i).take n = (List.range n).map fun k => (((s.get! (i + k)).toNat : Nat) : Int) := by
  intro n i h
  apply List.ext_getElem?
  intro k
  rw [List.getElem?_take]
  by_cases hk : k < n
  · rw [if_pos hk, List.getElem?_drop, bytesI_at (by omega)]
    simp [hk]
  · rw [if_neg hk]
    simp [hk]
theorem dec_same {s : ByteArray} {i : Nat} (h : i < s.size) : (decV (bytesI s) i).map (·.2) = (decS s i).map (·.2) := by
  have hl := bytesI_len s
  have hx := fun k => byte_lt (s.get! k)
  have t1 : ((bytesI s).drop i).take 1 = [(((s.get! i).toNat : Nat) : Int)] := by rw [take_at 1 i (by omega)]; rfl
  have e1 := st1_v (hx i)
  unfold decV decS dec
  simp only [decF]
  rw [if_pos (by omega), t1, e1]
  cases h1 : st1 (s.get! i).toNat with
  | some r => simp
  | none =>
    simp only [Option.isSome_none, Bool.false_eq_true, if_false]
    by_cases c2 : i + 2 ≤ s.size
    · have t2 : ((bytesI s).drop i).take 2 = [(((s.get! i).toNat : Nat) : Int), (((s.get! (i + 1)).toNat : Nat) : Int)] := by rw [take_at 2 i (by omega)]; rfl
      rw [if_pos (by omega), t2, st2_v (hx _) (hx _), if_pos (c := 2 ≤ s.size - i) (by omega)]
      cases h2 : st2 (s.get! i).toNat (s.get! (i + 1)).toNat with
      | some r => simp
      | none =>
        simp only [Option.isSome_none, Bool.false_eq_true, if_false]
        by_cases c3 : i + 3 ≤ s.size
        · have t3 : ((bytesI s).drop i).take 3 = [(((s.get! i).toNat : Nat) : Int), (((s.get! (i + 1)).toNat : Nat) : Int), (((s.get! (i + 2)).toNat : Nat) : Int)] := by rw [take_at 3 i (by omega)]; rfl
          rw [if_pos (by omega), t3, st3_v (hx _) (hx _) (hx _), if_pos (c := 3 ≤ s.size - i) (by omega)]
          cases h3 : st3 (s.get! i).toNat (s.get! (i + 1)).toNat (s.get! (i + 2)).toNat with
          | some r => simp
          | none =>
            simp only [Option.isSome_none, Bool.false_eq_true, if_false]
            by_cases c4 : i + 4 ≤ s.size
            · have t4 : ((bytesI s).drop i).take 4 = [(((s.get! i).toNat : Nat) : Int), (((s.get! (i + 1)).toNat : Nat) : Int), (((s.get! (i + 2)).toNat : Nat) : Int), (((s.get! (i + 3)).toNat : Nat) : Int)] := by rw [take_at 4 i (by omega)]; rfl
              rw [if_pos (by omega), t4, st4_v (hx _) (hx _) (hx _) (hx _), if_pos (c := 4 ≤ s.size - i) (by omega)]
              cases h4 : st4 (s.get! i).toNat (s.get! (i + 1)).toNat (s.get! (i + 2)).toNat (s.get! (i + 3)).toNat with
              | some r => simp
              | none => simp
            · rw [if_neg (by omega), if_neg (c := 4 ≤ s.size - i) (by omega)]; simp
        · rw [if_neg (by omega), if_neg (c := 3 ≤ s.size - i) (by omega), if_neg (c := 4 ≤ s.size - i) (by omega)]; simp
    · rw [if_neg (by omega), if_neg (c := 2 ≤ s.size - i) (by omega), if_neg (c := 3 ≤ s.size - i) (by omega), if_neg (c := 4 ≤ s.size - i) (by omega)]; simp
end Pr
end Go.Proofs.YtpkldfkmokeamaaGreatDoor
/-
The reference's count of letters, walked (chapter 15).
-/
set_option linter.unusedSimpArgs false
set_option linter.unusedVariables false
namespace Go.Proofs.YtpkldfkmokeamaaGreatDoor
namespace Pr
open Go Go.RowKit En
open Ut
def tlCo : List (TypeId × TI) := [tyInt, tyU8, tyBool, tyStr, tyErr, tyBytes]
theorem tlCo_ok : TyAll Tryz.prog (lookT tlCo) := tyAll_p tyInt_ok <| tyAll_p tyU8_ok <| tyAll_p tyBool_ok <| tyAll_p tyStr_ok <| tyAll_p tyErr_ok <| tyAll_p tyBytes_ok tyAll_nil
def glCo : List (FuncId × Spc) := [(87, spDecode)]
theorem glCo_ok : GOk Tryz.prog (lookG glCo) := lG_cons (by kernel_rfl) spDecode_ok lG_nil
def cntV (s : ByteArray) : Int := bif Lib.validD s.data.toList then (Lib.runeCount s : Int) else -1
def cntO : Option Nat → Int
  | some n => n
  | none => -1
theorem cntV_eq (s : ByteArray) : cntV s = cntO (cntR s s.size 0) := by
  rw [count_lib, cntV]
  cases Lib.validD s.data.toList <;> rfl
theorem decF_width {xs : List Int} {i : Nat} : ∀ (f n : Nat) {p : Int × Nat}, decF xs i f n = some p → n ≤ p.2 ∧ i + p.2 ≤ xs.length
  | 0, n, p, h => by cases h
  | f + 1, n, p, h => by
    rw [decF] at h
    split at h
    · split at h
      · cases h; exact ⟨Nat.le_refl _, by assumption⟩
      · have := decF_width f (n + 1) h; omega
    · cases h
def coI (s : ByteArray) (i m : Nat) : SS := ⟨[(0, .v (.string s)), (3, .v (.int .i64 m)), (4, .v (.int .i64 i))], [], 5000⟩
theorem count_any (s : ByteArray) (hz : s.size ≤ 2305843009213693952) (w : World) :
    Calls Tryz.prog 69 #[.string s] w fun e w' => e = .returned (.int .i64 (cntV s)) ∧ Below w.heap.size w w' := by
  obtain ⟨q, hq⟩ : ∃ q, q = cntV s := ⟨_, rfl⟩
  rw [← hq]
  rw [cntV_eq] at hq
  refine calls_go (args := [.v (.string s)]) (hp := []) (nx := 1000) (n := 800) (U := [(1000000, 8)]) (V := []) (tl := tlCo) (gl := glCo) (post := fun s ys => ys = [.v (.int .i64 q)])
    followP tlCo_ok glCo_ok Tryz.func69 rfl (by kernel_rfl) (Nat.le_of_ble_eq_true (by kernel_rfl)) (by kernel_rfl) (by kernel_rfl) (hh_list trivial) (fun _ _ => rfl) ?_ ?_
  · rintro s ys w' rfl H
    exact ⟨rfl, H.below⟩
  intro L F T G nd va hE
  obtain ⟨hL, hF, hs, hv, hT, hG, hR, hI, hJ, hW⟩ := hE
  rw [Tryz.results69] at hF
  simp (maxSteps := 1000000) only [En.nN, En.E, En.evsC, List.map_cons, List.map_nil, Nat.reduceBEq, Nat.reduceAdd, Nat.reduceMul, Nat.reduceEqDiff, Nat.reduceLeDiff, Nat.reduceLT, ne_eq, reduceCtorEq, Int.reduceBEq, Int.reduceBNe, Int.reduceAdd, Int.reduceSub, Int.reduceMul, Int.reduceTDiv, Int.reduceTMod, Int.reduceNeg, En.bitN, Nat.testBit, Nat.reduceShiftRight, Nat.reduceShiftLeft, Nat.reduceAnd, Nat.reduceOr, Nat.reduceBNe, Int.reduceToNat, Nat.reduceSub, Int.reduceLE, Int.reduceLT] at hv
  simp only [En.at_nil, En.at_cons, En.ag_nil, En.ag_cons, and_true, tlCo, glCo, tyInt, tyU8, tyBool, tyStr, tyErr, tyBytes] at hT hG
  simp (maxSteps := 10000000) only [En.E, En.evsC, List.map_cons, List.map_nil, Nat.reduceBEq, Nat.reduceAdd, Nat.reduceMul, Nat.reduceEqDiff, Nat.reduceLeDiff, Nat.reduceLT, ne_eq, reduceCtorEq, Int.reduceBEq, Int.reduceBNe, Int.reduceAdd, Int.reduceSub, Int.reduceMul, Int.reduceTDiv, Int.reduceTMod, Int.reduceNeg, En.bitN, Nat.testBit, Nat.reduceShiftRight, Nat.reduceShiftLeft, Nat.reduceAnd, Nat.reduceOr, Nat.reduceBNe, Int.reduceToNat, Nat.reduceSub, Int.reduceLE, Int.reduceLT, En.vV, hs, hv, hT, hG, hF, ]
  refine hI {x : Nat × Nat // x.1 ≤ s.size ∧ x.2 ≤ x.1 ∧ ∃ f, s.size ≤ x.1 + f ∧ q = cntO ((cntR s f x.1).map (x.2 + ·))} (fun x => coI s x.1.1 x.1.2) (fun x => s.size - x.1.1) _ _ _ ⟨(0, 0), Nat.zero_le _, Nat.le_refl _, s.size, by simp, by simpa using hq⟩ (sle_all [] (by decide) (by simp only [En.E, En.evsC, List.map_cons, List.map_nil, Nat.reduceBEq, Nat.reduceAdd, Nat.reduceMul, Nat.reduceEqDiff, Nat.reduceLeDiff, Nat.reduceLT, ne_eq, reduceCtorEq, Int.reduceBEq, Int.reduceBNe, Int.reduceAdd, Int.reduceSub, Int.reduceMul, Int.reduceTDiv, Int.reduceTMod, Int.reduceNeg, En.bitN, Nat.testBit, Nat.reduceShiftRight, Nat.reduceShiftLeft, Nat.reduceAnd, Nat.reduceOr, Nat.reduceBNe, Int.reduceToNat, Nat.reduceSub, Int.reduceLE, Int.reduceLT, En.slLe, En.hpLe, En.chE, En.allLt, coI, Int.cast_ofNat_Int])) ?_
  rintro ⟨⟨i, m⟩, hi, hm, f, hf, hqi⟩
  simp only at hi hm hf hqi
  refine hR 2000 _ _ ?_
  by_cases hlt : i < s.size
  · have d0 : decide ((i : Int) < (s.size : Int)) = true := decide_eq_true (by omega)
    obtain ⟨f, rfl⟩ : ∃ g, f = g + 1 := ⟨f - 1, by omega⟩
    rw [cntR, if_pos hlt] at hqi
    have hds := dec_same hlt
    have g1 : (0 : Int) ≤ i ∧ (i : Int) < s.size ∧ s.size ≤ 4611686018427387904 := by omega
    have g2 := bytesI_byt s
    have g3 := bytesI_len s
    cases hd : decV (bytesI s) i with
    | none =>
      rw [hd] at hds
      have hn : decS s i = none := by
        cases h : decS s i with
        | none => rfl
        | some p => rw [h] at hds; simp at hds
      rw [hn] at hqi
      have hne : ∀ d : Nat, ((bif d == 0 then (370 : Int) else 6) != 0) = true := fun d => by cases (d == 0) <;> rfl
      simp (maxSteps := 10000000) only [En.E, En.evsC, List.map_cons, List.map_nil, Nat.reduceBEq, Nat.reduceAdd, Nat.reduceMul, Nat.reduceEqDiff, Nat.reduceLeDiff, Nat.reduceLT, ne_eq, reduceCtorEq, Int.reduceBEq, Int.reduceBNe, Int.reduceAdd, Int.reduceSub, Int.reduceMul, Int.reduceTDiv, Int.reduceTMod, Int.reduceNeg, En.bitN, Nat.testBit, Nat.reduceShiftRight, Nat.reduceShiftLeft, Nat.reduceAnd, Nat.reduceOr, Nat.reduceBNe, Int.reduceToNat, Nat.reduceSub, Int.reduceLE, Int.reduceLT, En.vV, hs, hv, hT, hG, hF, coI, d0, spDecode_q, decR_q, g1, g3, hd, Int.toNat_natCast, hne]
      exact ⟨g2, by rw [hqi]; rfl⟩
    | some p =>
      rw [hd] at hds
      obtain ⟨p', hp', e'⟩ : ∃ p', decS s i = some p' ∧ p'.2 = p.2 := by
        cases h : decS s i with
        | none => rw [h] at hds; simp at hds
        | some p' => rw [h] at hds; simp at hds; exact ⟨p', rfl, hds.symm⟩
      rw [hp'] at hqi
      simp only [e'] at hqi
      have hw := decF_width 4 1 hd
      rw [g3] at hw
      have e0 : ((0 : Int) != 0) = false := rfl
      have i1 : inr .i64 ((i : Int) + p.2) := by simp only [En.inr, En.lo, En.hi]; omega
      have i2 : inr .i64 ((m : Int) + 1) := by simp only [En.inr, En.lo, En.hi]; omega
      simp (maxSteps := 10000000) only [En.E, En.evsC, List.map_cons, List.map_nil, Nat.reduceBEq, Nat.reduceAdd, Nat.reduceMul, Nat.reduceEqDiff, Nat.reduceLeDiff, Nat.reduceLT, ne_eq, reduceCtorEq, Int.reduceBEq, Int.reduceBNe, Int.reduceAdd, Int.reduceSub, Int.reduceMul, Int.reduceTDiv, Int.reduceTMod, Int.reduceNeg, En.bitN, Nat.testBit, Nat.reduceShiftRight, Nat.reduceShiftLeft, Nat.reduceAnd, Nat.reduceOr, Nat.reduceBNe, Int.reduceToNat, Nat.reduceSub, Int.reduceLE, Int.reduceLT, En.vV, hs, hv, hT, hG, hF, coI, d0, spDecode_q, decR_q, g1, g3, hd, Int.toNat_natCast, e0, i1, i2]
      intro A c
      have hx : q = cntO ((cntR s f (i + p.2)).map ((m + 1) + ·)) := by
        rw [hqi, Option.map_map]
        congr 2
        funext x
        simp only [Function.comp]
        omega
      refine ⟨g2, ⟨(i + p.2, m + 1), by simp only; omega, by simp only; omega, f, by simp only; omega, hx⟩, ?_, ?_⟩
      · exact (sle_all [] (by decide) (by simp only [En.E, En.evsC, List.map_cons, List.map_nil, Nat.reduceBEq, Nat.reduceAdd, Nat.reduceMul, Nat.reduceEqDiff, Nat.reduceLeDiff, Nat.reduceLT, ne_eq, reduceCtorEq, Int.reduceBEq, Int.reduceBNe, Int.reduceAdd, Int.reduceSub, Int.reduceMul, Int.reduceTDiv, Int.reduceTMod, Int.reduceNeg, En.bitN, Nat.testBit, Nat.reduceShiftRight, Nat.reduceShiftLeft, Nat.reduceAnd, Nat.reduceOr, Nat.reduceBNe, Int.reduceToNat, Nat.reduceSub, Int.reduceLE, Int.reduceLT, En.slLe, En.hpLe, En.chE, En.allLt, coI, Int.natCast_add, Int.cast_ofNat_Int]))
      · simp only; omega
  · have d0 : decide ((i : Int) < (s.size : Int)) = false := decide_eq_false (by omega)
    simp (maxSteps := 10000000) only [En.E, En.evsC, List.map_cons, List.map_nil, Nat.reduceBEq, Nat.reduceAdd, Nat.reduceMul, Nat.reduceEqDiff, Nat.reduceLeDiff, Nat.reduceLT, ne_eq, reduceCtorEq, Int.reduceBEq, Int.reduceBNe, Int.reduceAdd, Int.reduceSub, Int.reduceMul, Int.reduceTDiv, Int.reduceTMod, Int.reduceNeg, En.bitN, Nat.testBit, Nat.reduceShiftRight, Nat.reduceShiftLeft, Nat.reduceAnd, Nat.reduceOr, Nat.reduceBNe, Int.reduceToNat, Nat.reduceSub, Int.reduceLE, Int.reduceLT, En.vV, hs, hv, hT, hG, hF, coI, d0, spDecode_q, decR_q]
    have : cntR s f i = some 0 := by
      cases f with
      | zero => rfl
      | succ f => rw [cntR, if_neg hlt]
    rw [this] at hqi
    rw [hqi]; rfl
def spCount : Spc
  | [.v (.string s)], _, _ => .is (s.size ≤ 2305843009213693952) (.v (.int .i64 (cntV s)))
  | _, _, _ => .bad
theorem spCount_q {s : ByteArray} {H : Nat → Ch} {nx : Nat} : spCount [.v (.string s)] H nx = .is (s.size ≤ 2305843009213693952) (.v (.int .i64 (cntV s))) := (rfl)
theorem spCount_ok : SpecOk Tryz.prog 69 spCount := specOk_is fun args H nx => by
  unfold spCount; split
  · exact fun h w => count_any _ h w
  · trivial
end Pr
end Go.Proofs.YtpkldfkmokeamaaGreatDoor
