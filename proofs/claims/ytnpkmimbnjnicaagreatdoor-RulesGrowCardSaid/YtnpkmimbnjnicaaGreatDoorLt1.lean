/-
Types of lattices, types, rules, for the engine (printed by genTy.py; chapters 3, 20, 21).
-/
import Derived.Test.YtnpkmimbnjnicaaGreatDoorPa1
import Derived.Test.YtnpkmimbnjnicaaGreatDoorEnM
import Derived.Laws.Entries
import Derived.Lib.BitFns
set_option linter.unusedSimpArgs false
set_option linter.unusedVariables false
namespace Go.Proofs.YtnpkmimbnjnicaaGreatDoor
namespace Pr
open Go Go.RowKit En
def tyInt : TypeId × TI := (3, ⟨true, false, 1, [.v (.int .i64 0)], [], 0, 0, 0, 13, 0⟩)
theorem tyInt_ok : TyOk Tryz.prog tyInt.1 tyInt.2 := .mk' (by kernel_rfl) (by kernel_rfl) (by decide) (by decide) (by kernel_rfl) (by kernel_rfl)
def tyU8 : TypeId × TI := (5, ⟨true, false, 1, [.v (.int .u8 0)], [], 0, 0, 0, 14, 0⟩)
theorem tyU8_ok : TyOk Tryz.prog tyU8.1 tyU8.2 := .mk' (by kernel_rfl) (by kernel_rfl) (by decide) (by decide) (by kernel_rfl) (by kernel_rfl)
def tyBool : TypeId × TI := (4, ⟨true, false, 1, [.v (.bool false)], [], 0, 0, 0, 5, 0⟩)
theorem tyBool_ok : TyOk Tryz.prog tyBool.1 tyBool.2 := .mk' (by kernel_rfl) (by kernel_rfl) (by decide) (by decide) (by kernel_rfl) (by kernel_rfl)
def tyStr : TypeId × TI := (9, ⟨true, false, 1, [.v (.string ⟨#[]⟩)], [], 0, 0, 0, 3, 0⟩)
theorem tyStr_ok : TyOk Tryz.prog tyStr.1 tyStr.2 := .mk' (by kernel_rfl) (by kernel_rfl) (by decide) (by decide) (by kernel_rfl) (by kernel_rfl)
def tyErr : TypeId × TI := (23, ⟨true, false, 1, [.v (.int .i64 0)], [], 0, 0, 0, 13, 0⟩)
theorem tyErr_ok : TyOk Tryz.prog tyErr.1 tyErr.2 := .mk' (by kernel_rfl) (by kernel_rfl) (by decide) (by decide) (by kernel_rfl) (by kernel_rfl)
def tyInts : TypeId × TI := (62, ⟨true, false, 1, [.v (.slice none 0 0)], [], 3, 0, 8, 1, 1⟩)
theorem tyInts_ok : TyOk Tryz.prog tyInts.1 tyInts.2 := .mk' (by kernel_rfl) (by kernel_rfl) (by decide) (by decide) (by kernel_rfl) (by kernel_rfl)
def tyStrs : TypeId × TI := (30, ⟨true, false, 1, [.v (.slice none 0 0)], [], 9, 0, 16, 1, 1⟩)
theorem tyStrs_ok : TyOk Tryz.prog tyStrs.1 tyStrs.2 := .mk' (by kernel_rfl) (by kernel_rfl) (by decide) (by decide) (by kernel_rfl) (by kernel_rfl)
def tyBytes : TypeId × TI := (31, ⟨true, false, 1, [.v (.slice none 0 0)], [], 5, 0, 1, 1, 1⟩)
theorem tyBytes_ok : TyOk Tryz.prog tyBytes.1 tyBytes.2 := .mk' (by kernel_rfl) (by kernel_rfl) (by decide) (by decide) (by kernel_rfl) (by kernel_rfl)
def tyErrs : TypeId × TI := (22, ⟨true, false, 1, [.v (.slice none 0 0)], [], 23, 0, 8, 1, 1⟩)
theorem tyErrs_ok : TyOk Tryz.prog tyErrs.1 tyErrs.2 := .mk' (by kernel_rfl) (by kernel_rfl) (by decide) (by decide) (by kernel_rfl) (by kernel_rfl)
def tyI2 : TypeId × TI := (34, ⟨true, true, 2, [.v (.int .i64 0), .v (.int .i64 0)], [(0, 0)], 3, 2, 8, 2, 1⟩)
theorem tyI2_ok : TyOk Tryz.prog tyI2.1 tyI2.2 := .mk' (by kernel_rfl) (by kernel_rfl) (by decide) (by decide) (by kernel_rfl) (by kernel_rfl)
def tyLat : TypeId × TI := (33, ⟨true, true, 2, [.v (.slice none 0 0), .v (.slice none 0 0)], [(0, 1), (1, 1)], 0, 0, 0, 4, 0⟩)
theorem tyLat_ok : TyOk Tryz.prog tyLat.1 tyLat.2 := .mk' (by kernel_rfl) (by kernel_rfl) (by decide) (by decide) (by kernel_rfl) (by kernel_rfl)
def tyA8 : TypeId × TI := (94, ⟨true, true, 8, [.v (.int .u8 0), .v (.int .u8 0), .v (.int .u8 0), .v (.int .u8 0), .v (.int .u8 0), .v (.int .u8 0), .v (.int .u8 0), .v (.int .u8 0)], [], 5, 8, 1, 2, 1⟩)
theorem tyA8_ok : TyOk Tryz.prog tyA8.1 tyA8.2 := .mk' (by kernel_rfl) (by kernel_rfl) (by decide) (by decide) (by kernel_rfl) (by kernel_rfl)
def tyUps : TypeId × TI := (95, ⟨true, true, 8, [.v (.int .u8 0), .v (.int .u8 0), .v (.int .u8 0), .v (.int .u8 0), .v (.int .u8 0), .v (.int .u8 0), .v (.int .u8 0), .v (.int .u8 0)], [], 5, 8, 1, 2, 1⟩)
theorem tyUps_ok : TyOk Tryz.prog tyUps.1 tyUps.2 := .mk' (by kernel_rfl) (by kernel_rfl) (by decide) (by decide) (by kernel_rfl) (by kernel_rfl)
def tyDns : TypeId × TI := (96, ⟨true, true, 8, [.v (.int .u8 0), .v (.int .u8 0), .v (.int .u8 0), .v (.int .u8 0), .v (.int .u8 0), .v (.int .u8 0), .v (.int .u8 0), .v (.int .u8 0)], [], 5, 8, 1, 2, 1⟩)
theorem tyDns_ok : TyOk Tryz.prog tyDns.1 tyDns.2 := .mk' (by kernel_rfl) (by kernel_rfl) (by decide) (by decide) (by kernel_rfl) (by kernel_rfl)
def tyOrd : TypeId × TI := (98, ⟨true, true, 17, [.v (.int .i64 0), .v (.int .u8 0), .v (.int .u8 0), .v (.int .u8 0), .v (.int .u8 0), .v (.int .u8 0), .v (.int .u8 0), .v (.int .u8 0), .v (.int .u8 0), .v (.int .u8 0), .v (.int .u8 0), .v (.int .u8 0), .v (.int .u8 0), .v (.int .u8 0), .v (.int .u8 0), .v (.int .u8 0), .v (.int .u8 0)], [(0, 1), (1, 8), (9, 8)], 0, 0, 0, 4, 0⟩)
theorem tyOrd_ok : TyOk Tryz.prog tyOrd.1 tyOrd.2 := .mk' (by kernel_rfl) (by kernel_rfl) (by decide) (by decide) (by kernel_rfl) (by kernel_rfl)
def tyTy : TypeId × TI := (36, ⟨true, true, 5, [.v (.int .i64 0), .v (.int .i64 0), .v (.int .i64 0), .v (.int .i64 0), .v (.int .i64 0)], [(0, 1), (1, 1), (2, 2), (4, 1)], 0, 0, 1, 4, 0⟩)
theorem tyTy_ok : TyOk Tryz.prog tyTy.1 tyTy.2 := .mk' (by kernel_rfl) (by kernel_rfl) (by decide) (by decide) (by kernel_rfl) (by kernel_rfl)
def tyTys : TypeId × TI := (43, ⟨true, false, 1, [.v (.slice none 0 0)], [], 36, 0, 40, 1, 5⟩)
theorem tyTys_ok : TyOk Tryz.prog tyTys.1 tyTys.2 := .mk' (by kernel_rfl) (by kernel_rfl) (by decide) (by decide) (by kernel_rfl) (by kernel_rfl)
def tyRule : TypeId × TI := (38, ⟨true, true, 7, [.v (.int .i64 0), .v (.int .i64 0), .v (.int .i64 0), .v (.int .i64 0), .v (.int .i64 0), .v (.int .i64 0), .v (.int .i64 0)], [(0, 5), (5, 1), (6, 1)], 0, 0, 1, 4, 0⟩)
theorem tyRule_ok : TyOk Tryz.prog tyRule.1 tyRule.2 := .mk' (by kernel_rfl) (by kernel_rfl) (by decide) (by decide) (by kernel_rfl) (by kernel_rfl)
def tyTwo : TypeId × TI := (67, ⟨true, true, 10, [.v (.int .i64 0), .v (.int .i64 0), .v (.int .i64 0), .v (.int .i64 0), .v (.int .i64 0), .v (.int .i64 0), .v (.int .i64 0), .v (.int .i64 0), .v (.int .i64 0), .v (.int .i64 0)], [], 36, 2, 40, 2, 5⟩)
theorem tyTwo_ok : TyOk Tryz.prog tyTwo.1 tyTwo.2 := .mk' (by kernel_rfl) (by kernel_rfl) (by decide) (by decide) (by kernel_rfl) (by kernel_rfl)
def tyLook : TypeId × TI := (75, ⟨true, true, 13, [.v (.slice none 0 0), .v (.slice none 0 0), .v (.int .i64 0), .v (.int .i64 0), .v (.int .i64 0), .v (.int .i64 0), .v (.int .i64 0), .v (.int .i64 0), .v (.int .i64 0), .v (.int .i64 0), .v (.int .i64 0), .v (.int .i64 0), .v (.int .i64 0)], [(0, 2), (2, 5), (7, 5), (12, 1)], 0, 0, 0, 4, 0⟩)
theorem tyLook_ok : TyOk Tryz.prog tyLook.1 tyLook.2 := .mk' (by kernel_rfl) (by kernel_rfl) (by decide) (by decide) (by kernel_rfl) (by kernel_rfl)
def tyTab : TypeId × TI := (72, ⟨true, true, 41, [.v .nilFunc, .v .nilFunc, .v .nilFunc, .v .nilFunc, .v .nilFunc, .v .nilFunc, .v .nilFunc, .v .nilFunc, .v .nilFunc, .v .nilFunc, .v .nilFunc, .v .nilFunc, .v .nilFunc, .v .nilFunc, .v .nilFunc, .v .nilFunc, .v .nilFunc, .v .nilFunc, .v .nilFunc, .v .nilFunc, .v .nilFunc, .v .nilFunc, .v .nilFunc, .v .nilFunc, .v .nilFunc, .v .nilFunc, .v .nilFunc, .v .nilFunc, .v .nilFunc, .v .nilFunc, .v .nilFunc, .v .nilFunc, .v .nilFunc, .v .nilFunc, .v .nilFunc, .v .nilFunc, .v .nilFunc, .v .nilFunc, .v .nilFunc, .v .nilFunc, .v .nilFunc], [], 70, 41, 8, 2, 1⟩)
theorem tyTab_ok : TyOk Tryz.prog tyTab.1 tyTab.2 := .mk' (by kernel_rfl) (by kernel_rfl) (by decide) (by decide) (by kernel_rfl) (by kernel_rfl)
def tyRFn : TypeId × TI := (70, ⟨true, false, 1, [.v .nilFunc], [], 0, 0, 0, 6, 0⟩)
theorem tyRFn_ok : TyOk Tryz.prog tyRFn.1 tyRFn.2 := .mk' (by kernel_rfl) (by kernel_rfl) (by decide) (by decide) (by kernel_rfl) (by kernel_rfl)
def tyTOrd : TypeId × TI := (78, ⟨true, true, 3, [.v (.slice none 0 0), .v (.slice none 0 0), .v (.int .i64 0)], [(0, 2), (2, 1)], 0, 0, 0, 4, 0⟩)
theorem tyTOrd_ok : TyOk Tryz.prog tyTOrd.1 tyTOrd.2 := .mk' (by kernel_rfl) (by kernel_rfl) (by decide) (by decide) (by kernel_rfl) (by kernel_rfl)
def tyWith : TypeId × TI := (85, ⟨true, true, 4, [.v (.slice none 0 0), .v (.slice none 0 0), .v (.int .i64 0), .v (.int .i64 0)], [(0, 3), (3, 1)], 0, 0, 0, 4, 0⟩)
theorem tyWith_ok : TyOk Tryz.prog tyWith.1 tyWith.2 := .mk' (by kernel_rfl) (by kernel_rfl) (by decide) (by decide) (by kernel_rfl) (by kernel_rfl)
def tyAppl : TypeId × TI := (45, ⟨true, true, 2, [.v (.int .i64 0), .v (.slice none 0 0)], [(0, 1), (1, 1)], 0, 0, 0, 4, 0⟩)
theorem tyAppl_ok : TyOk Tryz.prog tyAppl.1 tyAppl.2 := .mk' (by kernel_rfl) (by kernel_rfl) (by decide) (by decide) (by kernel_rfl) (by kernel_rfl)
def tyB2 : TypeId × TI := (50, ⟨true, true, 2, [.v (.int .u8 0), .v (.int .u8 0)], [], 5, 2, 1, 2, 1⟩)
theorem tyB2_ok : TyOk Tryz.prog tyB2.1 tyB2.2 := .mk' (by kernel_rfl) (by kernel_rfl) (by decide) (by decide) (by kernel_rfl) (by kernel_rfl)
def tyUint : TypeId × TI := (91, ⟨true, false, 1, [.v (.int .u64 0)], [], 0, 0, 0, 17, 0⟩)
theorem tyUint_ok : TyOk Tryz.prog tyUint.1 tyUint.2 := .mk' (by kernel_rfl) (by kernel_rfl) (by decide) (by decide) (by kernel_rfl) (by kernel_rfl)
def tyU8w : TypeId × TI := (5, ⟨true, false, 1, [.v (.int .u8 0)], [(0, 0)], 0, 0, 0, 14, 0⟩)
theorem tyU8w_ok : TyOk Tryz.prog tyU8w.1 tyU8w.2 := .mk' (by kernel_rfl) (by kernel_rfl) (by decide) (by decide) (by kernel_rfl) (by kernel_rfl)
end Pr
end Go.Proofs.YtnpkmimbnjnicaaGreatDoor
/-
Lattices of labels as masks: what lattice.Check says, joins, the order (plain; chapters 3, 20, 21).
-/
set_option linter.unusedSimpArgs false
set_option linter.unusedVariables false
namespace Go.Proofs.YtnpkmimbnjnicaaGreatDoor
namespace Lt
open Go

theorem bits8 {x y : Int} (hx : 0 ≤ x ∧ x ≤ 255) (hy : 0 ≤ y ∧ y ≤ 255) : bits .and .u8 x y = ((x.toNat &&& y.toNat : Nat) : Int) ∧ bits .or .u8 x y = ((x.toNat ||| y.toNat : Nat) : Int) := by
  obtain ⟨a, rfl⟩ : ∃ a : Nat, x = a := ⟨x.toNat, by omega⟩
  obtain ⟨b, rfl⟩ : ∃ b : Nat, y = b := ⟨y.toNat, by omega⟩
  have ha : a < 2 ^ 8 := by omega
  have hb : b < 2 ^ 8 := by omega
  have h1 : (BitVec.ofInt 8 (a : Int)).toNat = a := by simp [BitVec.toNat_ofInt]; omega
  have h2 : (BitVec.ofInt 8 (b : Int)).toNat = b := by simp [BitVec.toNat_ofInt]; omega
  have hw : ∀ z : Nat, z < 256 → IntKind.wrap .u8 (z : Int) = z := fun z hz => by
    simp only [IntKind.wrap, IntKind.bits, IntKind.signed, IntKind.max, IntKind.min]; (try simp); omega
  refine ⟨?_, ?_⟩
  · show IntKind.wrap .u8 ((BitVec.ofInt 8 (a : Int) &&& BitVec.ofInt 8 (b : Int)).toNat : Int) = _
    rw [BitVec.toNat_and, h1, h2, hw _ (Nat.lt_of_le_of_lt Nat.and_le_left ha)]
    simp
  · show IntKind.wrap .u8 ((BitVec.ofInt 8 (a : Int) ||| BitVec.ofInt 8 (b : Int)).toNat : Int) = _
    rw [BitVec.toNat_or, h1, h2, hw _ (Nat.or_lt_two_pow ha hb)]
    simp
set_option maxRecDepth 100000 in
theorem sh8 : ∀ (x : Fin 256) (b : Fin 8), bits .and .u8 ((x.val : Int) / 2 ^ b.val) 1 = if x.val.testBit b.val then 1 else 0 := by decide +kernel
set_option maxRecDepth 100000 in
theorem tm8 : ∀ (x : Fin 256) (b : Fin 8), ((x.val : Int) / 2 ^ b.val).tmod 2 = if x.val.testBit b.val then 1 else 0 := by decide +kernel
set_option maxRecDepth 100000 in
theorem len8 : ∀ (x : Fin 256) (n : Fin 9), decide ((n.val : Int) < (Lib.bitLen x.val : Int)) = !decide (x.val < 2 ^ n.val) := by decide +kernel
set_option maxRecDepth 100000 in
theorem pop8 : ∀ (x : Fin 256) (n : Fin 9), x.val < 2 ^ n.val → decide ((Lib.onesCount x.val : Int) < (n.val : Int)) = !decide (x.val = 2 ^ n.val - 1) := by decide +kernel
def uN (us : List Int) (a : Nat) : Nat := (us.getD a 0).toNat
def bl (us : List Int) (a b : Nat) : Bool := (uN us a).testBit b
def dN (us : List Int) (b : Nat) : Nat → Nat
  | 0 => 0
  | k + 1 => dN us b k ||| (if bl us k b then 2 ^ k else 0)
theorem dN_bit (us : List Int) (b a : Nat) : ∀ k, (dN us b k).testBit a = (decide (a < k) && bl us a b) := by
  intro k
  induction k with
  | zero => simp [dN]
  | succ k ih =>
    simp only [dN, Nat.testBit_or, ih]
    by_cases hb : bl us k b
    · rw [if_pos hb, Nat.testBit_two_pow]
      by_cases h : k = a
      · subst h; simp [hb]
      · have : (a < k + 1) = (a < k) := by apply propext; omega
        simp [h, this]
    · rw [if_neg hb]
      by_cases h : k = a
      · subst h; simp [hb]
      · have : (a < k + 1) = (a < k) := by apply propext; omega
        simp [this]
theorem dN_lt (us : List Int) (b k : Nat) : dN us b k < 2 ^ k := by
  apply Nat.lt_pow_two_of_testBit
  intro i hi
  rw [dN_bit]; simp; omega
structure Lat (us : List Int) (n : Nat) : Prop where
  pos : 0 < n
  lt : ∀ a, a < n → uN us a < 2 ^ n
  rf : ∀ a, a < n → bl us a a = true
  an : ∀ a b, a < n → b < n → bl us a b = true → bl us b a = true → a = b
  tr : ∀ a b c, a < n → b < n → bl us a b = true → bl us b c = true → bl us a c = true
  jn : ∀ a b, a < n → b < n → ∃ c, c < n ∧ uN us c = uN us a &&& uN us b
  mt : ∀ a b, a < n → b < n → ∃ c, c < n ∧ dN us c n = dN us a n &&& dN us b n
section
variable {us : List Int} {n : Nat}
theorem Lat.bnd (h : Lat us n) {a b : Nat} (ha : a < n) (hb : bl us a b = true) : b < n := by
  rcases Nat.lt_or_ge b n with hl | hl
  · exact hl
  · have := Nat.testBit_lt_two_pow (Nat.lt_of_lt_of_le (h.lt a ha) (Nat.pow_le_pow_right (by decide) hl))
    rw [bl, this] at hb; cases hb
theorem Lat.inj (h : Lat us n) {a b : Nat} (ha : a < n) (hb : b < n) (e : uN us a = uN us b) : a = b := by
  refine h.an a b ha hb ?_ ?_
  · rw [bl, e]; exact h.rf b hb
  · rw [bl, ← e]; exact h.rf a ha
theorem Lat.le_iff (h : Lat us n) {a b : Nat} (ha : a < n) (hb : b < n) : bl us a b = true ↔ uN us a &&& uN us b = uN us b := by
  constructor
  · intro hl
    apply Nat.eq_of_testBit_eq
    intro i
    rw [Nat.testBit_and]
    cases hi : (uN us b).testBit i
    · simp
    · have : (uN us a).testBit i = true := h.tr a b i ha hb hl hi
      simp [this]
  · intro e
    have : (uN us a &&& uN us b).testBit b = true := by rw [e]; exact h.rf b hb
    rw [Nat.testBit_and, Bool.and_eq_true] at this
    exact this.1
theorem Lat.bot (h : Lat us n) : ∃ z, z < n ∧ ∀ b, b < n → bl us z b = true := by
  have key : ∀ k, k < n → ∃ z, z < n ∧ ∀ b, b ≤ k → bl us z b = true := by
    intro k
    induction k with
    | zero => exact fun hk => ⟨0, hk, fun b hb => by rw [Nat.le_zero.1 hb]; exact h.rf 0 hk⟩
    | succ k ih =>
      intro hk
      obtain ⟨z, hz, hb⟩ := ih (by omega)
      obtain ⟨m, hm, e⟩ := h.mt z (k + 1) hz hk
      have h1 : (dN us m n).testBit m = true := by rw [dN_bit]; simp [hm, h.rf m hm]
      rw [e, Nat.testBit_and, Bool.and_eq_true, dN_bit, dN_bit, Bool.and_eq_true, Bool.and_eq_true] at h1
      refine ⟨m, hm, fun b hbk => ?_⟩
      by_cases e : b = k + 1
      · rw [e]; exact h1.2.2
      · exact h.tr m z b hm hz h1.1.2 (hb b (by omega))
  obtain ⟨z, hz, hb⟩ := key (n - 1) (by have := h.pos; omega)
  exact ⟨z, hz, fun b hbn => hb b (by omega)⟩
theorem Lat.full (h : Lat us n) {z : Nat} (hz : z < n) : (∀ b, b < n → bl us z b = true) ↔ uN us z = 2 ^ n - 1 := by
  constructor
  · intro hb
    apply Nat.eq_of_testBit_eq
    intro i
    rw [Nat.testBit_two_pow_sub_one]
    by_cases hi : i < n
    · rw [show (uN us z).testBit i = true from hb i hi]; simp [hi]
    · cases hc : (uN us z).testBit i
      · simp [hi]
      · exact absurd (h.bnd hz hc) hi
  · intro e b hb
    rw [bl, e, Nat.testBit_two_pow_sub_one]; simp [hb]
def ixL (x : Int) : List Int → Int → Int
  | [], _ => -1
  | y :: l, i => bif y == x then i else ixL x l (i + 1)
def jI (us : List Int) (a b : Int) : Int := ixL (bits .and .u8 (us.getD a.toNat 0) (us.getD b.toNat 0)) us 0
theorem ixL_at {x : Int} {l : List Int} {c : Nat} : ∀ {i : Int}, c < l.length → l.getD c 0 = x → (∀ j, j < c → l.getD j 0 ≠ x) → ixL x l i = i + c := by
  induction l generalizing c with
  | nil => intro i h; cases h
  | cons y l ih =>
    intro i h e hj
    cases c with
    | zero =>
      have : y = x := e
      simp [ixL, this]
    | succ c =>
      have h0 := hj 0 (by omega)
      have : (y == x) = false := by simpa using h0
      simp only [ixL, this, cond_false]
      rw [ih (c := c) (by simpa using h) (by simpa using e) (fun j hjc => by simpa using hj (j + 1) (by omega))]
      omega
end
def Bytes (us : List Int) : Prop := ∀ a, 0 ≤ us.getD a 0 ∧ us.getD a 0 ≤ 255
def twice (ns : List ByteArray) (i : Nat) : Bool := (List.range i).any fun k => (ns.getD k ByteArray.empty).toList == (ns.getD i ByteArray.empty).toList
def namedG (nm : ByteArray → Bool) (ns : List ByteArray) : Nat → Nat → Int × Int
  | 0, _ => (0, 0)
  | k + 1, i => bif nm (ns.getD i ByteArray.empty) then (bif twice ns i then ((i : Int), 8) else namedG nm ns k (i + 1)) else ((i : Int), 6)
def ordC (us : List Int) (n a b : Nat) : Bool := bif bl us a b then (bif (bif b == a then false else bl us b a) then false else (uN us b &&& (2 ^ n - 1)) &&& uN us a == uN us b &&& (2 ^ n - 1)) else true
def ordB (us : List Int) (n a : Nat) : Bool := bif decide (uN us a < 2 ^ n) then (bif bl us a a then (List.range n).all (ordC us n a) else false) else false
def ordG (us : List Int) (n : Nat) : Nat → Nat → Int × Int
  | 0, _ => (0, 0)
  | k + 1, i => bif ordB us n i then ordG us n k (i + 1) else ((i : Int), 6)
def nearN (m : Nat → Nat) (n a b : Nat) : Int := ((List.range n).find? fun c => m c == (m a &&& m b)).elim (-1) fun c => (c : Int)
def noB (us : List Int) (n a b : Nat) : Bool := bif decide (nearN (uN us) n a b < 0) then true else decide (nearN (fun b => dN us b n) n a b < 0)
def latG (us : List Int) (n : Nat) : Nat → Nat → Int × Int
  | 0, _ => (0, 0)
  | k + 1, i => bif (List.range n).any (noB us n i) then ((i : Int), 4) else latG us n k (i + 1)
def chkV (nm : ByteArray → Bool) (ns : List ByteArray) (us : List Int) : Int × Int :=
  if ns.length < 1 ∨ 8 < ns.length then (-1, 3) else
  if (namedG nm ns ns.length 0).2 ≠ 0 then namedG nm ns ns.length 0 else
  if us.length ≠ ns.length then (-1, 6) else
  if (ordG us ns.length ns.length 0).2 ≠ 0 then ordG us ns.length ns.length 0 else latG us ns.length ns.length 0
theorem ordG_ok {us : List Int} {n : Nat} : ∀ {k i : Nat}, (ordG us n k i).2 = 0 → ∀ a, i ≤ a → a < i + k → ordB us n a = true := by
  intro k
  induction k with
  | zero => intro i _ a h1 h2; omega
  | succ k ih =>
    intro i h a h1 h2
    simp only [ordG] at h
    cases hb : ordB us n i
    · rw [hb] at h; simp at h
    · rw [hb] at h
      by_cases e : a = i
      · rw [e]; exact hb
      · exact ih h a (by omega) (by omega)
theorem latG_ok {us : List Int} {n : Nat} : ∀ {k i : Nat}, (latG us n k i).2 = 0 → ∀ a, i ≤ a → a < i + k → (List.range n).any (noB us n a) = false := by
  intro k
  induction k with
  | zero => intro i _ a h1 h2; omega
  | succ k ih =>
    intro i h a h1 h2
    simp only [latG] at h
    cases hb : (List.range n).any (noB us n i)
    · rw [hb] at h
      by_cases e : a = i
      · rw [e]; exact hb
      · exact ih h a (by omega) (by omega)
    · rw [hb] at h; simp at h
theorem nearN_ge {m : Nat → Nat} {n a b : Nat} (h : 0 ≤ nearN m n a b) : ∃ c, c < n ∧ m c = m a &&& m b := by
  unfold nearN at h
  cases hf : (List.range n).find? fun c => m c == (m a &&& m b) with
  | none => rw [hf] at h; simp at h
  | some c =>
    obtain ⟨h1, h2, _⟩ := List.find?_range_eq_some.1 hf
    exact ⟨c, List.mem_range.1 h2, by simpa using h1⟩
theorem lat_of {us : List Int} {n : Nat} (hn : 0 < n) (h1 : (ordG us n n 0).2 = 0) (h2 : (latG us n n 0).2 = 0) : Lat us n := by
  have o := fun a (ha : a < n) => ordG_ok h1 a (Nat.zero_le _) (by omega)
  have l := fun a (ha : a < n) => latG_ok h2 a (Nat.zero_le _) (by omega)
  have o1 : ∀ a, a < n → uN us a < 2 ^ n ∧ bl us a a = true ∧ ∀ b, b < n → ordC us n a b = true := fun a ha => by
    have := o a ha
    unfold ordB at this
    cases e1 : decide (uN us a < 2 ^ n) <;> rw [e1] at this
    · simp at this
    · cases e2 : bl us a a <;> rw [e2] at this
      · simp at this
      · refine ⟨of_decide_eq_true e1, rfl, fun b hb => List.all_eq_true.1 this b (List.mem_range.2 hb)⟩
  have o2 : ∀ a b, a < n → b < n → bl us a b = true → (b = a ∨ bl us b a = false) ∧ uN us b &&& uN us a = uN us b := fun a b ha hb hl => by
    have := (o1 a ha).2.2 b hb
    have hm : uN us b &&& (2 ^ n - 1) = uN us b := by rw [Nat.and_two_pow_sub_one_eq_mod, Nat.mod_eq_of_lt (o1 b hb).1]
    unfold ordC at this
    rw [hl, hm] at this
    by_cases e : b = a
    · subst e; simp
    · have e' : (b == a) = false := by simpa using e
      rw [e'] at this
      cases hq : bl us b a <;> rw [hq] at this
      · simp only [cond_true, cond_false] at this
        exact ⟨.inr rfl, eq_of_beq this⟩
      · simp at this
  refine ⟨hn, fun a ha => (o1 a ha).1, fun a ha => (o1 a ha).2.1, fun a b ha hb h1 h2 => ?_, fun a b c ha hb h1 h2 => ?_, fun a b ha hb => ?_, fun a b ha hb => ?_⟩
  · rcases (o2 a b ha hb h1).1 with e | e
    · exact e.symm
    · rw [h2] at e; cases e
  · have := (o2 a b ha hb h1).2
    have h3 : (uN us b &&& uN us a).testBit c = true := by rw [this]; exact h2
    rw [Nat.testBit_and, Bool.and_eq_true] at h3
    exact h3.2
  all_goals
    have hl := l a ha
    have h3 : noB us n a b = false := by
      cases hq : noB us n a b
      · rfl
      · exact absurd (List.any_eq_true.2 ⟨b, List.mem_range.2 hb, hq⟩) (by rw [hl]; simp)
    unfold noB at h3
    cases e1 : decide (nearN (uN us) n a b < 0) <;> rw [e1] at h3
    case true => simp at h3
    simp only [cond_false] at h3
  · exact nearN_ge (by have := of_decide_eq_false e1; omega)
  · exact nearN_ge (m := fun b => dN us b n) (by have := of_decide_eq_false h3; omega)
theorem chk_ok {nm : ByteArray → Bool} {ns : List ByteArray} {us : List Int} (h : (chkV nm ns us).2 = 0) : Lat us us.length ∧ us.length = ns.length ∧ 1 ≤ us.length ∧ us.length ≤ 8 := by
  unfold chkV at h
  split at h
  · simp at h
  · next h1 =>
    split at h
    · next h2 => exact absurd h h2
    · split at h
      · simp at h
      · next h3 =>
        split at h
        · next h4 => exact absurd h h4
        · next h4 =>
          have h3 : us.length = ns.length := Decidable.of_not_not h3
          have h4 := Decidable.of_not_not h4
          rw [h3]
          exact ⟨lat_of (by omega) h4 h, rfl, by omega, by omega⟩
structure Lt (us : List Int) : Prop where
  lat : Lat us us.length
  by8 : Bytes us
  le8 : us.length ≤ 8
def lab (us : List Int) (a : Int) : Prop := 0 ≤ a ∧ a < us.length
def leI (us : List Int) (a b : Int) : Bool := bl us a.toNat b.toNat
def botI (us : List Int) : Int := ixL (2 ^ us.length - 1) us 0
section
variable {us : List Int}
theorem Lt.val (h : Lt us) (a : Nat) : us.getD a 0 = (uN us a : Int) := by
  have := h.by8 a
  unfold uN; omega
theorem ixL_lab (h : Lt us) {m c : Nat} (hc : c < us.length) (e : uN us c = m) : lab us (ixL (m : Int) us 0) ∧ uN us (ixL (m : Int) us 0).toNat = m ∧ (ixL (m : Int) us 0).toNat = c := by
  have : ixL (m : Int) us 0 = 0 + c := ixL_at hc (by rw [h.val, e]) fun j hj hq => by
    rw [h.val] at hq
    have := h.lat.inj (Nat.lt_trans hj hc) hc ((Int.ofNat_inj.1 hq).trans e.symm)
    omega
  rw [this]
  refine ⟨⟨by omega, by omega⟩, ?_, by omega⟩
  rw [show ((0 : Int) + (c : Int)).toNat = c by omega, e]
theorem jI_spec (h : Lt us) {a b : Int} (ha : lab us a) (hb : lab us b) : lab us (jI us a b) ∧ uN us (jI us a b).toNat = uN us a.toNat &&& uN us b.toNat := by
  obtain ⟨c, hc, e⟩ := h.lat.jn a.toNat b.toNat (by have := ha.1; have := ha.2; omega) (by have := hb.1; have := hb.2; omega)
  have hj : jI us a b = ixL ((uN us a.toNat &&& uN us b.toNat : Nat) : Int) us 0 := by
    unfold jI
    rw [(bits8 (h.by8 _) (h.by8 _)).1]; rfl
  rw [hj]
  have := ixL_lab h hc e
  exact ⟨this.1, this.2.1⟩
theorem lab_ext (h : Lt us) {a b : Int} (ha : lab us a) (hb : lab us b) (e : uN us a.toNat = uN us b.toNat) : a = b := by
  have h1 := ha.1; have h2 := ha.2; have h3 := hb.1; have h4 := hb.2
  have := h.lat.inj (a := a.toNat) (b := b.toNat) (by omega) (by omega) e
  omega
theorem botI_spec (h : Lt us) : lab us (botI us) ∧ uN us (botI us).toNat = 2 ^ us.length - 1 := by
  obtain ⟨z, hz, hb⟩ := h.lat.bot
  have e := (h.lat.full hz).1 hb
  have hp : (2 : Int) ^ us.length - 1 = ((2 ^ us.length - 1 : Nat) : Int) := by
    have : 0 < 2 ^ us.length := Nat.two_pow_pos _
    rw [Int.natCast_sub (by omega)]; simp
  unfold botI
  rw [hp]
  have := ixL_lab h hz e
  exact ⟨this.1, this.2.1⟩
theorem bot_le (h : Lt us) {a : Int} (ha : lab us a) : leI us (botI us) a = true := by
  have := botI_spec h
  have h1 := ha.1; have h2 := ha.2; have h3 := this.1.1; have h4 := this.1.2
  exact (h.lat.full (by omega)).2 this.2 a.toNat (by omega)
theorem leI_iff (h : Lt us) {a b : Int} (ha : lab us a) (hb : lab us b) : leI us a b = true ↔ uN us a.toNat &&& uN us b.toNat = uN us b.toNat := by
  have h1 := ha.1; have h2 := ha.2; have h3 := hb.1; have h4 := hb.2
  exact h.lat.le_iff (by omega) (by omega)
theorem leI_jI (h : Lt us) {a b : Int} (ha : lab us a) (hb : lab us b) : leI us a b = true ↔ jI us a b = b := by
  rw [leI_iff h ha hb]
  have := jI_spec h ha hb
  constructor
  · intro e; exact lab_ext h this.1 hb (this.2.trans e)
  · intro e; rw [← this.2, e]
theorem jI_bot (h : Lt us) {a : Int} (ha : lab us a) : jI us (botI us) a = a := (leI_jI h (botI_spec h).1 ha).1 (bot_le h ha)
theorem jI_comm (h : Lt us) {a b : Int} (ha : lab us a) (hb : lab us b) : jI us a b = jI us b a := by
  have h1 := jI_spec h ha hb; have h2 := jI_spec h hb ha
  exact lab_ext h h1.1 h2.1 (by rw [h1.2, h2.2, Nat.and_comm])
theorem jI_bot' (h : Lt us) {a : Int} (ha : lab us a) : jI us a (botI us) = a := (jI_comm h ha (botI_spec h).1).trans (jI_bot h ha)
theorem jI_assoc (h : Lt us) {a b c : Int} (ha : lab us a) (hb : lab us b) (hc : lab us c) : jI us (jI us a b) c = jI us a (jI us b c) := by
  have h1 := jI_spec h ha hb; have h2 := jI_spec h hb hc
  have h3 := jI_spec h h1.1 hc; have h4 := jI_spec h ha h2.1
  exact lab_ext h h3.1 h4.1 (by rw [h3.2, h4.2, h1.2, h2.2, Nat.and_assoc])
theorem jI_self (h : Lt us) {a : Int} (ha : lab us a) : jI us a a = a := by
  have h1 := jI_spec h ha ha
  exact lab_ext h h1.1 ha (by rw [h1.2, Nat.and_self])
theorem leI_refl (h : Lt us) {a : Int} (ha : lab us a) : leI us a a = true := (leI_jI h ha ha).2 (jI_self h ha)
theorem leI_trans (h : Lt us) {a b c : Int} (ha : lab us a) (hb : lab us b) (hc : lab us c) (h1 : leI us a b = true) (h2 : leI us b c = true) : leI us a c = true := by
  rw [leI_jI h ha hb] at h1
  rw [leI_jI h hb hc] at h2
  rw [leI_jI h ha hc]
  rw [← h2, ← jI_assoc h ha hb hc, h1]
theorem leI_l (h : Lt us) {a b : Int} (ha : lab us a) (hb : lab us b) : leI us a (jI us a b) = true := by
  rw [leI_jI h ha (jI_spec h ha hb).1, ← jI_assoc h ha ha hb, jI_self h ha]
theorem leI_r (h : Lt us) {a b : Int} (ha : lab us a) (hb : lab us b) : leI us b (jI us a b) = true := by
  rw [jI_comm h ha hb]; exact leI_l h hb ha
theorem leI_lub (h : Lt us) {a b c : Int} (ha : lab us a) (hb : lab us b) (hc : lab us c) : leI us (jI us a b) c = (leI us a c && leI us b c) := by
  have hj := (jI_spec h ha hb).1
  apply Bool.eq_iff_iff.2
  rw [Bool.and_eq_true]
  constructor
  · intro q
    exact ⟨leI_trans h ha hj hc (leI_l h ha hb) q, leI_trans h hb hj hc (leI_r h ha hb) q⟩
  · rintro ⟨q1, q2⟩
    rw [leI_jI h ha hc] at q1
    rw [leI_jI h hb hc] at q2
    rw [leI_jI h hj hc, jI_assoc h ha hb hc, q2, q1]
theorem leI_mono (h : Lt us) {a b c d : Int} (ha : lab us a) (hb : lab us b) (hc : lab us c) (hd : lab us d) (h1 : leI us a c = true) (h2 : leI us b d = true) : leI us (jI us a b) (jI us c d) = true := by
  have hj := (jI_spec h hc hd).1
  rw [leI_lub h ha hb hj, Bool.and_eq_true]
  exact ⟨leI_trans h ha hc hj h1 (leI_l h hc hd), leI_trans h hb hd hj h2 (leI_r h hc hd)⟩
end
end Lt
end Go.Proofs.YtnpkmimbnjnicaaGreatDoor
/-
The order of a lattice, both ways; the nearest label beyond two (lattice.of, bound, end; chapter 3).
-/
set_option linter.unusedSimpArgs false
set_option linter.unusedVariables false
namespace Go.Proofs.YtnpkmimbnjnicaaGreatDoor
namespace Pr
open Go Go.RowKit En
open Lt
def tlLt : List (TypeId × TI) := [tyInt, tyU8, tyBool, tyStr, tyErr, tyStrs, tyBytes, tyInts, tyLat, tyA8, tyUps, tyDns, tyOrd, tyUint]
theorem tlLt_ok : TyAll Tryz.prog (lookT tlLt) := tyAll_p tyInt_ok <| tyAll_p tyU8_ok <| tyAll_p tyBool_ok <| tyAll_p tyStr_ok <| tyAll_p tyErr_ok <| tyAll_p tyStrs_ok <| tyAll_p tyBytes_ok <| tyAll_p tyInts_ok <| tyAll_p tyLat_ok <| tyAll_p tyA8_ok <| tyAll_p tyUps_ok <| tyAll_p tyDns_ok <| tyAll_p tyOrd_ok <| tyAll_p tyUint_ok tyAll_nil
def gl0 : List (FuncId × Spc) := []
theorem gl0_ok : GOk Tryz.prog (lookG gl0) := lG_nil
def u8L (f : Nat → Int) : List SV := [.v (.int .u8 (f 0)), .v (.int .u8 (f 1)), .v (.int .u8 (f 2)), .v (.int .u8 (f 3)), .v (.int .u8 (f 4)), .v (.int .u8 (f 5)), .v (.int .u8 (f 6)), .v (.int .u8 (f 7))]
def ordL (n : Int) (f g : Nat → Int) : List SV := .v (.int .i64 n) :: (u8L f ++ u8L g)
def upd (f : Nat → Int) (i : Nat) (x : Int) (j : Nat) : Int := if j = i then x else f j
theorem u8L_len {f : Nat → Int} : lenS (u8L f) = 8 := (rfl)
theorem u8L_one {f : Nat → Int} : allOne (u8L f) = true := (rfl)
theorem u8L_non {f : Nat → Int} : nonE (u8L f) = true := (rfl)
theorem ordL_len {n : Int} {f g : Nat → Int} : lenS (ordL n f g) = 17 := (rfl)
theorem ordL_one {n : Int} {f g : Nat → Int} : allOne (ordL n f g) = true := (rfl)
theorem ordL_cut {n : Int} {f g : Nat → Int} : cut (ordL n f g) 0 17 = ordL n f g := (rfl)
theorem ordL_cup {n : Int} {f g : Nat → Int} : cut (ordL n f g) 1 8 = u8L f := (rfl)
theorem ordL_cdn {n : Int} {f g : Nat → Int} : cut (ordL n f g) 9 8 = u8L g := (rfl)
theorem ordL_put {n m : Int} {f g f' g' : Nat → Int} : putAt (ordL n f g) 0 (ordL m f' g') = ordL m f' g' := (rfl)
theorem ordL_put0 {n : Int} {f g : Nat → Int} : putAt [.v (.int .i64 0), .v (.int .u8 0), .v (.int .u8 0), .v (.int .u8 0), .v (.int .u8 0), .v (.int .u8 0), .v (.int .u8 0), .v (.int .u8 0), .v (.int .u8 0), .v (.int .u8 0), .v (.int .u8 0), .v (.int .u8 0), .v (.int .u8 0), .v (.int .u8 0), .v (.int .u8 0), .v (.int .u8 0), .v (.int .u8 0)] 0 (ordL n f g) = ordL n f g := (rfl)
theorem ordL_cells {n : Int} {f g : Nat → Int} : cells (.agg (ordL n f g)) = ordL n f g := (rfl)
theorem ordL_n {n : Int} {f g : Nat → Int} : nth (ordL n f g) 0 = .v (.int .i64 n) := (rfl)
theorem u8L_nth {f : Nat → Int} {i : Nat} (h : i < 8) : nth (u8L f) i = .v (.int .u8 (f i)) := by
  match i, h with
  | 0, _ => rfl
  | 1, _ => rfl
  | 2, _ => rfl
  | 3, _ => rfl
  | 4, _ => rfl
  | 5, _ => rfl
  | 6, _ => rfl
  | 7, _ => rfl
theorem ordL_up {n : Int} {f g : Nat → Int} {i : Nat} {x : Int} (h : i < 8) : putAt (ordL n f g) (1 + i) [.v (.int .u8 x)] = ordL n (upd f i x) g := by
  match i, h with
  | 0, _ => rfl
  | 1, _ => rfl
  | 2, _ => rfl
  | 3, _ => rfl
  | 4, _ => rfl
  | 5, _ => rfl
  | 6, _ => rfl
  | 7, _ => rfl
theorem ordL_dn {n : Int} {f g : Nat → Int} {i : Nat} {x : Int} (h : i < 8) : putAt (ordL n f g) (9 + i) [.v (.int .u8 x)] = ordL n f (upd g i x) := by
  match i, h with
  | 0, _ => rfl
  | 1, _ => rfl
  | 2, _ => rfl
  | 3, _ => rfl
  | 4, _ => rfl
  | 5, _ => rfl
  | 6, _ => rfl
  | 7, _ => rfl
theorem ordL_ndn {n : Int} {f g : Nat → Int} {i : Nat} (h : i < 8) : nth (ordL n f g) (9 + i) = .v (.int .u8 (g i)) := by
  match i, h with
  | 0, _ => rfl
  | 1, _ => rfl
  | 2, _ => rfl
  | 3, _ => rfl
  | 4, _ => rfl
  | 5, _ => rfl
  | 6, _ => rfl
  | 7, _ => rfl
theorem bit_and {f : Nat → Int} (hf : ∀ i, 0 ≤ f i ∧ f i ≤ 255) {x y c : Nat} (hc : c < 8) : bits .and .u8 (bits .and .u8 (f x) (f y) / 2 ^ min c 8) 1 = if ((f x).toNat &&& (f y).toNat).testBit c then 1 else 0 := by
  rw [(bits8 (hf x) (hf y)).1, Nat.min_eq_left (Nat.le_of_lt hc)]
  have h1 := hf x
  have : (f x).toNat &&& (f y).toNat < 256 := Nat.lt_of_le_of_lt Nat.and_le_left (by omega)
  exact sh8 ⟨_, this⟩ ⟨c, hc⟩
theorem near_at {m : Nat → Nat} {n a b c : Nat} (hc : c < n) (h1 : ∀ j, j < c → m j ≠ m a &&& m b) (h2 : m c = m a &&& m b) : nearN m n a b = c := by
  have : (List.range n).find? (fun c => m c == (m a &&& m b)) = some c := List.find?_range_eq_some.2 ⟨by simpa using h2, List.mem_range.2 hc, fun j hj => by have := h1 j hj; simpa using this⟩
  rw [nearN, this]; rfl
theorem near_no {m : Nat → Nat} {n a b : Nat} (h1 : ∀ j, j < n → m j ≠ m a &&& m b) : nearN m n a b = -1 := by
  have : (List.range n).find? (fun c => m c == (m a &&& m b)) = none := List.find?_range_eq_none.2 fun j hj => by have := h1 j hj; simpa using this
  rw [nearN, this]; rfl
def bdI (f : Nat → Int) (b' n a b c : Nat) (tu : TypeId) : SS :=
  ⟨[(4, .p 1000 b' 0), (9, .v (.int .u8 (bits .and .u8 (f a) (f b)))), (18, .v (.int .i64 n)), (19, .v (.int .i64 c))], [(1000, .blk b' (u8L f) tu)], 5096⟩
theorem near_bit {f : Nat → Int} (hf : ∀ i, 0 ≤ f i ∧ f i ≤ 255) {n : Nat} (hn : n ≤ 8) (hr : ∀ i, i < n → (f i).toNat.testBit i = true) {a b c : Nat} (hc : c < n) :
    (bif bits .and .u8 (bits .and .u8 (f a) (f b) / 2 ^ min c 8) 1 == 1 then f c == bits .and .u8 (f a) (f b) else false) = ((f c).toNat == ((f a).toNat &&& (f b).toNat)) := by
  have h1 := hf c
  have e : (f c == bits .and .u8 (f a) (f b)) = ((f c).toNat == ((f a).toNat &&& (f b).toNat)) := by
    rw [(bits8 (hf a) (hf b)).1]
    apply Bool.eq_iff_iff.2
    rw [beq_iff_eq, beq_iff_eq]
    omega
  rw [bit_and hf (by omega : c < 8), e]
  cases hb : ((f a).toNat &&& (f b).toNat).testBit c
  · cases hq : ((f c).toNat == ((f a).toNat &&& (f b).toNat))
    · simp
    · have h2 := hr c hc
      rw [eq_of_beq hq, hb] at h2; cases h2
  · simp
set_option maxRecDepth 100000 in
set_option maxHeartbeats 4000000 in
theorem bnd_any (f : Nat → Int) (hf : ∀ i, 0 ≤ f i ∧ f i ≤ 255) (n : Nat) (hn : n ≤ 8) (hr : ∀ i, i < n → (f i).toNat.testBit i = true) (a b : Nat) (ha : a < n) (hb : b < n) (w : World) :
    Calls Tryz.prog 57 (dens [.agg (u8L f), .v (.int .i64 n), .v (.int .i64 a), .v (.int .i64 b)]).toArray w fun e w' => e = .returned (.int .i64 (nearN (fun i => (f i).toNat) n a b)) ∧ Below w.heap.size w w' := by
  obtain ⟨q, hq⟩ : ∃ q, q = nearN (fun i => (f i).toNat) n a b := ⟨_, rfl⟩
  rw [← hq]
  refine calls_go (args := [.agg (u8L f), .v (.int .i64 n), .v (.int .i64 a), .v (.int .i64 b)]) (hp := []) (nx := 1000) (n := 400) (U := [(1000000, 40)]) (V := []) (tl := tlLt) (gl := gl0) (post := fun s ys => ys = [.v (.int .i64 q)])
    followP tlLt_ok gl0_ok Tryz.func57 rfl (by kernel_rfl) (Nat.le_of_ble_eq_true (by kernel_rfl)) (by kernel_rfl) (by kernel_rfl) (hh_list trivial) (fun _ _ => rfl) ?_ ?_
  · rintro s ys w' rfl H
    exact ⟨rfl, H.below⟩
  intro L F T G nd va hE
  obtain ⟨hL, hF, hs, hv, hT, hG, hR, hI, hJ, hW⟩ := hE
  rw [Tryz.results57] at hF
  simp (maxSteps := 1000000) only [En.nN, En.E, En.evsC, List.map_cons, List.map_nil, ne_eq, En.bitN, Nat.testBit, seval] at hv
  simp only [En.at_nil, En.at_cons, En.ag_nil, En.ag_cons, and_true, tlLt, gl0, tyInt, tyU8, tyBool, tyStr, tyErr, tyStrs, tyBytes, tyInts, tyLat, tyA8, tyUps, tyDns, tyOrd, tyUint] at hT hG
  have a8 : a < 8 := by omega
  have b8 : b < 8 := by omega
  simp (maxSteps := 10000000) only [En.E, En.evsC, List.map_cons, List.map_nil, ne_eq, En.bitN, Nat.testBit, seval, En.vV, hs, hv, hT, hG, hF, u8L_len, u8L_non, u8L_nth, a8, b8, Int.toNat_natCast, Nat.mul_one]
  intro b'
  refine ⟨by omega, by omega, by omega, by omega, ?_⟩
  refine hI {c : Nat // c ≤ n ∧ ∀ j, j < c → (f j).toNat ≠ (f a).toNat &&& (f b).toNat} (fun x => bdI f b' n a b x.1 95) (fun x => n - x.1) _ _ _ ⟨0, Nat.zero_le _, fun j hj => absurd hj (Nat.not_lt_zero j)⟩ (sle_all [1000] (by decide) (by simp only [En.E, En.evsC, List.map_cons, List.map_nil, ne_eq, En.bitN, Nat.testBit, seval, En.slLe, En.hpLe, En.chE, En.allLt, bdI, Int.cast_ofNat_Int])) ?_
  rintro ⟨c, hc, hp⟩
  refine hR 400 _ _ ?_
  by_cases hlt : c < n
  · have d0 : decide ((c : Int) < (n : Int)) = true := decide_eq_true (by omega)
    have c8 : c < 8 := by omega
    have i1 : inr .i64 ((c : Int) + 1) := by simp only [En.inr, En.lo, En.hi]; omega
    simp (maxSteps := 10000000) only [En.E, En.evsC, List.map_cons, List.map_nil, ne_eq, En.bitN, Nat.testBit, seval, En.vV, hs, hv, hT, hG, hF, bdI, d0, u8L_len, u8L_nth, c8, Int.toNat_natCast, Nat.mul_one, i1]
    rw [near_bit hf hn hr hlt]
    refine ⟨by omega, fun _ => ⟨by assumption, by omega, by omega⟩, fun _ => ⟨by assumption, by omega⟩, fun h => ?_, fun h => ⟨⟨c + 1, by omega, fun j hj => ?_⟩, (sle_all [1000] (by decide) (by simp only [En.E, En.evsC, List.map_cons, List.map_nil, ne_eq, En.bitN, Nat.testBit, seval, En.slLe, En.hpLe, En.chE, En.allLt, bdI, Int.natCast_add, Int.cast_ofNat_Int])), by simp only; omega⟩⟩
    · rw [hq, near_at (m := fun i => (f i).toNat) hlt hp (eq_of_beq h)]
    · by_cases e : j = c
      · rw [e]; simpa using h
      · exact hp j (by omega)
  · have d0 : decide ((c : Int) < (n : Int)) = false := decide_eq_false (by omega)
    have hq' : q = -1 := by rw [hq, near_no fun j hj => hp j (by omega)]
    simp (maxSteps := 10000000) only [En.E, En.evsC, List.map_cons, List.map_nil, ne_eq, En.bitN, Nat.testBit, seval, En.vV, hs, hv, hT, hG, hF, bdI, d0, hq']
set_option maxRecDepth 100000 in
set_option maxHeartbeats 4000000 in
theorem bndd_any (f : Nat → Int) (hf : ∀ i, 0 ≤ f i ∧ f i ≤ 255) (n : Nat) (hn : n ≤ 8) (hr : ∀ i, i < n → (f i).toNat.testBit i = true) (a b : Nat) (ha : a < n) (hb : b < n) (w : World) :
    Calls Tryz.prog 58 (dens [.agg (u8L f), .v (.int .i64 n), .v (.int .i64 a), .v (.int .i64 b)]).toArray w fun e w' => e = .returned (.int .i64 (nearN (fun i => (f i).toNat) n a b)) ∧ Below w.heap.size w w' := by
  obtain ⟨q, hq⟩ : ∃ q, q = nearN (fun i => (f i).toNat) n a b := ⟨_, rfl⟩
  rw [← hq]
  refine calls_go (args := [.agg (u8L f), .v (.int .i64 n), .v (.int .i64 a), .v (.int .i64 b)]) (hp := []) (nx := 1000) (n := 400) (U := [(1000000, 40)]) (V := []) (tl := tlLt) (gl := gl0) (post := fun s ys => ys = [.v (.int .i64 q)])
    followP tlLt_ok gl0_ok Tryz.func58 rfl (by kernel_rfl) (Nat.le_of_ble_eq_true (by kernel_rfl)) (by kernel_rfl) (by kernel_rfl) (hh_list trivial) (fun _ _ => rfl) ?_ ?_
  · rintro s ys w' rfl H
    exact ⟨rfl, H.below⟩
  intro L F T G nd va hE
  obtain ⟨hL, hF, hs, hv, hT, hG, hR, hI, hJ, hW⟩ := hE
  rw [Tryz.results58] at hF
  simp (maxSteps := 1000000) only [En.nN, En.E, En.evsC, List.map_cons, List.map_nil, ne_eq, En.bitN, Nat.testBit, seval] at hv
  simp only [En.at_nil, En.at_cons, En.ag_nil, En.ag_cons, and_true, tlLt, gl0, tyInt, tyU8, tyBool, tyStr, tyErr, tyStrs, tyBytes, tyInts, tyLat, tyA8, tyUps, tyDns, tyOrd, tyUint] at hT hG
  have a8 : a < 8 := by omega
  have b8 : b < 8 := by omega
  simp (maxSteps := 10000000) only [En.E, En.evsC, List.map_cons, List.map_nil, ne_eq, En.bitN, Nat.testBit, seval, En.vV, hs, hv, hT, hG, hF, u8L_len, u8L_non, u8L_nth, a8, b8, Int.toNat_natCast, Nat.mul_one]
  intro b'
  refine ⟨by omega, by omega, by omega, by omega, ?_⟩
  refine hI {c : Nat // c ≤ n ∧ ∀ j, j < c → (f j).toNat ≠ (f a).toNat &&& (f b).toNat} (fun x => bdI f b' n a b x.1 96) (fun x => n - x.1) _ _ _ ⟨0, Nat.zero_le _, fun j hj => absurd hj (Nat.not_lt_zero j)⟩ (sle_all [1000] (by decide) (by simp only [En.E, En.evsC, List.map_cons, List.map_nil, ne_eq, En.bitN, Nat.testBit, seval, En.slLe, En.hpLe, En.chE, En.allLt, bdI, Int.cast_ofNat_Int])) ?_
  rintro ⟨c, hc, hp⟩
  refine hR 400 _ _ ?_
  by_cases hlt : c < n
  · have d0 : decide ((c : Int) < (n : Int)) = true := decide_eq_true (by omega)
    have c8 : c < 8 := by omega
    have i1 : inr .i64 ((c : Int) + 1) := by simp only [En.inr, En.lo, En.hi]; omega
    simp (maxSteps := 10000000) only [En.E, En.evsC, List.map_cons, List.map_nil, ne_eq, En.bitN, Nat.testBit, seval, En.vV, hs, hv, hT, hG, hF, bdI, d0, u8L_len, u8L_nth, c8, Int.toNat_natCast, Nat.mul_one, i1]
    rw [near_bit hf hn hr hlt]
    refine ⟨by omega, fun _ => ⟨by assumption, by omega, by omega⟩, fun _ => ⟨by assumption, by omega⟩, fun h => ?_, fun h => ⟨⟨c + 1, by omega, fun j hj => ?_⟩, (sle_all [1000] (by decide) (by simp only [En.E, En.evsC, List.map_cons, List.map_nil, ne_eq, En.bitN, Nat.testBit, seval, En.slLe, En.hpLe, En.chE, En.allLt, bdI, Int.natCast_add, Int.cast_ofNat_Int])), by simp only; omega⟩⟩
    · rw [hq, near_at (m := fun i => (f i).toNat) hlt hp (eq_of_beq h)]
    · by_cases e : j = c
      · rw [e]; simpa using h
      · exact hp j (by omega)
  · have d0 : decide ((c : Int) < (n : Int)) = false := decide_eq_false (by omega)
    have hq' : q = -1 := by rw [hq, near_no fun j hj => hp j (by omega)]
    simp (maxSteps := 10000000) only [En.E, En.evsC, List.map_cons, List.map_nil, ne_eq, En.bitN, Nat.testBit, seval, En.vV, hs, hv, hT, hG, hF, bdI, d0, hq']
end Pr
end Go.Proofs.YtnpkmimbnjnicaaGreatDoor
/-
lattice.of: both directions of an order (chapter 3).
-/
set_option linter.unusedSimpArgs false
set_option linter.unusedVariables false
namespace Go.Proofs.YtnpkmimbnjnicaaGreatDoor
namespace Pr
open Go Go.RowKit En
open Lt
def upF (us : List Int) (k i : Nat) : Int := if i < k then us.getD i 0 else 0
def dnF (us : List Int) (n k j b : Nat) : Int := if b < n then (if b < j then (dN us b (k + 1) : Nat) else (dN us b k : Nat)) else 0
def ofHp (b : Nat) (A B : Option Addr) (c d : Nat) (ns : List ByteArray) (us : List Int) : Hp := [(0, .cst b 0 [.g 1 A ns.length c, .g 2 B us.length d]), (1, .strs A c ns), (2, .ints B d .u8 us)]
def ofI (b b2 b3 : Nat) (A B : Option Addr) (c d : Nat) (ns : List ByteArray) (us : List Int) (k : Nat) : SS :=
  ⟨[(2, .p 1000 b2 0), (3, .p 1512 b3 0), (16, .g 2 B us.length d), (17, .v (.int .i64 us.length)), (18, .v (.int .i64 k))], (1000, .blk b2 (ordL 0 (fun _ => 0) (fun _ => 0)) 98) :: (1512, .blk b3 (ordL ns.length (upF us k) (dnF us ns.length k 0)) 98) :: ofHp b A B c d ns us, 6000⟩
def ofJ (b b2 b3 : Nat) (A B : Option Addr) (c d : Nat) (ns : List ByteArray) (us : List Int) (k j : Nat) : SS :=
  ⟨[(2, .p 1000 b2 0), (3, .p 1512 b3 0), (16, .g 2 B us.length d), (17, .v (.int .i64 us.length)), (18, .v (.int .i64 k)), (4, .v (.int .i64 k)), (5, .v (.int .u8 (us.getD k 0))), (28, .v (.int .i64 ns.length)), (29, .v (.int .i64 j))], (1000, .blk b2 (ordL 0 (fun _ => 0) (fun _ => 0)) 98) :: (1512, .blk b3 (ordL ns.length (upF us (k + 1)) (dnF us ns.length k j)) 98) :: ofHp b A B c d ns us, 8000⟩
theorem up_next {us : List Int} {k : Nat} : upd (upF us k) k (us.getD k 0) = upF us (k + 1) := by
  funext i
  unfold upd upF
  by_cases h : i = k
  · subst h; simp
  · simp only [h, if_false]
    have : (i < k + 1) = (i < k) := by apply propext; omega
    simp only [this]
theorem dn_next {us : List Int} (hu : Bytes us) {n k j : Nat} (hj : j < n) (hk : k < 8) (h8 : n ≤ 8) : upd (dnF us n k j) j (bits .or .u8 (dnF us n k j j) (bits .and .u8 (us.getD k 0 / 2 ^ min j 8) 1 * 2 ^ min k 8)) = dnF us n k (j + 1) := by
  funext i
  unfold upd
  by_cases h : i = j
  · subst h
    have e1 : dnF us n k i i = (dN us i k : Nat) := by simp [dnF, hj]
    have e2 : dnF us n k (i + 1) i = (dN us i (k + 1) : Nat) := by simp [dnF, hj]
    have h1 := hu k
    have hb : bits .and .u8 (us.getD k 0 / 2 ^ min i 8) 1 = if bl us k i then 1 else 0 := by
      rw [Nat.min_eq_left (by omega : i ≤ 8)]
      have := sh8 ⟨(us.getD k 0).toNat, by omega⟩ ⟨i, by omega⟩
      simp only [Int.toNat_of_nonneg h1.1] at this
      exact this
    have h256 : dN us i k < 256 := Nat.lt_of_lt_of_le (dN_lt us i k) (Nat.le_trans (Nat.pow_le_pow_right (by decide) (by omega : k ≤ 8)) (by decide))
    have hp : 2 ^ k ≤ 128 := Nat.le_trans (Nat.pow_le_pow_right (by decide) (by omega : k ≤ 7)) (by decide)
    rw [if_pos rfl, e1, e2, hb, Nat.min_eq_left (by omega : k ≤ 8)]
    simp only [dN]
    by_cases hbl : bl us k i = true
    · rw [if_pos hbl, if_pos hbl, Int.one_mul]
      have hc : ((2 : Int) ^ k) = ((2 ^ k : Nat) : Int) := by simp
      rw [hc]
      generalize 2 ^ k = z at hp ⊢
      rw [(bits8 ⟨by omega, by omega⟩ ⟨by omega, by omega⟩).2]
      simp
    · rw [if_neg hbl, if_neg hbl, Int.zero_mul, (bits8 ⟨by omega, by omega⟩ ⟨by decide, by decide⟩).2]
      simp
  · simp only [h, if_false, dnF]
    have : (i < j + 1) = (i < j) := by apply propext; omega
    simp only [this]
theorem dn_end {us : List Int} {n k : Nat} : dnF us n k n = dnF us n (k + 1) 0 := by
  funext i
  unfold dnF
  by_cases h : i < n <;> simp [h]
theorem sh_in {us : List Int} (hu : Bytes us) {k j : Nat} (hk : k < 8) (hj : j < 8) : inr .u8 (bits .and .u8 (us.getD k 0 / 2 ^ min j 8) 1 * 2 ^ min k 8) := by
  have h1 := hu k
  have hb : bits .and .u8 (us.getD k 0 / 2 ^ min j 8) 1 = if bl us k j then 1 else 0 := by
    rw [Nat.min_eq_left (by omega : j ≤ 8)]
    have := sh8 ⟨(us.getD k 0).toNat, by omega⟩ ⟨j, by omega⟩
    simp only [Int.toNat_of_nonneg h1.1] at this
    exact this
  have hp : 2 ^ k ≤ 128 := Nat.le_trans (Nat.pow_le_pow_right (by decide) (by omega : k ≤ 7)) (by decide)
  have hc : ((2 : Int) ^ k) = ((2 ^ k : Nat) : Int) := by simp
  rw [hb, Nat.min_eq_left (by omega : k ≤ 8), hc]
  generalize 2 ^ k = z at hp ⊢
  simp only [En.inr, En.lo, En.hi]
  split <;> omega
theorem ord0 {n : Int} : ordL n (fun _ => 0) (fun _ => 0) = [SV.v (Value.int IntKind.i64 n), SV.v (Value.int IntKind.u8 0), SV.v (Value.int IntKind.u8 0), SV.v (Value.int IntKind.u8 0), SV.v (Value.int IntKind.u8 0), SV.v (Value.int IntKind.u8 0), SV.v (Value.int IntKind.u8 0), SV.v (Value.int IntKind.u8 0), SV.v (Value.int IntKind.u8 0), SV.v (Value.int IntKind.u8 0), SV.v (Value.int IntKind.u8 0), SV.v (Value.int IntKind.u8 0), SV.v (Value.int IntKind.u8 0), SV.v (Value.int IntKind.u8 0), SV.v (Value.int IntKind.u8 0), SV.v (Value.int IntKind.u8 0), SV.v (Value.int IntKind.u8 0)] := (rfl)
theorem up0 {us : List Int} : upF us 0 = fun _ => 0 := by funext i; simp [upF]
theorem dn0 {us : List Int} {n : Nat} : dnF us n 0 0 = fun _ => 0 := by funext i; simp [dnF, dN]
set_option maxRecDepth 100000 in
set_option maxHeartbeats 4000000 in
theorem of_any (b : Nat) (A B : Option Addr) (c d : Nat) (ns : List ByteArray) (us : List Int) (hu : Bytes us) (hl : us.length = ns.length) (hn : ns.length ≤ 8) (w : World) (hg : allRd w.heap.size w (ofHp b A B c d ns us)) :
    Calls Tryz.prog 56 (dens [.p 0 b 0]).toArray w fun e w' => e = .returned (den (.agg (ordL ns.length (upF us us.length) (dnF us ns.length us.length 0)))) ∧ Below w.heap.size w w' := by
  refine calls_go (args := [.p 0 b 0]) (hp := ofHp b A B c d ns us) (nx := 1000) (n := 400) (U := [(1000000, 60)]) (V := []) (tl := tlLt) (gl := gl0) (post := fun s ys => ys = [.agg (ordL ns.length (upF us us.length) (dnF us ns.length us.length 0))])
    followP tlLt_ok gl0_ok Tryz.func56 rfl (by kernel_rfl) (Nat.le_of_ble_eq_true (by kernel_rfl)) (by kernel_rfl) (by kernel_rfl) (hh_list hg) (free_list (by simp [allLt, ofHp])) ?_ ?_
  · rintro s ys w' rfl H
    exact ⟨rfl, H.below⟩
  intro L F T G nd va hE
  obtain ⟨hL, hF, hs, hv, hT, hG, hR, hI, hJ, hW⟩ := hE
  rw [Tryz.results56] at hF
  simp (maxSteps := 1000000) only [En.nN, En.E, En.evsC, List.map_cons, List.map_nil, ne_eq, En.bitN, Nat.testBit, seval] at hv
  simp only [En.at_nil, En.at_cons, En.ag_nil, En.ag_cons, and_true, tlLt, gl0, tyInt, tyU8, tyBool, tyStr, tyErr, tyStrs, tyBytes, tyInts, tyLat, tyA8, tyUps, tyDns, tyOrd, tyUint] at hT hG
  simp (maxSteps := 10000000) only [En.E, En.evsC, List.map_cons, List.map_nil, ne_eq, En.bitN, Nat.testBit, seval, En.vV, hs, hv, hT, hG, hF, ofHp]
  intro b2 b3
  refine hI {k : Nat // k ≤ us.length} (fun x => ofI b b2 b3 A B c d ns us x.1) (fun x => us.length - x.1) _ _ _ ⟨0, Nat.zero_le _⟩ (sle_all [1000, 1512, 0, 1, 2] (by decide) (by simp only [En.E, En.evsC, List.map_cons, List.map_nil, ne_eq, En.bitN, Nat.testBit, seval, En.slLe, En.hpLe, En.chE, En.allLt, ofI, ofHp, up0, dn0, ord0, Int.cast_ofNat_Int])) ?_
  rintro ⟨k, hk⟩
  refine hR 400 _ _ ?_
  by_cases hlt : k < us.length
  · have d0 : decide ((k : Int) < (us.length : Int)) = true := decide_eq_true (by omega)
    have k8 : k < 8 := by omega
    simp (maxSteps := 10000000) only [En.E, En.evsC, List.map_cons, List.map_nil, ne_eq, En.bitN, Nat.testBit, seval, En.vV, hs, hv, hT, hG, hF, ofI, ofHp, d0, Int.toNat_natCast, Nat.mul_one, Nat.add_zero, ordL_len, ordL_one, ordL_up, k8, ordL_n, up_next]
    refine ⟨by omega, by omega, by omega, by omega, ?_⟩
    refine hI {j : Nat // j ≤ ns.length} (fun x => ofJ b b2 b3 A B c d ns us k x.1) (fun x => ns.length - x.1) _ _ _ ⟨0, Nat.zero_le _⟩ (sle_all [1000, 1512, 0, 1, 2] (by decide) (by simp only [En.E, En.evsC, List.map_cons, List.map_nil, ne_eq, En.bitN, Nat.testBit, seval, En.slLe, En.hpLe, En.chE, En.allLt, ofJ, ofHp, Int.cast_ofNat_Int])) ?_
    rintro ⟨j, hj⟩
    refine hR 400 _ _ ?_
    have i1 : inr .i64 ((k : Int) + 1) := by simp only [En.inr, En.lo, En.hi]; omega
    by_cases hjl : j < ns.length
    · have d1 : decide ((j : Int) < (ns.length : Int)) = true := decide_eq_true (by omega)
      have j8 : j < 8 := by omega
      have i2 : inr .i64 ((j : Int) + 1) := by simp only [En.inr, En.lo, En.hi]; omega
      simp (maxSteps := 10000000) only [En.E, En.evsC, List.map_cons, List.map_nil, ne_eq, En.bitN, Nat.testBit, seval, En.vV, hs, hv, hT, hG, hF, ofJ, ofHp, d1, Int.toNat_natCast, Nat.mul_one, Nat.add_zero, ordL_len, ordL_one, ordL_dn, ordL_ndn, j8, ordL_n, dn_next hu hjl k8 hn, i2]
      refine ⟨by omega, by omega, by omega, ⟨by omega, sh_in hu k8 j8⟩, by omega, by omega, ⟨j + 1, by omega⟩, (sle_all [1000, 1512, 0, 1, 2] (by decide) (by simp only [En.E, En.evsC, List.map_cons, List.map_nil, ne_eq, En.bitN, Nat.testBit, seval, En.slLe, En.hpLe, En.chE, En.allLt, ofJ, ofHp, Int.natCast_add, Int.cast_ofNat_Int])), by simp only; omega⟩
    · have d1 : decide ((j : Int) < (ns.length : Int)) = false := decide_eq_false (by omega)
      have e : j = ns.length := by omega
      subst e
      simp (maxSteps := 10000000) only [En.E, En.evsC, List.map_cons, List.map_nil, ne_eq, En.bitN, Nat.testBit, seval, En.vV, hs, hv, hT, hG, hF, ofJ, ofHp, d1, dn_end, i1]
      exact ⟨⟨k + 1, by omega⟩, (sle_all [1000, 1512, 0, 1, 2] (by decide) (by simp only [En.E, En.evsC, List.map_cons, List.map_nil, ne_eq, En.bitN, Nat.testBit, seval, En.slLe, En.hpLe, En.chE, En.allLt, ofI, ofHp, Int.natCast_add, Int.cast_ofNat_Int])), by simp only; omega⟩
  · have d0 : decide ((k : Int) < (us.length : Int)) = false := decide_eq_false (by omega)
    have e : k = us.length := by omega
    subst e
    simp (maxSteps := 10000000) only [En.E, En.evsC, List.map_cons, List.map_nil, ne_eq, En.bitN, Nat.testBit, seval, En.vV, hs, hv, hT, hG, hF, ofI, ofHp, d0, ordL_len, ordL_one, ordL_cut, ordL_put]
def popS : ByteArray := { data := (([0, 1, 1, 2, 1, 2, 2, 3, 1, 2, 2, 3, 2, 3, 3, 4, 1, 2, 2, 3, 2, 3, 3, 4, 2, 3, 3, 4, 3, 4, 4, 5, 1, 2, 2, 3, 2, 3, 3, 4, 2, 3, 3, 4, 3, 4, 4, 5, 2, 3, 3, 4, 3, 4, 4, 5, 3, 4, 4, 5, 4, 5, 5, 6].append [1, 2, 2, 3, 2, 3, 3, 4, 2, 3, 3, 4, 3, 4, 4, 5, 2, 3, 3, 4, 3, 4, 4, 5, 3, 4, 4, 5, 4, 5, 5, 6, 2, 3, 3, 4, 3, 4, 4, 5, 3, 4, 4, 5, 4, 5, 5, 6, 3, 4, 4, 5, 4, 5, 5, 6, 4, 5, 5, 6, 5, 6, 6, 7]).append ([1, 2, 2, 3, 2, 3, 3, 4, 2, 3, 3, 4, 3, 4, 4, 5, 2, 3, 3, 4, 3, 4, 4, 5, 3, 4, 4, 5, 4, 5, 5, 6, 2, 3, 3, 4, 3, 4, 4, 5, 3, 4, 4, 5, 4, 5, 5, 6, 3, 4, 4, 5, 4, 5, 5, 6, 4, 5, 5, 6, 5, 6, 6, 7].append [2, 3, 3, 4, 3, 4, 4, 5, 3, 4, 4, 5, 4, 5, 5, 6, 3, 4, 4, 5, 4, 5, 5, 6, 4, 5, 5, 6, 5, 6, 6, 7, 3, 4, 4, 5, 4, 5, 5, 6, 4, 5, 5, 6, 5, 6, 6, 7, 4, 5, 5, 6, 5, 6, 6, 7, 5, 6, 6, 7, 6, 7, 7, 8])).toArray }
theorem pop_at : ∀ x : Fin 256, chr popS (x.val : Int) = (Lib.onesCount x.val : Int) := by decide +kernel
theorem pop_sz : popS.size = 256 := by decide +kernel
set_option maxRecDepth 100000 in
theorem ones_any (x : Int) (h : 0 ≤ x ∧ x ≤ 255) (w : World) : Calls Tryz.prog 108 #[.int .u8 x] w fun e w' => e = .returned (.int .i64 (Lib.onesCount x.toNat)) ∧ Below w.heap.size w w' := by
  refine calls_go (args := [.v (.int .u8 x)]) (hp := []) (nx := 1000) (n := 100) (U := []) (V := []) (tl := tlLt) (gl := gl0) (post := fun s ys => ys = [.v (.int .i64 (Lib.onesCount x.toNat))])
    followP tlLt_ok gl0_ok Tryz.func108 rfl (by kernel_rfl) (Nat.le_of_ble_eq_true (by kernel_rfl)) (by kernel_rfl) (by kernel_rfl) (hh_list trivial) (fun _ _ => rfl) ?_ ?_
  · rintro s ys w' rfl H
    exact ⟨rfl, H.below⟩
  intro L F T G nd va hE
  obtain ⟨hL, hF, hs, hv, hT, hG, hR, hI, hJ, hW⟩ := hE
  rw [Tryz.results108] at hF
  simp (maxSteps := 1000000) only [En.nN, En.E, En.evsC, List.map_cons, List.map_nil, ne_eq, En.bitN, Nat.testBit, seval] at hv
  simp only [En.at_nil, En.at_cons, En.ag_nil, En.ag_cons, and_true, tlLt, gl0, tyInt, tyU8, tyBool, tyStr, tyErr, tyStrs, tyBytes, tyInts, tyLat, tyA8, tyUps, tyDns, tyOrd, tyUint] at hT hG
  have e := pop_at ⟨x.toNat, by omega⟩
  simp only [Int.toNat_of_nonneg h.1] at e
  have e2 : (popS.size : Int) = 256 := by rw [pop_sz]; rfl
  have e3 := Lib.onesCount_le8 ⟨x.toNat, by omega⟩
  simp only at e3
  simp (maxSteps := 10000000) only [En.E, En.evsC, List.map_cons, List.map_nil, ne_eq, En.bitN, Nat.testBit, seval, En.vV, hs, hv, hT, hG, hF, ]
  refine ⟨⟨h.1, ?_⟩, ?_, ?_⟩
  · show x < (popS.size : Int)
    omega
  · show inr .i64 (chr popS x)
    rw [e]
    simp only [En.inr, En.lo, En.hi]
    omega
  · show [SV.v (Value.int IntKind.i64 (chr popS x))] = _
    rw [e]
def spOnes : Spc
  | [.v (.int .u8 x)], _, _ => .is (0 ≤ x ∧ x ≤ 255) (.v (.int .i64 (Lib.onesCount x.toNat)))
  | _, _, _ => .bad
theorem spOnes_q {x : Int} {H : Nat → Ch} {nx : Nat} : spOnes [.v (.int .u8 x)] H nx = .is (0 ≤ x ∧ x ≤ 255) (.v (.int .i64 (Lib.onesCount x.toNat))) := (rfl)
theorem spOnes_ok : SpecOk Tryz.prog 108 spOnes := specOk_is fun args H nx => by
  unfold spOnes; split
  · exact fun h w => ones_any _ h w
  · trivial
def lenS8 : ByteArray := { data := (([0, 1, 2, 2, 3, 3, 3, 3, 4, 4, 4, 4, 4, 4, 4, 4, 5, 5, 5, 5, 5, 5, 5, 5, 5, 5, 5, 5, 5, 5, 5, 5, 6, 6, 6, 6, 6, 6, 6, 6, 6, 6, 6, 6, 6, 6, 6, 6, 6, 6, 6, 6, 6, 6, 6, 6, 6, 6, 6, 6, 6, 6, 6, 6].append [7, 7, 7, 7, 7, 7, 7, 7, 7, 7, 7, 7, 7, 7, 7, 7, 7, 7, 7, 7, 7, 7, 7, 7, 7, 7, 7, 7, 7, 7, 7, 7, 7, 7, 7, 7, 7, 7, 7, 7, 7, 7, 7, 7, 7, 7, 7, 7, 7, 7, 7, 7, 7, 7, 7, 7, 7, 7, 7, 7, 7, 7, 7, 7]).append ([8, 8, 8, 8, 8, 8, 8, 8, 8, 8, 8, 8, 8, 8, 8, 8, 8, 8, 8, 8, 8, 8, 8, 8, 8, 8, 8, 8, 8, 8, 8, 8, 8, 8, 8, 8, 8, 8, 8, 8, 8, 8, 8, 8, 8, 8, 8, 8, 8, 8, 8, 8, 8, 8, 8, 8, 8, 8, 8, 8, 8, 8, 8, 8].append [8, 8, 8, 8, 8, 8, 8, 8, 8, 8, 8, 8, 8, 8, 8, 8, 8, 8, 8, 8, 8, 8, 8, 8, 8, 8, 8, 8, 8, 8, 8, 8, 8, 8, 8, 8, 8, 8, 8, 8, 8, 8, 8, 8, 8, 8, 8, 8, 8, 8, 8, 8, 8, 8, 8, 8, 8, 8, 8, 8, 8, 8, 8, 8])).toArray }
theorem len_at : ∀ x : Fin 256, chr lenS8 (x.val : Int) = (Lib.bitLen x.val : Int) := by decide +kernel
theorem len_sz : lenS8.size = 256 := by decide +kernel
set_option maxRecDepth 100000 in
theorem len8_any (x : Int) (h : 0 ≤ x ∧ x ≤ 255) (w : World) : Calls Tryz.prog 55 #[.int .u8 x] w fun e w' => e = .returned (.int .i64 (Lib.bitLen x.toNat)) ∧ Below w.heap.size w w' := by
  refine calls_go (args := [.v (.int .u8 x)]) (hp := []) (nx := 1000) (n := 100) (U := []) (V := []) (tl := tlLt) (gl := gl0) (post := fun s ys => ys = [.v (.int .i64 (Lib.bitLen x.toNat))])
    followP tlLt_ok gl0_ok Tryz.func55 rfl (by kernel_rfl) (Nat.le_of_ble_eq_true (by kernel_rfl)) (by kernel_rfl) (by kernel_rfl) (hh_list trivial) (fun _ _ => rfl) ?_ ?_
  · rintro s ys w' rfl H
    exact ⟨rfl, H.below⟩
  intro L F T G nd va hE
  obtain ⟨hL, hF, hs, hv, hT, hG, hR, hI, hJ, hW⟩ := hE
  rw [Tryz.results55] at hF
  simp (maxSteps := 1000000) only [En.nN, En.E, En.evsC, List.map_cons, List.map_nil, ne_eq, En.bitN, Nat.testBit, seval] at hv
  simp only [En.at_nil, En.at_cons, En.ag_nil, En.ag_cons, and_true, tlLt, gl0, tyInt, tyU8, tyBool, tyStr, tyErr, tyStrs, tyBytes, tyInts, tyLat, tyA8, tyUps, tyDns, tyOrd, tyUint] at hT hG
  have e := len_at ⟨x.toNat, by omega⟩
  simp only [Int.toNat_of_nonneg h.1] at e
  have e2 : (lenS8.size : Int) = 256 := by rw [len_sz]; rfl
  have e3 := Lib.bitLen_le8 ⟨x.toNat, by omega⟩
  simp only at e3
  simp (maxSteps := 10000000) only [En.E, En.evsC, List.map_cons, List.map_nil, ne_eq, En.bitN, Nat.testBit, seval, En.vV, hs, hv, hT, hG, hF, ]
  refine ⟨⟨h.1, ?_⟩, ?_, ?_⟩
  · show x < (lenS8.size : Int)
    omega
  · show inr .i64 (chr lenS8 x)
    rw [e]
    simp only [En.inr, En.lo, En.hi]
    omega
  · show [SV.v (Value.int IntKind.i64 (chr lenS8 x))] = _
    rw [e]
def spLen8 : Spc
  | [.v (.int .u8 x)], _, _ => .is (0 ≤ x ∧ x ≤ 255) (.v (.int .i64 (Lib.bitLen x.toNat)))
  | _, _, _ => .bad
theorem spLen8_q {x : Int} {H : Nat → Ch} {nx : Nat} : spLen8 [.v (.int .u8 x)] H nx = .is (0 ≤ x ∧ x ≤ 255) (.v (.int .i64 (Lib.bitLen x.toNat))) := (rfl)
theorem spLen8_ok : SpecOk Tryz.prog 55 spLen8 := specOk_is fun args H nx => by
  unfold spLen8; split
  · exact fun h w => len8_any _ h w
  · trivial
end Pr
end Go.Proofs.YtnpkmimbnjnicaaGreatDoor
/-
Contracts of lattice.bound, lattice.end (chapter 3).
-/
set_option linter.unusedSimpArgs false
set_option linter.unusedVariables false
namespace Go.Proofs.YtnpkmimbnjnicaaGreatDoor
namespace Pr
open Go Go.RowKit En
open Lt
def unI : SV → Int
  | .v (.int .u8 x) => x
  | _ => 0
def bndR (l : List SV) (n a b : Int) : Prop := (l = u8L fun i => unI (nth l i)) ∧ (∀ i, 0 ≤ unI (nth l i) ∧ unI (nth l i) ≤ 255) ∧ n ≤ 8 ∧ 0 ≤ a ∧ a < n ∧ 0 ≤ b ∧ b < n ∧ ∀ i : Nat, (i : Int) < n → (unI (nth l i)).toNat.testBit i = true
def nearS (l : List SV) (n a b : Int) : Int := nearN (fun i => (unI (nth l i)).toNat) n.toNat a.toNat b.toNat
def spBnd : Spc
  | [.agg l, .v (.int .i64 n), .v (.int .i64 a), .v (.int .i64 b)], _, _ => .is (bndR l n a b) (.v (.int .i64 (nearS l n a b)))
  | _, _, _ => .bad
theorem spBnd_q {l : List SV} {n a b : Int} {H : Nat → Ch} {nx : Nat} : spBnd [.agg l, .v (.int .i64 n), .v (.int .i64 a), .v (.int .i64 b)] H nx = .is (bndR l n a b) (.v (.int .i64 (nearS l n a b))) := (rfl)
theorem spBnd_ok : SpecOk Tryz.prog 57 spBnd := specOk_is fun args H nx => by
  unfold spBnd; split
  · next l n a b =>
    rintro ⟨h1, h2, h3, h4, h5, h6, h7, h8⟩ w
    have := bnd_any (fun i => unI (nth l i)) h2 n.toNat (by omega) (fun i hi => h8 i (by omega)) a.toNat b.toNat (by omega) (by omega) w
    rw [← h1, Int.toNat_of_nonneg (by omega), Int.toNat_of_nonneg h4, Int.toNat_of_nonneg h6] at this
    exact this
  · trivial
theorem spBndd_ok : SpecOk Tryz.prog 58 spBnd := specOk_is fun args H nx => by
  unfold spBnd; split
  · next l n a b =>
    rintro ⟨h1, h2, h3, h4, h5, h6, h7, h8⟩ w
    have := bndd_any (fun i => unI (nth l i)) h2 n.toNat (by omega) (fun i hi => h8 i (by omega)) a.toNat b.toNat (by omega) (by omega) w
    rw [← h1, Int.toNat_of_nonneg (by omega), Int.toNat_of_nonneg h4, Int.toNat_of_nonneg h6] at this
    exact this
  · trivial
theorem find_congr {p q : Nat → Bool} : ∀ {l : List Nat}, (∀ x ∈ l, p x = q x) → l.find? p = l.find? q := by
  intro l
  induction l with
  | nil => intro _; rfl
  | cons x l ih =>
    intro h
    rw [List.find?_cons, List.find?_cons, h x (by simp), ih fun y hy => h y (by simp [hy])]
theorem near_congr {m m' : Nat → Nat} {n a b : Nat} (h : ∀ i, i < n → m i = m' i) (ha : a < n) (hb : b < n) : nearN m n a b = nearN m' n a b := by
  unfold nearN
  rw [find_congr fun x hx => by rw [h x (List.mem_range.1 hx), h a ha, h b hb]]
theorem unI_u8 {f : Nat → Int} {i : Nat} (h : i < 8) : unI (nth (u8L f) i) = f i := by rw [u8L_nth h]; rfl
theorem u8L_of {f g : Nat → Int} (h : ∀ i, i < 8 → f i = g i) : u8L f = u8L g := by
  unfold u8L
  rw [h 0 (by decide), h 1 (by decide), h 2 (by decide), h 3 (by decide), h 4 (by decide), h 5 (by decide), h 6 (by decide), h 7 (by decide)]
theorem nth_far {f : Nat → Int} {i : Nat} (h : 8 ≤ i) : nth (u8L f) i = .un := by
  obtain ⟨k, rfl⟩ : ∃ k, i = k + 8 := ⟨i - 8, by omega⟩
  simp only [u8L, nth]
theorem bndR_u8 {f : Nat → Int} (hf : ∀ i, 0 ≤ f i ∧ f i ≤ 255) {n a b : Nat} (hn : n ≤ 8) (ha : a < n) (hb : b < n) (hr : ∀ i, i < n → (f i).toNat.testBit i = true) : bndR (u8L f) n a b := by
  refine ⟨u8L_of fun i hi => (unI_u8 hi).symm, fun i => ?_, by omega, by omega, by omega, by omega, by omega, fun i hi => ?_⟩
  · by_cases h : i < 8
    · rw [unI_u8 h]; exact hf i
    · rw [nth_far (by omega)]; decide
  · rw [unI_u8 (by omega)]; exact hr i (by omega)
theorem nearS_u8 {f : Nat → Int} {n a b : Nat} (hn : n ≤ 8) (ha : a < n) (hb : b < n) : nearS (u8L f) n a b = nearN (fun i => (f i).toNat) n a b := by
  unfold nearS
  rw [Int.toNat_natCast, Int.toNat_natCast, Int.toNat_natCast]
  exact near_congr (fun i hi => by rw [unI_u8 (by omega)]) ha hb
def glEn : List (FuncId × Spc) := [(108, spOnes)]
theorem glEn_ok : GOk Tryz.prog (lookG glEn) := lG_cons (by kernel_rfl) spOnes_ok lG_nil
def enI (us : List Int) (b n a : Nat) : SS := ⟨[(1, .v (.int .i64 n)), (2, .p 1000 b 0), (5, .v (.int .i64 a))], [(1000, .blk b (u8L (upF us us.length)) 95)], 8000⟩
theorem upF_at {us : List Int} {i : Nat} : upF us us.length i = us.getD i 0 := by
  unfold upF
  split
  · rfl
  · next h => rw [List.getD_eq_getElem?_getD, List.getElem?_eq_none (by omega)]; rfl
theorem bot_of {us : List Int} (h : Lt us) {a : Nat} (ha : a < us.length) (hb : ∀ j, j < a → uN us j ≠ 2 ^ us.length - 1) (hl : uN us a = 2 ^ us.length - 1 ∨ a + 1 = us.length) : botI us = a := by
  obtain ⟨z, hz, hz2⟩ := h.lat.bot
  have e := (h.lat.full hz).1 hz2
  have hza : a ≤ z := Nat.le_of_not_lt fun hlt => hb z hlt e
  have ea : uN us a = 2 ^ us.length - 1 := by
    rcases hl with hl | hl
    · exact hl
    · have : z = a := by omega
      rw [← this]; exact e
  have hp : (2 : Int) ^ us.length - 1 = ((2 ^ us.length - 1 : Nat) : Int) := by
    have : 0 < 2 ^ us.length := Nat.two_pow_pos _
    rw [Int.natCast_sub (by omega)]; simp
  unfold botI
  rw [hp]
  have := (ixL_lab h ha ea)
  have h1 := this.1.1
  omega
set_option maxRecDepth 100000 in
set_option maxHeartbeats 4000000 in
theorem end_any (us : List Int) (h : Lt us) (w : World) :
    Calls Tryz.prog 60 (dens [.agg (u8L (upF us us.length)), .v (.int .i64 us.length)]).toArray w fun e w' => e = .returned (.int .i64 (botI us)) ∧ Below w.heap.size w w' := by
  obtain ⟨q, hq⟩ : ∃ q, q = botI us := ⟨_, rfl⟩
  rw [← hq]
  refine calls_go (args := [.agg (u8L (upF us us.length)), .v (.int .i64 us.length)]) (hp := []) (nx := 1000) (n := 400) (U := [(1000000, 40)]) (V := []) (tl := tlLt) (gl := glEn) (post := fun s ys => ys = [.v (.int .i64 q)])
    followP tlLt_ok glEn_ok Tryz.func60 rfl (by kernel_rfl) (Nat.le_of_ble_eq_true (by kernel_rfl)) (by kernel_rfl) (by kernel_rfl) (hh_list trivial) (fun _ _ => rfl) ?_ ?_
  · rintro s ys w' rfl H
    exact ⟨rfl, H.below⟩
  intro L F T G nd va hE
  obtain ⟨hL, hF, hs, hv, hT, hG, hR, hI, hJ, hW⟩ := hE
  rw [Tryz.results60] at hF
  simp (maxSteps := 1000000) only [En.nN, En.E, En.evsC, List.map_cons, List.map_nil, ne_eq, En.bitN, Nat.testBit, seval] at hv
  simp only [En.at_nil, En.at_cons, En.ag_nil, En.ag_cons, and_true, tlLt, glEn, tyInt, tyU8, tyBool, tyStr, tyErr, tyStrs, tyBytes, tyInts, tyLat, tyA8, tyUps, tyDns, tyOrd, tyUint] at hT hG
  have hp := h.lat.pos
  have h8 := h.le8
  simp (maxSteps := 10000000) only [En.E, En.evsC, List.map_cons, List.map_nil, ne_eq, En.bitN, Nat.testBit, seval, En.vV, hs, hv, hT, hG, hF, u8L_non]
  intro b
  refine hI {a : Nat // a < us.length ∧ ∀ j, j < a → uN us j ≠ 2 ^ us.length - 1} (fun x => enI us b us.length x.1) (fun x => us.length - x.1) _ _ _ ⟨0, hp, fun j hj => absurd hj (Nat.not_lt_zero j)⟩ (sle_all [1000] (by decide) (by simp only [En.E, En.evsC, List.map_cons, List.map_nil, ne_eq, En.bitN, Nat.testBit, seval, En.slLe, En.hpLe, En.chE, En.allLt, enI, Int.cast_ofNat_Int])) ?_
  rintro ⟨a, ha, hb⟩
  refine hR 400 _ _ ?_
  have a8 : a < 8 := by omega
  have i1 : inr .i64 ((us.length : Int) - 1) := by simp only [En.inr, En.lo, En.hi]; omega
  have i2 : inr .i64 ((a : Int) + 1) := by simp only [En.inr, En.lo, En.hi]; omega
  have h1 := h.by8 a
  have hpop := pop8 ⟨(us.getD a 0).toNat, by omega⟩ ⟨us.length, by omega⟩ (h.lat.lt a ha)
  have hpop : decide ((Lib.onesCount (us.getD a 0).toNat : Int) < (us.length : Int)) = !decide (uN us a = 2 ^ us.length - 1) := hpop
  cases d0 : decide ((a : Int) < (us.length : Int) - 1) with
  | true =>
    simp (maxSteps := 10000000) only [En.E, En.evsC, List.map_cons, List.map_nil, ne_eq, En.bitN, Nat.testBit, seval, En.vV, hs, hv, hT, hG, hF, enI, d0, u8L_len, u8L_nth, upF_at, a8, Int.toNat_natCast, Nat.mul_one, i1, i2, spOnes_q, h1, hpop]
    refine ⟨by omega, by omega, fun hf => ⟨⟨a + 1, by have := of_decide_eq_true d0; omega, fun j hj => ?_⟩, (sle_all [1000] (by decide) (by simp only [En.E, En.evsC, List.map_cons, List.map_nil, ne_eq, En.bitN, Nat.testBit, seval, En.slLe, En.hpLe, En.chE, En.allLt, enI, Int.natCast_add, Int.cast_ofNat_Int])), by simp only; omega⟩, fun hf => ?_⟩
    · by_cases e : j = a
      · rw [e]; simpa using hf
      · exact hb j (by omega)
    · rw [hq, bot_of h ha hb (.inl (by simpa using hf))]
  | false =>
    have hq' : q = a := by rw [hq]; exact bot_of h ha hb (.inr (by have := of_decide_eq_false d0; omega))
    simp (maxSteps := 10000000) only [En.E, En.evsC, List.map_cons, List.map_nil, ne_eq, En.bitN, Nat.testBit, seval, En.vV, hs, hv, hT, hG, hF, enI, d0, u8L_len, u8L_nth, upF_at, a8, Int.toNat_natCast, Nat.mul_one, i1, i2, spOnes_q, h1, hpop, hq']
theorem mem_u8 {us : List Int} (h : us.length ≤ 8) : ((List.range us.length).map fun i => unI (nth (u8L (upF us us.length)) i)) = us := by
  apply List.ext_getElem (by simp)
  intro i h1 h2
  simp only [List.getElem_map, List.getElem_range]
  rw [unI_u8 (by omega), upF_at, List.getD_eq_getElem?_getD, List.getElem?_eq_getElem h2]; rfl
def u8S (l : List SV) (n : Int) : List Int := (List.range n.toNat).map fun i => unI (nth l i)
theorem u8S_q {us : List Int} (h : us.length ≤ 8) : u8S (u8L (upF us us.length)) us.length = us := by unfold u8S; rw [Int.toNat_natCast]; exact mem_u8 h
def enR (l : List SV) (n : Int) : Prop := Lt (u8S l n) ∧ l = u8L (upF (u8S l n) (u8S l n).length) ∧ n = (u8S l n).length
def spEnd : Spc
  | [.agg l, .v (.int .i64 n)], _, _ => .is (enR l n) (.v (.int .i64 (botI (u8S l n))))
  | _, _, _ => .bad
theorem spEnd_q {l : List SV} {n : Int} {H : Nat → Ch} {nx : Nat} : spEnd [.agg l, .v (.int .i64 n)] H nx = .is (enR l n) (.v (.int .i64 (botI (u8S l n)))) := (rfl)
theorem spEnd_ok : SpecOk Tryz.prog 60 spEnd := specOk_is fun args H nx => by
  unfold spEnd; split
  · next l n =>
    rintro ⟨h1, h2, h3⟩ w
    have := end_any _ h1 w
    rw [← h2, ← h3] at this
    exact this
  · trivial
theorem enR_q {us : List Int} (h : Lt us) : enR (u8L (upF us us.length)) us.length := by
  unfold enR
  rw [u8S_q h.le8]
  exact ⟨h, rfl, rfl⟩
end Pr
end Go.Proofs.YtnpkmimbnjnicaaGreatDoor
