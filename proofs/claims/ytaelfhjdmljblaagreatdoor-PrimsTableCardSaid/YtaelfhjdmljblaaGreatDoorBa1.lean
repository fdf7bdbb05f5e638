/-
The plain mathematics of chapter 9: what a primitive of one or two numbers answers, over the integers, with no program in sight.
-/
import Derived.WalkKit
import Derived.Test.YtaelfhjdmljblaaGreatDoorRows
import Derived.ProofKit
import Derived.Lib.Mul64
import Derived.Laws.Bits64b
set_option linter.unusedSimpArgs false
set_option linter.unusedVariables false
namespace Go.Proofs.YtaelfhjdmljblaaGreatDoor
namespace Sc
open Go.RowKit
theorem hide {p : Prop} (h : p) : Hid p := h
/-- the kind int64 holds a number -/
def Fits (z : Int) : Prop := -9223372036854775808 ≤ z ∧ z ≤ 9223372036854775807
instance (z : Int) : Decidable (Fits z) := inferInstanceAs (Decidable (_ ∧ _))
/-! bits -/
theorem wrap_bv (r : BitVec 64) : IntKind.i64.wrap (r.toNat : Int) = r.toInt := by
  rw [IntKind.wrap_i64, BitVec.toInt_eq_toNat_cond]
  have := r.isLt
  split <;> omega
theorem toInt_ofInt (a : Int) (h : Fits a) : (BitVec.ofInt 64 a).toInt = a := by
  rw [BitVec.toInt_ofInt]
  unfold Fits at h
  rw [Int.bmod_def]; split <;> omega
theorem msb_ofInt (a : Int) (h : Fits a) : (BitVec.ofInt 64 a).msb = decide (a < 0) := by
  rw [BitVec.msb_eq_toInt, toInt_ofInt a h]
theorem xor_eq (a b : Int) : bits .xor .i64 a b = (BitVec.ofInt 64 a ^^^ BitVec.ofInt 64 b).toInt := wrap_bv _
theorem and_eq (a b : Int) : bits .and .i64 a b = (BitVec.ofInt 64 a &&& BitVec.ofInt 64 b).toInt := wrap_bv _
theorem or_eq (a b : Int) : bits .or .i64 a b = (BitVec.ofInt 64 a ||| BitVec.ofInt 64 b).toInt := wrap_bv _
theorem toInt_fits (r : BitVec 64) : Fits r.toInt := by
  unfold Fits; have := r.isLt; rw [BitVec.toInt_eq_toNat_cond]; split <;> omega
theorem xor_fits (a b : Int) : Fits (bits .xor .i64 a b) := by rw [xor_eq]; exact toInt_fits _
theorem xor_neg (a b : Int) (ha : Fits a) (hb : Fits b) : bits .xor .i64 a b < 0 ↔ ((a < 0 ∧ 0 ≤ b) ∨ (0 ≤ a ∧ b < 0)) := by
  have h : decide (bits .xor .i64 a b < 0) = Bool.xor (decide (a < 0)) (decide (b < 0)) := by
    rw [xor_eq, ← BitVec.msb_eq_toInt, BitVec.msb_xor, msb_ofInt a ha, msb_ofInt b hb]
  rw [← decide_eq_true_iff (p := bits .xor .i64 a b < 0), h]
  by_cases h1 : a < 0 <;> by_cases h2 : b < 0 <;> simp [h1, h2] <;> omega
theorem and_neg (a b : Int) (ha : Fits a) (hb : Fits b) : bits .and .i64 a b < 0 ↔ (a < 0 ∧ b < 0) := by
  have h : decide (bits .and .i64 a b < 0) = (decide (a < 0) && decide (b < 0)) := by
    rw [and_eq, ← BitVec.msb_eq_toInt, BitVec.msb_and, msb_ofInt a ha, msb_ofInt b hb]
  rw [← decide_eq_true_iff (p := bits .and .i64 a b < 0), h]
  simp
theorem or_zero (a b : Int) (ha : Fits a) (hb : Fits b) : bits .or .i64 a b = 0 ↔ (a = 0 ∧ b = 0) := by
  rw [or_eq]
  have e : ∀ r : BitVec 64, r.toInt = 0 ↔ r = 0 := fun r => ⟨fun h => BitVec.eq_of_toInt_eq (by rw [h]; rfl), fun h => by rw [h]; rfl⟩
  rw [e]
  show BitVec.ofInt 64 a ||| BitVec.ofInt 64 b = 0#64 ↔ _
  rw [BitVec.or_eq_zero_iff]
  have e' : ∀ z, Fits z → (BitVec.ofInt 64 z = 0#64 ↔ z = 0) := fun z hz => by
    show BitVec.ofInt 64 z = (0 : BitVec 64) ↔ _
    rw [← e, toInt_ofInt z hz]
  rw [e' a ha, e' b hb]
theorem wrap_u64 (n : Int) : IntKind.u64.wrap n = n % 18446744073709551616 := by simp [IntKind.wrap, IntKind.bits, IntKind.signed]
theorem wrap64_fits (z : Int) : Fits (wrap64 z) := by unfold Fits wrap64; omega
/-- the sign test of 'add' -/
theorem add_test (x y : Int) (hx : Fits x) (hy : Fits y) :
    bits .and .i64 (bits .xor .i64 x (wrap64 (x + y))) (bits .xor .i64 y (wrap64 (x + y))) < 0 ↔ ¬ Fits (x + y) := by
  have hz := wrap64_fits (x + y)
  rw [and_neg _ _ (xor_fits _ _) (xor_fits _ _), xor_neg _ _ hx hz, xor_neg _ _ hy hz]
  unfold Fits wrap64 at *
  omega
theorem sub_test (x y : Int) (hx : Fits x) (hy : Fits y) :
    bits .and .i64 (bits .xor .i64 x y) (bits .xor .i64 x (wrap64 (x - y))) < 0 ↔ ¬ Fits (x - y) := by
  have hz := wrap64_fits (x - y)
  rw [and_neg _ _ (xor_fits _ _) (xor_fits _ _), xor_neg _ _ hx hz, xor_neg _ _ hx hy]
  unfold Fits wrap64 at *
  omega
theorem add_test_in (x y : Int) (hx : Fits x) (hy : Fits y) (h : Fits (x + y)) :
    0 ≤ bits .and .i64 (bits .xor .i64 x (x + y)) (bits .xor .i64 y (x + y)) := by
  have := add_test x y hx hy
  rw [IntWalk.wrap64_in _ h] at this
  by_cases hc : bits .and .i64 (bits .xor .i64 x (x + y)) (bits .xor .i64 y (x + y)) < 0
  · exact absurd h (this.1 hc)
  · omega
theorem sub_test_in (x y : Int) (hx : Fits x) (hy : Fits y) (h : Fits (x - y)) :
    0 ≤ bits .and .i64 (bits .xor .i64 x y) (bits .xor .i64 x (x - y)) := by
  have := sub_test x y hx hy
  rw [IntWalk.wrap64_in _ h] at this
  by_cases hc : bits .and .i64 (bits .xor .i64 x y) (bits .xor .i64 x (x - y)) < 0
  · exact absurd h (this.1 hc)
  · omega
/-! what a primitive answers: a number, and the error's number -/
def chk (z : Int) : Int × Int := if Fits z then (z, 0) else (0, 12)
def clamp (z : Int) : Int := if z < -9223372036854775808 then -9223372036854775808 else if 9223372036854775807 < z then 9223372036854775807 else z
def tr (b : Bool) : Int := if b then 1 else 0
theorem u64_neg (x : Int) (h : Fits x) (h0 : x < 0) : IntKind.u64.wrap (-IntKind.u64.wrap x) = (x.natAbs : Int) := by
  unfold Fits at h; rw [wrap_u64, wrap_u64]; omega
theorem u64_pos (x : Int) (h0 : 0 ≤ x) : x = (x.natAbs : Int) := by omega
/-- what Mul64 answers of two sizes -/
def MulOf (x y hi lo : Int) : Prop := hi * 18446744073709551616 + lo = (x.natAbs * y.natAbs : Nat) ∧ 0 ≤ lo ∧ lo < 18446744073709551616 ∧ 0 ≤ hi
theorem mul_pos {x y : Int} (h : (x < 0 ∧ y < 0) ∨ (0 ≤ x ∧ 0 ≤ y)) : ((x.natAbs * y.natAbs : Nat) : Int) = x * y := by
  rw [← Int.natAbs_mul]
  have : 0 ≤ x * y := by
    rcases h with ⟨a, b⟩ | ⟨a, b⟩
    · exact Int.mul_nonneg_of_nonpos_of_nonpos (by omega) (by omega)
    · exact Int.mul_nonneg a b
  omega
theorem mul_neg {x y : Int} (h : (x < 0 ∧ 0 ≤ y) ∨ (0 ≤ x ∧ y < 0)) : ((x.natAbs * y.natAbs : Nat) : Int) = -(x * y) := by
  rw [← Int.natAbs_mul]
  have : x * y ≤ 0 := by
    rcases h with ⟨a, b⟩ | ⟨a, b⟩
    · exact Int.mul_nonpos_of_nonpos_of_nonneg (by omega) (by omega)
    · exact Int.mul_nonpos_of_nonneg_of_nonpos (by omega) (by omega)
  omega
/-- the three answers of 'mul' -/
theorem mul_over {x y hi lo : Int} (m : MulOf x y hi lo) (h : 0 < hi ∨ (((x < 0 ∧ y < 0) ∨ (0 ≤ x ∧ 0 ≤ y)) ∧ 9223372036854775807 < lo) ∨ 9223372036854775808 < lo) : chk (x * y) = (0, 12) := by
  obtain ⟨m1, m2, m3, m4⟩ := m
  unfold chk; rw [if_neg]
  unfold Fits
  by_cases hs : (x < 0 ∧ y < 0) ∨ (0 ≤ x ∧ 0 ≤ y)
  · rw [mul_pos hs] at m1; omega
  · rw [mul_neg (by omega)] at m1; omega
theorem mul_below {x y hi lo : Int} (m : MulOf x y hi lo) (h0 : hi ≤ 0) (h1 : lo ≤ 9223372036854775808) (hs : (x < 0 ∧ 0 ≤ y) ∨ (0 ≤ x ∧ y < 0)) : chk (x * y) = (wrap64 (IntKind.u64.wrap (-lo)), 0) := by
  obtain ⟨m1, m2, m3, m4⟩ := m
  rw [mul_neg hs] at m1
  have e : x * y = -lo := by omega
  rw [e]; unfold chk; rw [if_pos (by unfold Fits; omega), wrap_u64]
  unfold wrap64
  congr 1; omega
theorem mul_above {x y hi lo : Int} (m : MulOf x y hi lo) (h0 : hi ≤ 0) (h1 : lo ≤ 9223372036854775807) (hs : (x < 0 ∧ y < 0) ∨ (0 ≤ x ∧ 0 ≤ y)) : chk (x * y) = (wrap64 lo, 0) := by
  obtain ⟨m1, m2, m3, m4⟩ := m
  rw [mul_pos hs] at m1
  have e : x * y = lo := by omega
  rw [e]; unfold chk; rw [if_pos (by unfold Fits; omega), IntWalk.wrap64_in _ (by omega)]
theorem chk_in {z : Int} (h : Fits z) : chk z = (z, 0) := by unfold chk; rw [if_pos h]
theorem chk_out {z : Int} (h : ¬ Fits z) : chk z = (0, 12) := by unfold chk; rw [if_neg h]
theorem clamp_in {z : Int} (h : Fits z) : clamp z = z := by unfold clamp Fits at *; rw [if_neg (by omega), if_neg (by omega)]
theorem clamp_lo {z : Int} (h : z < -9223372036854775808) : clamp z = -9223372036854775808 := by unfold clamp; rw [if_pos h]
theorem clamp_hi {z : Int} (h : 9223372036854775807 < z) : clamp z = 9223372036854775807 := by unfold clamp; rw [if_neg (by omega), if_pos h]
theorem clamp_plus_below {x y : Int} (hx : Fits x) (hy : Fits y) (h : ¬ Fits (x + y)) (a : x < 0) : clamp (x + y) = -9223372036854775808 := clamp_lo (by unfold Fits at *; omega)
theorem clamp_plus_above {x y : Int} (hx : Fits x) (hy : Fits y) (h : ¬ Fits (x + y)) (a : 0 ≤ x) : clamp (x + y) = 9223372036854775807 := clamp_hi (by unfold Fits at *; omega)
theorem clamp_minus_below {x y : Int} (hx : Fits x) (hy : Fits y) (h : ¬ Fits (x - y)) (a : x < 0) : clamp (x - y) = -9223372036854775808 := clamp_lo (by unfold Fits at *; omega)
theorem clamp_minus_above {x y : Int} (hx : Fits x) (hy : Fits y) (h : ¬ Fits (x - y)) (a : 0 ≤ x) : clamp (x - y) = 9223372036854775807 := clamp_hi (by unfold Fits at *; omega)
theorem clamp_times_below {x y : Int} (hx : Fits x) (hy : Fits y) (h : ¬ Fits (x * y)) (a : (x < 0 ∧ 0 ≤ y) ∨ (0 ≤ x ∧ y < 0)) : clamp (x * y) = -9223372036854775808 :=
  clamp_lo (by have := mul_neg a; unfold Fits at *; omega)
theorem clamp_times_above {x y : Int} (hx : Fits x) (hy : Fits y) (h : ¬ Fits (x * y)) (a : (x < 0 ∧ y < 0) ∨ (0 ≤ x ∧ 0 ≤ y)) : clamp (x * y) = 9223372036854775807 :=
  clamp_hi (by have := mul_pos a; unfold Fits at *; omega)
/-! division: the quotient that is at most the true one, and its rest -/
def DM (x y q r : Int) : Prop := q * y + r = x ∧ ((0 ≤ r ∧ r < y) ∨ (y < r ∧ r ≤ 0))
def TM (x y q r : Int) : Prop := q * y + r = x ∧ r.natAbs < y.natAbs ∧ (0 ≤ x → 0 ≤ r) ∧ (x ≤ 0 → r ≤ 0) ∧ q.natAbs = x.natAbs / y.natAbs
theorem tm_of {x y : Int} (hy : y ≠ 0) : TM x y (x.tdiv y) (x.tmod y) := by
  refine ⟨Int.tdiv_mul_add_tmod x y, ?_, ?_, ?_, ?_⟩
  · rw [Int.natAbs_tmod]; exact Nat.mod_lt _ (by omega)
  · intro h; exact Int.tmod_nonneg _ h
  · intro h
    have := Int.tmod_nonneg (a := -x) y (by omega)
    rw [Int.neg_tmod] at this; omega
  · rw [Int.natAbs_tdiv]; rfl
theorem dm_unique {x y q r q' r' : Int} (h : DM x y q r) (h' : DM x y q' r') : q = q' ∧ r = r' := by
  obtain ⟨e, b⟩ := h; obtain ⟨e', b'⟩ := h'
  have m : (q - q') * y = r' - r := by rw [Int.sub_mul]; omega
  have a : (q - q').natAbs * y.natAbs = (r' - r).natAbs := by rw [← Int.natAbs_mul, m]
  have hq : q = q' := by
    by_cases hz : q = q'
    · exact hz
    · exfalso
      have h1 : 1 ≤ (q - q').natAbs := by omega
      have h2 := Nat.le_mul_of_pos_left y.natAbs h1
      omega
  subst hq
  exact ⟨rfl, by omega⟩
theorem dm_of {x y : Int} (hy : y ≠ 0) : DM x y (x.fdiv y) (x.fmod y) := by
  refine ⟨Int.fdiv_mul_add_fmod x y, ?_⟩
  by_cases h : 0 < y
  · exact Or.inl ⟨Int.fmod_nonneg_of_pos _ h, Int.fmod_lt_of_pos _ h⟩
  · have h1 := Int.fmod_nonneg_of_pos (-x) (b := -y) (by omega)
    have h2 := Int.fmod_lt_of_pos (-x) (b := -y) (by omega)
    rw [Int.neg_fmod_neg] at h1 h2
    omega
theorem dm_fdiv {x y q r : Int} (hy : y ≠ 0) (h : DM x y q r) : x.fdiv y = q := (dm_unique (dm_of hy) h).1
theorem dm_fmod {x y q r : Int} (hy : y ≠ 0) (h : DM x y q r) : x.fmod y = r := (dm_unique (dm_of hy) h).2
/-- no quotient is beyond the numbers, but that of the least number by -1 -/
theorem tm_fits {x y q r : Int} (hx : Fits x) (hy : y ≠ 0) (hy1 : y ≠ -1) (h : TM x y q r) : Fits q ∧ Fits (q - 1) ∨ Fits q ∧ q * y = x := by
  obtain ⟨e, b1, b2, b3, b4⟩ := h
  unfold Fits at *
  by_cases h1 : y = 1
  · subst h1; right; omega
  · have : x.natAbs / y.natAbs ≤ x.natAbs / 2 := Nat.div_le_div_left (by omega) (by omega)
    left; omega
theorem tm_mul {x y q r : Int} (hx : Fits x) (hy : Fits y) (h : TM x y q r) : Fits (q * y) := by
  obtain ⟨e, b1, b2, b3, b4⟩ := h
  unfold Fits at *
  have : q.natAbs * y.natAbs ≤ x.natAbs := by rw [b4]; exact Nat.div_mul_le_self _ _
  rw [← Int.natAbs_mul] at this
  omega
/-- the four ways of 'div' -/
theorem tm_down {x y q r : Int} (h : TM x y q r) (h0 : q * y ≠ x) (hs : (x < 0 ∧ 0 ≤ y) ∨ (0 ≤ x ∧ y < 0)) : DM x y (q - 1) (r + y) := by
  obtain ⟨e, b1, b2, b3, b4⟩ := h
  refine ⟨by rw [Int.sub_mul]; omega, ?_⟩
  omega
theorem tm_same {x y q r : Int} (hy : y ≠ 0) (h : TM x y q r) (h0 : q * y = x ∨ (x < 0 ∧ y < 0) ∨ (0 ≤ x ∧ 0 ≤ y)) : DM x y q r := by
  obtain ⟨e, b1, b2, b3, b4⟩ := h
  refine ⟨e, ?_⟩
  omega
theorem div_same {x y : Int} (hy : y ≠ 0) (h : x.tdiv y * y = x ∨ (x < 0 ∧ y < 0) ∨ (0 ≤ x ∧ 0 ≤ y)) : (x.fdiv y, (0 : Int)) = (x.tdiv y, 0) := by
  rw [dm_fdiv hy (tm_same hy (tm_of hy) h)]
theorem div_down {x y : Int} (hx : Fits x) (hy : y ≠ 0) (hy1 : y ≠ -1) (h0 : x.tdiv y * y ≠ x) (h : (x < 0 ∧ 0 ≤ y) ∨ (0 ≤ x ∧ y < 0)) : (x.fdiv y, (0 : Int)) = (wrap64 (x.tdiv y - 1), 0) := by
  rw [dm_fdiv hy (tm_down (tm_of hy) h0 h), IntWalk.wrap64_in]
  rcases tm_fits hx hy hy1 (tm_of hy) with h | h
  · exact h.2
  · exact absurd h.2 h0
theorem fdiv_fits {x y : Int} (hx : Fits x) (hy : y ≠ 0) (hy1 : y ≠ -1) : Fits (x.fdiv y) := by
  by_cases h : x.tdiv y * y = x ∨ (x < 0 ∧ y < 0) ∨ (0 ≤ x ∧ 0 ≤ y)
  · rw [dm_fdiv hy (tm_same hy (tm_of hy) h)]
    rcases tm_fits hx hy hy1 (tm_of hy) with h | h <;> exact h.1
  · rw [dm_fdiv hy (tm_down (tm_of hy) (by omega) (by omega))]
    rcases tm_fits hx hy hy1 (tm_of hy) with h' | h'
    · exact h'.2
    · exact absurd (Or.inl h'.2) h
theorem tmod_zero {x y : Int} : x.tdiv y * y = x ↔ x.tmod y = 0 := by
  have := Int.tdiv_mul_add_tmod x y
  omega
theorem mod_same {x y : Int} (hy : y ≠ 0) (h : x.tmod y = 0 ∨ (x.tmod y < 0 ∧ y < 0) ∨ (0 ≤ x.tmod y ∧ 0 ≤ y)) : (x.fmod y, (0 : Int)) = (x.tmod y, 0) := by
  have ht := tm_of (x := x) hy
  rw [dm_fmod hy (tm_same hy ht (by obtain ⟨e, b1, b2, b3, b4⟩ := ht; rw [tmod_zero]; omega))]
theorem mod_down {x y : Int} (hy : y ≠ 0) (h0 : x.tmod y ≠ 0) (h : (x.tmod y < 0 ∧ 0 ≤ y) ∨ (0 ≤ x.tmod y ∧ y < 0)) : (x.fmod y, (0 : Int)) = (x.tmod y + y, 0) := by
  have ht := tm_of (x := x) hy
  rw [dm_fmod hy (tm_down ht (by rw [Ne, tmod_zero]; exact h0) (by obtain ⟨e, b1, b2, b3, b4⟩ := ht; omega))]
theorem tmod_fits {x y : Int} (hy : Fits y) (h : y ≠ 0) : Fits (x.tmod y) := by
  obtain ⟨e, b1, b2, b3, b4⟩ := tm_of (x := x) h
  unfold Fits at *; omega
theorem fmod_fits {x y : Int} (hy : Fits y) (h : y ≠ 0) : Fits (x.fmod y) := by
  obtain ⟨e, b⟩ := dm_of (x := x) h
  unfold Fits at *; omega
theorem fdiv_minus (x : Int) : x.fdiv (-1) = -x := dm_fdiv (r := 0) (by omega) ⟨by omega, by omega⟩
theorem fmod_minus (x : Int) : x.fmod (-1) = 0 := dm_fmod (q := -x) (by omega) ⟨by omega, by omega⟩
theorem or_test {x y : Int} (hx : Fits x) (hy : Fits y) : (x != 0 || y != 0) = (bits .or .i64 x y != 0) := by
  have := or_zero x y hx hy
  rw [Bool.eq_iff_iff]; simp [this]; omega
def two (p x y : Int) : Int × Int :=
  if p = 15 then chk (x + y) else if p = 16 then chk (x - y) else if p = 17 then chk (x * y)
  else if p = 18 then (if y = 0 then (0, 13) else chk (Int.fdiv x y))
  else if p = 19 then (if y = 0 then (0, 13) else (Int.fmod x y, 0))
  else if p = 20 then (clamp (x + y), 0) else if p = 21 then (clamp (x - y), 0) else if p = 22 then (clamp (x * y), 0)
  else if p = 23 then (tr (x == y), 0) else if p = 24 then (tr (x != y), 0)
  else if p = 25 then (tr (decide (x < y)), 0) else if p = 26 then (tr (decide (x ≤ y)), 0)
  else if p = 27 then (tr (decide (y < x)), 0) else if p = 28 then (tr (decide (y ≤ x)), 0)
  else if p = 29 then (tr (x != 0 && y != 0), 0) else if p = 30 then (tr (x != 0 || y != 0), 0)
  else if p = 31 then (min x y, 0) else if p = 32 then (max x y, 0)
  else (0, 2)
theorem two_none {p x y : Int} (h : p < 15 ∨ 33 ≤ p) : two p x y = (0, 2) := by
  unfold two
  repeat (rw [if_neg (by omega)])
def ab (x : Int) : Int := if x < 0 then -x else x
def one (p x : Int) : Int × Int :=
  if p = 1 then chk (-x) else if p = 2 then chk (ab x) else if p = 3 then (tr (x == 0), 0) else (0, 2)
def arity (p : Int) : Int × Int :=
  if 1 ≤ p ∧ p ≤ 3 then (1, 0) else if 15 ≤ p ∧ p ≤ 32 then (2, 0) else (0, 2)
theorem min_ways {x y : Int} (hx : Fits x) (hy : Fits y) (h : Fits (x * y)) :
    ((x == -9223372036854775808) = true ∧ (y == -1) = false ∧ (y == -9223372036854775808) = false) ∨
    ((x == -9223372036854775808) = false ∧ (y == -9223372036854775808) = true ∧ (x == -1) = false) ∨
    ((x == -9223372036854775808) = false ∧ (y == -9223372036854775808) = false) := by
  simp only [beq_eq_false_iff_ne, beq_iff_eq]
  unfold Fits at *
  by_cases a : x = -9223372036854775808
  · left; subst a; exact ⟨rfl, by rintro rfl; omega, by rintro rfl; omega⟩
  · by_cases b : y = -9223372036854775808
    · right; left; subst b; exact ⟨a, rfl, by rintro rfl; omega⟩
    · right; right; exact ⟨a, b⟩
/-- a product that wraps: divided again it is not what it was made of -/
theorem prod_quo {x y : Int} (hx : Fits x) (hy : Fits y) (h : ¬ Fits (x * y)) (h1 : ¬ (x = -9223372036854775808 ∧ y = -1)) :
    wrap64 ((wrap64 (x * y)).tdiv y) ≠ x := by
  have hy0 : y ≠ 0 := by rintro rfl; exact h (by unfold Fits; omega)
  have hy1 : y ≠ -1 := by
    rintro rfl
    unfold Fits at *; omega
  have hz := wrap64_fits (x * y)
  have ht := tm_of (x := wrap64 (x * y)) hy0
  have hq : Fits ((wrap64 (x * y)).tdiv y) := by rcases tm_fits hz hy0 hy1 ht with h | h <;> exact h.1
  rw [IntWalk.wrap64_in _ hq]
  intro e
  rw [e] at ht
  obtain ⟨e1, b1, b2, b3, b4⟩ := ht
  apply h
  generalize (wrap64 (x * y)).tmod y = r at *
  generalize x * y = m at *
  unfold Fits wrap64 at *
  omega
theorem tdiv_fits {x y : Int} (hx : Fits x) (hy : Fits y) (h0 : y ≠ 0) (h : ¬ (x = -9223372036854775808 ∧ y = -1)) : Fits (x.tdiv y) := by
  by_cases h1 : y = -1
  · subst h1
    obtain ⟨e, b1, b2, b3, b4⟩ := tm_of (x := x) h0
    unfold Fits at *
    simp only [show (-1 : Int).natAbs = 1 from rfl, Nat.div_one] at b4 b1
    omega
  · rcases tm_fits hx h0 h1 (tm_of h0) with h | h <;> exact h.1
theorem m_two_18 {x y : Int} (hx : Fits x) (hy : Fits y) (h0 : y ≠ 0) (h : ¬ (x = -9223372036854775808 ∧ y = -1)) : two 18 x y = (x.fdiv y, 0) := by
  have e : two 18 x y = chk (x.fdiv y) := by unfold two; simp [h0]
  rw [e]; apply chk_in
  by_cases h1 : y = -1
  · subst h1; rw [fdiv_minus]; unfold Fits at *; omega
  · exact fdiv_fits hx h0 h1
theorem m_two_19 {x y : Int} (h0 : y ≠ 0) : two 19 x y = (x.fmod y, 0) := by unfold two; simp [h0]
end Sc
end Go.Proofs.YtaelfhjdmljblaaGreatDoor
/-
The laws of chapter 9 in plain integers: no program in sight.
-/
set_option linter.unusedSimpArgs false
set_option linter.unusedVariables false
namespace Go.Proofs.YtaelfhjdmljblaaGreatDoor
namespace Sc
open Go.RowKit
end Sc
end Go.Proofs.YtaelfhjdmljblaaGreatDoor
/-
The plain mathematics of arrays (chapters 5, 6, 10): shapes, what is wrong with an array, primitives done cell by cell; over the integers and lists, with no program in sight.
-/
set_option linter.unusedSimpArgs false
set_option linter.unusedVariables false
namespace Go.Proofs.YtaelfhjdmljblaaGreatDoor
namespace Ar
open Sc
structure Arr where
  k : Int
  r : Int
  l0 : Int
  l1 : Int
  xs : List Int
def Arr.zero : Arr := ⟨0, 0, 0, 0, []⟩
/-- how many cells a shape has -/
def prod (r l0 l1 : Int) : Int := if r = 2 then l0 * l1 else if r = 1 then l0 else 1
/-- what is wrong with a shape -/
def shCheck (r l0 l1 : Int) : Int :=
  if r < 0 ∨ 2 < r then 7
  else if (1 ≤ r ∧ l0 < 0) ∨ (2 ≤ r ∧ l1 < 0) then 7
  else if (r < 1 ∧ l0 ≠ 0) ∨ (r < 2 ∧ l1 ≠ 0) then 6
  else if 400 < l0 ∨ 400 < l1 ∨ 400 < prod r l0 l1 then 15 else 0
theorem sh_0f {l0 l1 : Int} (h : l0 ≠ 0 ∨ l1 ≠ 0) : shCheck 0 l0 l1 = 6 := by unfold shCheck; rw [if_neg (by omega), if_neg (by omega), if_pos (by omega)]
theorem sh_0t {l0 l1 : Int} (h0 : l0 = 0) (h1 : l1 = 0) : shCheck 0 l0 l1 = 0 := by subst h0; subst h1; rfl
theorem sh_1n {l0 l1 : Int} (h : l0 < 0) : shCheck 1 l0 l1 = 7 := by unfold shCheck; rw [if_neg (by omega), if_pos (by omega)]
theorem sh_1f {l0 l1 : Int} (h : 0 ≤ l0) (h1 : l1 ≠ 0) : shCheck 1 l0 l1 = 6 := by unfold shCheck; rw [if_neg (by omega), if_neg (by omega), if_pos (by omega)]
theorem prod_1 (l0 l1 : Int) : prod 1 l0 l1 = l0 := rfl
theorem prod_2 (l0 l1 : Int) : prod 2 l0 l1 = l0 * l1 := rfl
theorem prod_0 (l0 l1 : Int) : prod 0 l0 l1 = 1 := rfl
theorem sh_1o {l0 l1 : Int} (h : 400 < l0) (h1 : l1 = 0) : shCheck 1 l0 l1 = 15 := by unfold shCheck; rw [if_neg (by omega), if_neg (by omega), if_neg (by omega), if_pos (by omega)]
theorem sh_1t {l0 l1 : Int} (h : 0 ≤ l0) (h2 : l0 ≤ 400) (h1 : l1 = 0) : shCheck 1 l0 l1 = 0 := by unfold shCheck; rw [prod_1, if_neg (by omega), if_neg (by omega), if_neg (by omega), if_neg (by omega)]
theorem sh_2n {l0 l1 : Int} (h : l0 < 0 ∨ l1 < 0) : shCheck 2 l0 l1 = 7 := by unfold shCheck; rw [if_neg (by omega), if_pos (by omega)]
theorem sh_2o {l0 l1 : Int} (h0 : 0 ≤ l0) (h1 : 0 ≤ l1) (h : 400 < l0 ∨ 400 < l1) : shCheck 2 l0 l1 = 15 := by unfold shCheck; rw [if_neg (by omega), if_neg (by omega), if_neg (by omega), if_pos (by omega)]
theorem sh_2p {l0 l1 : Int} (h0 : 0 ≤ l0) (h1 : 0 ≤ l1) (h : 400 < l0 * l1) : shCheck 2 l0 l1 = 15 := by unfold shCheck; rw [prod_2, if_neg (by omega), if_neg (by omega), if_neg (by omega), if_pos (by omega)]
theorem sh_2t {l0 l1 : Int} (h0 : 0 ≤ l0) (h1 : 0 ≤ l1) (k0 : l0 ≤ 400) (k1 : l1 ≤ 400) (h : l0 * l1 ≤ 400) : shCheck 2 l0 l1 = 0 := by unfold shCheck; rw [prod_2, if_neg (by omega), if_neg (by omega), if_neg (by omega), if_neg (by omega)]
/-- a shape's cells, or what is wrong with it -/
def cellsOf (r l0 l1 : Int) : Int × Int := if shCheck r l0 l1 ≠ 0 then (0, shCheck r l0 l1) else (prod r l0 l1, 0)
theorem sh_ok {r l0 l1 : Int} (h : shCheck r l0 l1 = 0) : (r = 0 ∨ r = 1 ∨ r = 2) ∧ 0 ≤ prod r l0 l1 ∧ prod r l0 l1 ≤ 400 := by
  unfold shCheck at h
  by_cases a : r < 0 ∨ 2 < r
  · rw [if_pos a] at h; cases h
  rw [if_neg a] at h
  by_cases b : (1 ≤ r ∧ l0 < 0) ∨ (2 ≤ r ∧ l1 < 0)
  · rw [if_pos b] at h; cases h
  rw [if_neg b] at h
  by_cases c : (r < 1 ∧ l0 ≠ 0) ∨ (r < 2 ∧ l1 ≠ 0)
  · rw [if_pos c] at h; cases h
  rw [if_neg c] at h
  by_cases d : 400 < l0 ∨ 400 < l1 ∨ 400 < prod r l0 l1
  · rw [if_pos d] at h; cases h
  refine ⟨by omega, ?_, by omega⟩
  obtain rfl | rfl | rfl : r = 0 ∨ r = 1 ∨ r = 2 := by omega
  · rw [prod_0]; omega
  · rw [prod_1]; omega
  · rw [prod_2]; exact Int.mul_nonneg (by omega) (by omega)
/-- is a number a rune? -/
def isRune (c : Int) : Bool := decide (0 ≤ c ∧ c ≤ 1114111 ∧ (c < 55296 ∨ 57343 < c))
/-- what is wrong with an array -/
def chk (a : Arr) : Int :=
  if a.k ≠ 1 ∧ a.k ≠ 2 then 2
  else if shCheck a.r a.l0 a.l1 ≠ 0 then shCheck a.r a.l0 a.l1
  else if (a.xs.length : Int) ≠ prod a.r a.l0 a.l1 then 6
  else if a.k = 2 ∧ a.xs.any (fun c => !isRune c) = true then 7 else 0
/-- what is wrong with two operands -/
def chk2 (a b : Arr) : Int := if chk a ≠ 0 then chk a else chk b
/-- rank and lengths of a result: error, rank, lengths -/
def extLens (a b : Arr) : Int × Int × Int × Int :=
  if chk2 a b ≠ 0 then (chk2 a b, 0, 0, 0)
  else if a.r = 0 then (0, b.r, b.l0, b.l1) else if b.r = 0 then (0, a.r, a.l0, a.l1)
  else if a.r ≠ b.r then (22, 0, 0, 0) else if a.l0 ≠ b.l0 ∨ a.l1 ≠ b.l1 then (11, 0, 0, 0) else (0, a.r, a.l0, a.l1)
/-- the cells of two operands, side by side -/
def pairs (a b : Arr) : List (Int × Int) :=
  if a.r = 0 then b.xs.map (fun y => (a.xs.getD 0 0, y)) else if b.r = 0 then a.xs.map (fun x => (x, b.xs.getD 0 0)) else a.xs.zip b.xs
def mapP (f : Int × Int → Int × Int) : List (Int × Int) → Int × List Int
  | [] => (0, [])
  | x :: xs => if (f x).2 ≠ 0 then ((f x).2, []) else if (mapP f xs).1 ≠ 0 then ((mapP f xs).1, []) else (0, (f x).1 :: (mapP f xs).2)
def kindsOk (p : Int) (a b : Arr) : Bool := decide ((a.k = 1 ∧ b.k = 1) ∨ (a.k = b.k ∧ (p = 23 ∨ p = 24)))
def extTwo (p : Int) (a b : Arr) : Int × Arr :=
  if arity p ≠ (2, 0) then (2, .zero) else if chk2 a b ≠ 0 then (chk2 a b, .zero) else if kindsOk p a b = false then (21, .zero)
  else if (extLens a b).1 ≠ 0 then ((extLens a b).1, .zero)
  else if (mapP (fun q => two p q.1 q.2) (pairs a b)).1 ≠ 0 then ((mapP (fun q => two p q.1 q.2) (pairs a b)).1, .zero)
  else (0, ⟨1, (extLens a b).2.1, (extLens a b).2.2.1, (extLens a b).2.2.2, (mapP (fun q => two p q.1 q.2) (pairs a b)).2⟩)
end Ar
end Go.Proofs.YtaelfhjdmljblaaGreatDoor
/-
Contracts of the methods of scalars.number (chapter 9).
-/
set_option linter.unusedSimpArgs false
set_option linter.unusedVariables false
namespace Go.Proofs.YtaelfhjdmljblaaGreatDoor
namespace Sc
open Go.RowKit Go.Lib
/-- a result of a number and an error's number -/
abbrev ret2 (r : Int × Int) : Ending := .returned (.tuple #[.int .i64 r.1, .int .i64 r.2])
/-- what was there before is there still -/
abbrev Gr (a b : World) : Prop := Below a.heap.size a b
theorem Gr.refl (w : World) : Gr w w := Below.refl _ _
theorem Gr.alloc {a b : World} (h : Gr a b) (c : Array Value) (t : TypeId) : Gr a (b.alloc (.cells c t)) := Below.alloc h (Below.size h) _
theorem gr_trans {a b c : World} (h : Gr a b) (k : Gr b c) : Gr a c := Below.trans h (Below.mono k (Below.size h))
theorem ret2_eq {r : Int × Int} {a b : Int} (h : r = (a, b)) : Ending.returned (.tuple #[.int .i64 a, .int .i64 b]) = ret2 r := by rw [h]
theorem truth_any (b : Bool) (w : World) : Calls Tryz.prog 200 #[.bool b] w fun e w' => e = ret2 (tr b, 0) ∧ w = w' := by
  cases b <;> (go_enter Tryz.func200, Tryz.ntmps200; go_wp2; go_ret2; exact ⟨rfl, rfl⟩)
theorem add_any (x y : Int) (hx : Fits x) (hy : Fits y) (w : World) : Calls Tryz.prog 170 #[.int .i64 x, .int .i64 y] w fun e w' => e = ret2 (chk (x + y)) ∧ w = w' := by
  by_cases hf : Fits (x + y)
  · have h3 := add_test_in x y hx hy hf
    have H : Hid (chk (x + y) = (x + y, 0)) := by unfold chk; rw [if_pos hf]; exact rfl
    unfold Fits at hx hy hf
    go_enter Tryz.func170, Tryz.ntmps170
    go_wp2
    go_ret2
    exact ⟨by rw [H.out]; rfl, rfl⟩
  · have h2 := (add_test x y hx hy).2 hf
    have H : Hid (chk (x + y) = (0, 12)) := by unfold chk; rw [if_neg hf]; exact rfl
    clear hf
    unfold Fits at hx hy
    go_enter Tryz.func170, Tryz.ntmps170
    go_wp2
    go_ret2
    exact ⟨by rw [H.out]; rfl, rfl⟩
theorem sub_any (x y : Int) (hx : Fits x) (hy : Fits y) (w : World) : Calls Tryz.prog 171 #[.int .i64 x, .int .i64 y] w fun e w' => e = ret2 (chk (x - y)) ∧ w = w' := by
  by_cases hf : Fits (x - y)
  · have h3 := sub_test_in x y hx hy hf
    have H : Hid (chk (x - y) = (x - y, 0)) := by unfold chk; rw [if_pos hf]; exact rfl
    unfold Fits at hx hy hf
    go_enter Tryz.func171, Tryz.ntmps171
    go_wp2
    go_ret2
    exact ⟨by rw [H.out]; rfl, rfl⟩
  · have h2 := (sub_test x y hx hy).2 hf
    have H : Hid (chk (x - y) = (0, 12)) := by unfold chk; rw [if_neg hf]; exact rfl
    clear hf
    unfold Fits at hx hy
    go_enter Tryz.func171, Tryz.ntmps171
    go_wp2
    go_ret2
    exact ⟨by rw [H.out]; rfl, rfl⟩
theorem neg_any (x : Int) (hx : Fits x) (w : World) : Calls Tryz.prog 167 #[.int .i64 x] w fun e w' => e = ret2 (chk (-x)) ∧ w = w' := by
  by_cases hf : Fits (-x)
  · have H : Hid (chk (-x) = (-x, 0)) := by unfold chk; rw [if_pos hf]; exact rfl
    unfold Fits at hx hf
    have h0 : (x == -9223372036854775808) = false := by rw [beq_eq_false_iff_ne]; omega
    go_enter Tryz.func167, Tryz.ntmps167
    go_wp2
    go_ret2
    exact ⟨by rw [H.out]; rfl, rfl⟩
  · have H : Hid (chk (-x) = (0, 12)) := by unfold chk; rw [if_neg hf]; exact rfl
    have h0 : (x == -9223372036854775808) = true := by rw [beq_iff_eq]; unfold Fits at hf hx; omega
    clear hf hx
    go_enter Tryz.func167, Tryz.ntmps167
    go_wp2
    go_ret2
    exact ⟨by rw [H.out]; rfl, rfl⟩
theorem size_any (x : Int) (hx : Fits x) (w : World) : Calls Tryz.prog 202 #[.int .i64 x] w fun e w' => e = .returned (.int .u64 (x.natAbs : Int)) ∧ w = w' := by
  by_cases h : x < 0
  · have H : Hid (IntKind.u64.wrap (-IntKind.u64.wrap x) = (x.natAbs : Int)) := u64_neg x hx h
    unfold Fits at hx
    go_enter Tryz.func202, Tryz.ntmps202
    go_wp2
    go_ret
    exact ⟨by rw [← H.out]; rfl, rfl⟩
  · have H : Hid (x = (x.natAbs : Int)) := u64_pos x (by omega)
    unfold Fits at hx
    go_enter Tryz.func202, Tryz.ntmps202
    go_wp2
    go_ret
    exact ⟨by rw [← H.out]; rfl, rfl⟩
namespace Mul64
theorem maskN (a : Nat) (ha : a < 18446744073709551616) : bits .and .u64 (a : Int) 4294967295 = ((a % 4294967296 : Nat) : Int) := by
  have h := bits_and_u64_nat a 4294967295 ha (by omega)
  have e : a &&& 4294967295 = a % 4294967296 := Nat.and_two_pow_sub_one_eq_mod a 32
  rw [e] at h
  exact h
theorem divN (a : Nat) : (a : Int) / 4294967296 = ((a / 4294967296 : Nat) : Int) := by omega
theorem mulN (a b : Nat) : (a : Int) * (b : Int) = ((a * b : Nat) : Int) := (Int.natCast_mul a b).symm
theorem addN (a b : Nat) : (a : Int) + (b : Int) = ((a + b : Nat) : Int) := (Int.natCast_add a b).symm
theorem wrapN (a : Nat) (ha : a < 18446744073709551616) : IntKind.u64.wrap (a : Int) = (a : Int) := by rw [IntKind.wrap_u64]; omega
theorem wrapM (a : Nat) : IntKind.u64.wrap (a : Int) = ((a % 18446744073709551616 : Nat) : Int) := by rw [IntKind.wrap_u64]; omega
end Mul64
set_option maxHeartbeats 1000000 in
/-- math/bits.Mul64: the upper and the lower half of the product -/
theorem mul64_any (x y : Nat) (hx : x < 18446744073709551616) (hy : y < 18446744073709551616) (w : World) :
    Calls Tryz.prog 201 #[.int .u64 x, .int .u64 y] w fun e w' => e = .returned (.tuple #[.int .u64 ((x * y / 18446744073709551616 : Nat) : Int), .int .u64 ((x * y % 18446744073709551616 : Nat) : Int)]) ∧ w = w' := by
  obtain ⟨bd, bt, bw, hhi⟩ := Lib.mul64_hi x y hx hy
  have ba := Lib.half_mul_le (a := x / 4294967296) (b := y / 4294967296) (by omega) (by omega)
  have bb := Lib.half_mul_le (a := x / 4294967296) (b := y % 4294967296) (by omega) (by omega)
  have bc := Lib.half_mul_le (a := x % 4294967296) (b := y / 4294967296) (by omega) (by omega)
  have ba' : x / 4294967296 * (y / 4294967296) < 18446744073709551616 := by omega
  have bb' : x / 4294967296 * (y % 4294967296) < 18446744073709551616 := by omega
  have bc' : x % 4294967296 * (y / 4294967296) < 18446744073709551616 := by omega
  have bh1 : x / 4294967296 * (y / 4294967296) + (x / 4294967296 * (y % 4294967296) + x % 4294967296 * (y % 4294967296) / 4294967296) / 4294967296 < 18446744073709551616 := by omega
  have bh : x / 4294967296 * (y / 4294967296) + (x / 4294967296 * (y % 4294967296) + x % 4294967296 * (y % 4294967296) / 4294967296) / 4294967296 + ((x / 4294967296 * (y % 4294967296) + x % 4294967296 * (y % 4294967296) / 4294967296) % 4294967296 + x % 4294967296 * (y / 4294967296)) / 4294967296 < 18446744073709551616 := by omega
  go_enter Tryz.func201, Tryz.ntmps201
  go_wp2
  simp only [Mul64.maskN x hx, Mul64.maskN y hy, Mul64.divN, Mul64.mulN, Mul64.addN, Mul64.wrapN _ bd, Mul64.wrapN _ bb', Mul64.wrapN _ bt, Mul64.maskN _ bt, Mul64.wrapN _ bc', Mul64.wrapN _ bw, Mul64.wrapN _ ba', Mul64.wrapN _ bh1, Mul64.wrapN _ bh, Mul64.wrapM (x * y)]
  rw [hhi]
  go_ret2
  exact ⟨rfl, rfl⟩
theorem mul64_of (x y : Int) (hx : Fits x) (hy : Fits y) (w : World) :
    Calls Tryz.prog 201 #[.int .u64 (x.natAbs : Int), .int .u64 (y.natAbs : Int)] w fun e w' => ∃ hi lo : Int, e = .returned (.tuple #[.int .u64 hi, .int .u64 lo]) ∧ Hid (MulOf x y hi lo) ∧ w = w' := by
  unfold Fits at hx hy
  refine (mul64_any _ _ (by omega) (by omega) w).mono ?_
  rintro e w' ⟨rfl, rfl⟩
  exact ⟨_, _, rfl, ⟨by omega, by omega, by omega, by omega⟩, rfl⟩
theorem mul_any (x y : Int) (hx : Fits x) (hy : Fits y) (w : World) : Calls Tryz.prog 172 #[.int .i64 x, .int .i64 y] w fun e w' => e = ret2 (chk (x * y)) ∧ w = w' := by
  by_cases a : x < 0 <;> by_cases b : y < 0
  all_goals
    go_enter Tryz.func172, Tryz.ntmps172
    go_wp2_with (first | (go_at_call 202; refine (size_any _ (by assumption) _).mono ?_; rintro e w' ⟨rfl, rfl⟩) | (go_at_call 201; refine (mul64_of _ _ hx hy _).mono ?_; rintro e w' ⟨hi, lo, rfl, hm, rfl⟩))
    all_goals
      go_ret2
      refine ⟨?_, rfl⟩
      first
        | exact ret2_eq (mul_over hm.out (by omega))
        | exact ret2_eq (mul_below hm.out (by omega) (by omega) (by omega))
        | exact ret2_eq (mul_above hm.out (by omega) (by omega) (by omega))
/-- a result that has no error, or the end of the numbers on its side -/
theorem limit_ok (z : Int) (b : Bool) (w : World) : Calls Tryz.prog 203 #[.int .i64 z, .int .i64 0, .bool b] w fun e w' => e = ret2 (z, 0) ∧ w = w' := by
  go_enter Tryz.func203, Tryz.ntmps203
  go_wp2
  go_ret2
  exact ⟨rfl, rfl⟩
theorem limit_below (z : Int) (b : Bool) (hb : b = true) (w : World) : Calls Tryz.prog 203 #[.int .i64 z, .int .i64 12, .bool b] w fun e w' => e = ret2 (-9223372036854775808, 0) ∧ w = w' := by
  subst hb
  go_enter Tryz.func203, Tryz.ntmps203
  go_wp2
  go_ret2
  exact ⟨rfl, rfl⟩
theorem limit_above (z : Int) (b : Bool) (hb : b = false) (w : World) : Calls Tryz.prog 203 #[.int .i64 z, .int .i64 12, .bool b] w fun e w' => e = ret2 (9223372036854775807, 0) ∧ w = w' := by
  subst hb
  go_enter Tryz.func203, Tryz.ntmps203
  go_wp2
  go_ret2
  exact ⟨rfl, rfl⟩
theorem plus_any (x y : Int) (hx : Fits x) (hy : Fits y) (w : World) : Calls Tryz.prog 175 #[.int .i64 x, .int .i64 y] w fun e w' => e = ret2 (clamp (x + y), 0) ∧ w = w' := by
  by_cases hf : Fits (x + y)
  · have H : Hid (chk (x + y) = (x + y, 0)) := chk_in hf
    have H2 : Hid (clamp (x + y) = x + y) := clamp_in hf
    clear hf
    go_enter Tryz.func175, Tryz.ntmps175
    go_wp2_with (first | (go_at_call 170; refine (add_any x y hx hy _).mono ?_; rw [H.out]; rintro e w' ⟨rfl, rfl⟩) | (go_at_call 203; refine (limit_ok _ _ _).mono ?_; rintro e w' ⟨rfl, rfl⟩))
    go_ret2
    exact ⟨by rw [H2.out]; rfl, rfl⟩
  · have H : Hid (chk (x + y) = (0, 12)) := chk_out hf
    by_cases a : x < 0 <;> by_cases b : y < 0
    · have H2 : Hid (clamp (x + y) = -9223372036854775808) := clamp_plus_below hx hy hf (by omega)
      clear hf
      go_enter Tryz.func175, Tryz.ntmps175
      go_wp2_with (first | (go_at_call 170; refine (add_any x y hx hy _).mono ?_; rw [H.out]; rintro e w' ⟨rfl, rfl⟩) | (go_at_call 203; refine (limit_below _ _ (by simp [a, b]; try omega) _).mono ?_; rintro e w' ⟨rfl, rfl⟩))
      go_ret2
      exact ⟨by rw [H2.out]; rfl, rfl⟩
    · have H2 : Hid (clamp (x + y) = -9223372036854775808) := clamp_plus_below hx hy hf (by omega)
      clear hf
      go_enter Tryz.func175, Tryz.ntmps175
      go_wp2_with (first | (go_at_call 170; refine (add_any x y hx hy _).mono ?_; rw [H.out]; rintro e w' ⟨rfl, rfl⟩) | (go_at_call 203; refine (limit_below _ _ (by simp [a, b]; try omega) _).mono ?_; rintro e w' ⟨rfl, rfl⟩))
      go_ret2
      exact ⟨by rw [H2.out]; rfl, rfl⟩
    · have H2 : Hid (clamp (x + y) = 9223372036854775807) := clamp_plus_above hx hy hf (by omega)
      clear hf
      go_enter Tryz.func175, Tryz.ntmps175
      go_wp2_with (first | (go_at_call 170; refine (add_any x y hx hy _).mono ?_; rw [H.out]; rintro e w' ⟨rfl, rfl⟩) | (go_at_call 203; refine (limit_above _ _ (by simp [a, b]; try omega) _).mono ?_; rintro e w' ⟨rfl, rfl⟩))
      go_ret2
      exact ⟨by rw [H2.out]; rfl, rfl⟩
    · have H2 : Hid (clamp (x + y) = 9223372036854775807) := clamp_plus_above hx hy hf (by omega)
      clear hf
      go_enter Tryz.func175, Tryz.ntmps175
      go_wp2_with (first | (go_at_call 170; refine (add_any x y hx hy _).mono ?_; rw [H.out]; rintro e w' ⟨rfl, rfl⟩) | (go_at_call 203; refine (limit_above _ _ (by simp [a, b]; try omega) _).mono ?_; rintro e w' ⟨rfl, rfl⟩))
      go_ret2
      exact ⟨by rw [H2.out]; rfl, rfl⟩
theorem minus_any (x y : Int) (hx : Fits x) (hy : Fits y) (w : World) : Calls Tryz.prog 176 #[.int .i64 x, .int .i64 y] w fun e w' => e = ret2 (clamp (x - y), 0) ∧ w = w' := by
  by_cases hf : Fits (x - y)
  · have H : Hid (chk (x - y) = (x - y, 0)) := chk_in hf
    have H2 : Hid (clamp (x - y) = x - y) := clamp_in hf
    clear hf
    go_enter Tryz.func176, Tryz.ntmps176
    go_wp2_with (first | (go_at_call 171; refine (sub_any x y hx hy _).mono ?_; rw [H.out]; rintro e w' ⟨rfl, rfl⟩) | (go_at_call 203; refine (limit_ok _ _ _).mono ?_; rintro e w' ⟨rfl, rfl⟩))
    go_ret2
    exact ⟨by rw [H2.out]; rfl, rfl⟩
  · have H : Hid (chk (x - y) = (0, 12)) := chk_out hf
    by_cases a : x < 0 <;> by_cases b : y < 0
    · have H2 : Hid (clamp (x - y) = -9223372036854775808) := clamp_minus_below hx hy hf (by omega)
      clear hf
      go_enter Tryz.func176, Tryz.ntmps176
      go_wp2_with (first | (go_at_call 171; refine (sub_any x y hx hy _).mono ?_; rw [H.out]; rintro e w' ⟨rfl, rfl⟩) | (go_at_call 203; refine (limit_below _ _ (by simp [a, b]; try omega) _).mono ?_; rintro e w' ⟨rfl, rfl⟩))
      go_ret2
      exact ⟨by rw [H2.out]; rfl, rfl⟩
    · have H2 : Hid (clamp (x - y) = -9223372036854775808) := clamp_minus_below hx hy hf (by omega)
      clear hf
      go_enter Tryz.func176, Tryz.ntmps176
      go_wp2_with (first | (go_at_call 171; refine (sub_any x y hx hy _).mono ?_; rw [H.out]; rintro e w' ⟨rfl, rfl⟩) | (go_at_call 203; refine (limit_below _ _ (by simp [a, b]; try omega) _).mono ?_; rintro e w' ⟨rfl, rfl⟩))
      go_ret2
      exact ⟨by rw [H2.out]; rfl, rfl⟩
    · have H2 : Hid (clamp (x - y) = 9223372036854775807) := clamp_minus_above hx hy hf (by omega)
      clear hf
      go_enter Tryz.func176, Tryz.ntmps176
      go_wp2_with (first | (go_at_call 171; refine (sub_any x y hx hy _).mono ?_; rw [H.out]; rintro e w' ⟨rfl, rfl⟩) | (go_at_call 203; refine (limit_above _ _ (by simp [a, b]; try omega) _).mono ?_; rintro e w' ⟨rfl, rfl⟩))
      go_ret2
      exact ⟨by rw [H2.out]; rfl, rfl⟩
    · have H2 : Hid (clamp (x - y) = 9223372036854775807) := clamp_minus_above hx hy hf (by omega)
      clear hf
      go_enter Tryz.func176, Tryz.ntmps176
      go_wp2_with (first | (go_at_call 171; refine (sub_any x y hx hy _).mono ?_; rw [H.out]; rintro e w' ⟨rfl, rfl⟩) | (go_at_call 203; refine (limit_above _ _ (by simp [a, b]; try omega) _).mono ?_; rintro e w' ⟨rfl, rfl⟩))
      go_ret2
      exact ⟨by rw [H2.out]; rfl, rfl⟩
theorem times_any (x y : Int) (hx : Fits x) (hy : Fits y) (w : World) : Calls Tryz.prog 177 #[.int .i64 x, .int .i64 y] w fun e w' => e = ret2 (clamp (x * y), 0) ∧ w = w' := by
  by_cases hf : Fits (x * y)
  · have H : Hid (chk (x * y) = (x * y, 0)) := chk_in hf
    have H2 : Hid (clamp (x * y) = x * y) := clamp_in hf
    clear hf
    go_enter Tryz.func177, Tryz.ntmps177
    go_wp2_with (first | (go_at_call 172; refine (mul_any x y hx hy _).mono ?_; rw [H.out]; rintro e w' ⟨rfl, rfl⟩) | (go_at_call 203; refine (limit_ok _ _ _).mono ?_; rintro e w' ⟨rfl, rfl⟩))
    go_ret2
    exact ⟨by rw [H2.out]; rfl, rfl⟩
  · have H : Hid (chk (x * y) = (0, 12)) := chk_out hf
    by_cases a : x < 0 <;> by_cases b : y < 0
    · have H2 : Hid (clamp (x * y) = 9223372036854775807) := clamp_times_above hx hy hf (by omega)
      clear hf
      go_enter Tryz.func177, Tryz.ntmps177
      go_wp2_with (first | (go_at_call 172; refine (mul_any x y hx hy _).mono ?_; rw [H.out]; rintro e w' ⟨rfl, rfl⟩) | (go_at_call 203; refine (limit_above _ _ (by simp [a, b]; try omega) _).mono ?_; rintro e w' ⟨rfl, rfl⟩))
      go_ret2
      exact ⟨by rw [H2.out]; rfl, rfl⟩
    · have H2 : Hid (clamp (x * y) = -9223372036854775808) := clamp_times_below hx hy hf (by omega)
      clear hf
      go_enter Tryz.func177, Tryz.ntmps177
      go_wp2_with (first | (go_at_call 172; refine (mul_any x y hx hy _).mono ?_; rw [H.out]; rintro e w' ⟨rfl, rfl⟩) | (go_at_call 203; refine (limit_below _ _ (by simp [a, b]; try omega) _).mono ?_; rintro e w' ⟨rfl, rfl⟩))
      go_ret2
      exact ⟨by rw [H2.out]; rfl, rfl⟩
    · have H2 : Hid (clamp (x * y) = -9223372036854775808) := clamp_times_below hx hy hf (by omega)
      clear hf
      go_enter Tryz.func177, Tryz.ntmps177
      go_wp2_with (first | (go_at_call 172; refine (mul_any x y hx hy _).mono ?_; rw [H.out]; rintro e w' ⟨rfl, rfl⟩) | (go_at_call 203; refine (limit_below _ _ (by simp [a, b]; try omega) _).mono ?_; rintro e w' ⟨rfl, rfl⟩))
      go_ret2
      exact ⟨by rw [H2.out]; rfl, rfl⟩
    · have H2 : Hid (clamp (x * y) = 9223372036854775807) := clamp_times_above hx hy hf (by omega)
      clear hf
      go_enter Tryz.func177, Tryz.ntmps177
      go_wp2_with (first | (go_at_call 172; refine (mul_any x y hx hy _).mono ?_; rw [H.out]; rintro e w' ⟨rfl, rfl⟩) | (go_at_call 203; refine (limit_above _ _ (by simp [a, b]; try omega) _).mono ?_; rintro e w' ⟨rfl, rfl⟩))
      go_ret2
      exact ⟨by rw [H2.out]; rfl, rfl⟩
end Sc
end Go.Proofs.YtaelfhjdmljblaaGreatDoor
/-
Contracts of the methods div and mod of scalars.number (chapter 9), and of the comparisons.
-/
set_option linter.unusedSimpArgs false
set_option linter.unusedVariables false
namespace Go.Proofs.YtaelfhjdmljblaaGreatDoor
namespace Sc
open Go.RowKit Go.Lib
theorem div_zero (x : Int) (w : World) : Calls Tryz.prog 173 #[.int .i64 x, .int .i64 0] w fun e w' => e = ret2 (0, 13) ∧ w = w' := by
  go_enter Tryz.func173, Tryz.ntmps173
  go_wp2
  go_ret2
  exact ⟨rfl, rfl⟩
theorem div_minus (x : Int) (hx : Fits x) (w : World) : Calls Tryz.prog 173 #[.int .i64 x, .int .i64 (-1)] w fun e w' => e = ret2 (chk (-x)) ∧ w = w' := by
  go_enter Tryz.func173, Tryz.ntmps173
  go_wp2_with (go_at_call 167; refine (neg_any x hx _).mono ?_; rintro e w' ⟨rfl, rfl⟩)
  go_ret2
  exact ⟨rfl, rfl⟩
theorem div_else (x y : Int) (hx : Fits x) (hy : Fits y) (h0 : y ≠ 0) (h1 : y ≠ -1) (w : World) : Calls Tryz.prog 173 #[.int .i64 x, .int .i64 y] w fun e w' => e = ret2 (x.fdiv y, 0) ∧ w = w' := by
  have c0 : (y == 0) = false := by simpa using h0
  have c1 : (y == -1) = false := by simpa using h1
  have HT : Hid (TM x y (x.tdiv y) (x.tmod y)) := tm_of h0
  have HF := hide (tm_fits hx h0 h1 HT.out)
  have hq : IntKind.i64.wrap (x.tdiv y) = x.tdiv y := IntWalk.i64_in _ (by rcases HF.out with h | h <;> exact h.1)
  have hm : wrap64 (x.tdiv y * y) = x.tdiv y * y := IntWalk.wrap64_in _ (tm_mul hx hy HT.out)
  by_cases e : x.tdiv y * y = x
  · have H := hide (div_same (x := x) h0 (Or.inl e))
    unfold Fits at hx hy
    go_enter Tryz.func173, Tryz.ntmps173
    go_wp2
    go_ret2
    exact ⟨ret2_eq H.out, rfl⟩
  · by_cases a : x < 0 <;> by_cases b : y < 0
    · have H := hide (div_same (x := x) h0 (Or.inr (Or.inl ⟨a, b⟩)))
      unfold Fits at hx hy
      go_enter Tryz.func173, Tryz.ntmps173
      go_wp2
      go_ret2
      exact ⟨ret2_eq H.out, rfl⟩
    · have H := hide (div_down hx h0 h1 e (Or.inl ⟨a, by omega⟩))
      unfold Fits at hx hy
      go_enter Tryz.func173, Tryz.ntmps173
      go_wp2
      go_ret2
      exact ⟨ret2_eq H.out, rfl⟩
    · have H := hide (div_down hx h0 h1 e (Or.inr ⟨by omega, b⟩))
      unfold Fits at hx hy
      go_enter Tryz.func173, Tryz.ntmps173
      go_wp2
      go_ret2
      exact ⟨ret2_eq H.out, rfl⟩
    · have H := hide (div_same (x := x) h0 (Or.inr (Or.inr ⟨by omega, by omega⟩)))
      unfold Fits at hx hy
      go_enter Tryz.func173, Tryz.ntmps173
      go_wp2
      go_ret2
      exact ⟨ret2_eq H.out, rfl⟩
theorem mod_zero (x : Int) (w : World) : Calls Tryz.prog 174 #[.int .i64 x, .int .i64 0] w fun e w' => e = ret2 (0, 13) ∧ w = w' := by
  go_enter Tryz.func174, Tryz.ntmps174
  go_wp2
  go_ret2
  exact ⟨rfl, rfl⟩
theorem mod_minus (x : Int) (w : World) : Calls Tryz.prog 174 #[.int .i64 x, .int .i64 (-1)] w fun e w' => e = ret2 (0, 0) ∧ w = w' := by
  go_enter Tryz.func174, Tryz.ntmps174
  go_wp2
  go_ret2
  exact ⟨rfl, rfl⟩
theorem mod_else (x y : Int) (hx : Fits x) (hy : Fits y) (h0 : y ≠ 0) (h1 : y ≠ -1) (w : World) : Calls Tryz.prog 174 #[.int .i64 x, .int .i64 y] w fun e w' => e = ret2 (x.fmod y, 0) ∧ w = w' := by
  have c0 : (y == 0) = false := by simpa using h0
  have c1 : (y == -1) = false := by simpa using h1
  have HR : Hid (Fits (x.tmod y)) := tmod_fits hy h0
  have HX := xor_neg (x.tmod y) y HR.out hy
  have hr : IntKind.i64.wrap (x.tmod y) = x.tmod y := IntWalk.i64_in _ HR.out
  have HS : Hid (x.tmod y < 0 → Fits (x.tmod y)) := fun _ => HR.out
  by_cases a : x.tmod y = 0
  · have c2 : (x.tmod y == 0) = true := by simpa using a
    have c3 : (x.tmod y != 0) = false := by simpa using a
    have A : Hid (x.tmod y = 0) := a
    clear a HX
    unfold Fits at hx hy
    go_enter Tryz.func174, Tryz.ntmps174
    go_wp2
    go_ret2
    exact ⟨ret2_eq (mod_same h0 (Or.inl A.out)), rfl⟩
  · have c2 : (x.tmod y == 0) = false := by simpa using a
    have c3 : (x.tmod y != 0) = true := by simpa using a
    by_cases b : (x.tmod y < 0 ∧ 0 ≤ y) ∨ (0 ≤ x.tmod y ∧ y < 0)
    · have hn : bits .xor .i64 (x.tmod y) y < 0 := HX.2 b
      have B : Hid ((x.tmod y < 0 ∧ 0 ≤ y) ∨ (0 ≤ x.tmod y ∧ y < 0)) := b
      have H2 : Hid (x.fmod y = x.tmod y + y) := congrArg Prod.fst (mod_down h0 a b)
      have hs : wrap64 (x.tmod y + y) = x.tmod y + y := IntWalk.wrap64_in _ (by have := fmod_fits (x := x) hy h0; rw [H2.out] at this; exact this)
      clear HX b
      unfold Fits at hx hy
      go_enter Tryz.func174, Tryz.ntmps174
      go_wp2
      go_ret2
      exact ⟨ret2_eq (by rw [H2.out, hs]), rfl⟩
    · have hn : 0 ≤ bits .xor .i64 (x.tmod y) y := by
        by_cases hc : bits .xor .i64 (x.tmod y) y < 0
        · exact absurd (HX.1 hc) b
        · omega
      have B : Hid (¬ ((x.tmod y < 0 ∧ 0 ≤ y) ∨ (0 ≤ x.tmod y ∧ y < 0))) := b
      clear HX b
      unfold Fits at hx hy
      go_enter Tryz.func174, Tryz.ntmps174
      go_wp2
      go_ret2
      exact ⟨ret2_eq (mod_same h0 (by have := B.out; omega)), rfl⟩
theorem div_all (x y : Int) (hx : Fits x) (hy : Fits y) (w : World) : Calls Tryz.prog 173 #[.int .i64 x, .int .i64 y] w fun e w' => e = ret2 (two 18 x y) ∧ w = w' := by
  by_cases h0 : y = 0
  · subst h0; exact div_zero x w
  · have e : two 18 x y = chk (x.fdiv y) := by unfold two; simp [h0]
    rw [e]
    by_cases h1 : y = -1
    · subst h1; rw [fdiv_minus]; exact div_minus x hx w
    · rw [chk_in (fdiv_fits hx h0 h1)]; exact div_else x y hx hy h0 h1 w
theorem mod_all (x y : Int) (hx : Fits x) (hy : Fits y) (w : World) : Calls Tryz.prog 174 #[.int .i64 x, .int .i64 y] w fun e w' => e = ret2 (two 19 x y) ∧ w = w' := by
  by_cases h0 : y = 0
  · subst h0; exact mod_zero x w
  · have e : two 19 x y = (x.fmod y, 0) := by unfold two; simp [h0]
    rw [e]
    by_cases h1 : y = -1
    · subst h1; rw [fmod_minus]; exact mod_minus x w
    · exact mod_else x y hx hy h0 h1 w
theorem eq_any (x y : Int) (hx : Fits x) (hy : Fits y) (w : World) : Calls Tryz.prog 178 #[.int .i64 x, .int .i64 y] w fun e w' => e = ret2 (tr (x == y), 0) ∧ w = w' := by
  go_enter Tryz.func178, Tryz.ntmps178
  go_wp2_with (go_at_call 200; refine (truth_any _ _).mono ?_; rintro e w' ⟨rfl, rfl⟩)
  go_ret2
  exact ⟨rfl, rfl⟩
theorem ne_any (x y : Int) (hx : Fits x) (hy : Fits y) (w : World) : Calls Tryz.prog 179 #[.int .i64 x, .int .i64 y] w fun e w' => e = ret2 (tr (x != y), 0) ∧ w = w' := by
  go_enter Tryz.func179, Tryz.ntmps179
  go_wp2_with (go_at_call 200; refine (truth_any _ _).mono ?_; rintro e w' ⟨rfl, rfl⟩)
  go_ret2
  exact ⟨rfl, rfl⟩
theorem lt_any (x y : Int) (hx : Fits x) (hy : Fits y) (w : World) : Calls Tryz.prog 180 #[.int .i64 x, .int .i64 y] w fun e w' => e = ret2 (tr (decide (x < y)), 0) ∧ w = w' := by
  go_enter Tryz.func180, Tryz.ntmps180
  go_wp2_with (go_at_call 200; refine (truth_any _ _).mono ?_; rintro e w' ⟨rfl, rfl⟩)
  go_ret2
  exact ⟨rfl, rfl⟩
theorem le_any (x y : Int) (hx : Fits x) (hy : Fits y) (w : World) : Calls Tryz.prog 181 #[.int .i64 x, .int .i64 y] w fun e w' => e = ret2 (tr (decide (x ≤ y)), 0) ∧ w = w' := by
  go_enter Tryz.func181, Tryz.ntmps181
  go_wp2_with (go_at_call 200; refine (truth_any _ _).mono ?_; rintro e w' ⟨rfl, rfl⟩)
  go_ret2
  exact ⟨rfl, rfl⟩
theorem gt_any (x y : Int) (hx : Fits x) (hy : Fits y) (w : World) : Calls Tryz.prog 182 #[.int .i64 x, .int .i64 y] w fun e w' => e = ret2 (tr (decide (y < x)), 0) ∧ w = w' := by
  go_enter Tryz.func182, Tryz.ntmps182
  go_wp2_with (go_at_call 200; refine (truth_any _ _).mono ?_; rintro e w' ⟨rfl, rfl⟩)
  go_ret2
  exact ⟨rfl, rfl⟩
theorem ge_any (x y : Int) (hx : Fits x) (hy : Fits y) (w : World) : Calls Tryz.prog 183 #[.int .i64 x, .int .i64 y] w fun e w' => e = ret2 (tr (decide (y ≤ x)), 0) ∧ w = w' := by
  go_enter Tryz.func183, Tryz.ntmps183
  go_wp2_with (go_at_call 200; refine (truth_any _ _).mono ?_; rintro e w' ⟨rfl, rfl⟩)
  go_ret2
  exact ⟨rfl, rfl⟩
theorem and_any (x y : Int) (hx : Fits x) (hy : Fits y) (w : World) : Calls Tryz.prog 184 #[.int .i64 x, .int .i64 y] w fun e w' => e = ret2 (tr (x != 0 && y != 0), 0) ∧ w = w' := by
  go_enter Tryz.func184, Tryz.ntmps184
  go_wp2_with (go_at_call 200; refine (truth_any _ _).mono ?_; rintro e w' ⟨rfl, rfl⟩)
  all_goals
    go_ret2
    exact ⟨ret2_eq (by simp [*]), rfl⟩
theorem or_any (x y : Int) (hx : Fits x) (hy : Fits y) (w : World) : Calls Tryz.prog 185 #[.int .i64 x, .int .i64 y] w fun e w' => e = ret2 (tr (x != 0 || y != 0), 0) ∧ w = w' := by
  go_enter Tryz.func185, Tryz.ntmps185
  go_wp2_with (go_at_call 200; refine (truth_any _ _).mono ?_; rintro e w' ⟨rfl, rfl⟩)
  go_ret2
  exact ⟨ret2_eq (by rw [or_test hx hy]), rfl⟩
theorem min_any (x y : Int) (w : World) : Calls Tryz.prog 186 #[.int .i64 x, .int .i64 y] w fun e w' => e = ret2 (min x y, 0) ∧ w = w' := by
  go_enter Tryz.func186, Tryz.ntmps186
  go_wp2
  all_goals
    go_ret2
    exact ⟨ret2_eq (by congr 1; omega), rfl⟩
theorem max_any (x y : Int) (w : World) : Calls Tryz.prog 187 #[.int .i64 x, .int .i64 y] w fun e w' => e = ret2 (max x y, 0) ∧ w = w' := by
  go_enter Tryz.func187, Tryz.ntmps187
  go_wp2
  all_goals
    go_ret2
    exact ⟨ret2_eq (by congr 1; omega), rfl⟩
#print axioms div_else
end Sc
end Go.Proofs.YtaelfhjdmljblaaGreatDoor
