/-
The plain mathematics of chapter 9: what a primitive of one or two numbers answers, over the integers, with no program in sight.
-/
import Derived.WalkKit
set_option linter.unusedSimpArgs false
set_option linter.unusedVariables false
namespace Go.Proofs.YtpkldfkmokeamaaGreatDoor
namespace Sc
open Go.RowKit

theorem hide {p : Prop} (h : p) : Hid p := h
/-- the kind int64 holds a number -/
def Fits (z : Int) : Prop := -9223372036854775808 ≤ z ∧ z ≤ 9223372036854775807
instance (z : Int) : Decidable (Fits z) := inferInstanceAs (Decidable (_ ∧ _))
theorem wf_fits {z : Int} (h : (Lit.int .i64 z).wf = true) : -9223372036854775808 ≤ z ∧ z ≤ 9223372036854775807 := by
  simp [Lit.wf, IntKind.min, IntKind.max, IntKind.signed, IntKind.bits] at h
  omega
theorem fits_wf {z : Int} (h : -9223372036854775808 ≤ z ∧ z ≤ 9223372036854775807) : (Lit.int .i64 z).wf = true := WalkArith.wf_i64 (by omega)

/-! bits -/
theorem wrap_bv (r : BitVec 64) : IntKind.i64.wrap (r.toNat : Int) = r.toInt := by
  rw [IntKind.wrap_i64, BitVec.toInt_eq_toNat_cond]
  have := r.isLt
  split <;> omega
theorem toInt_ofInt (a : Int) (h : Fits a) : (BitVec.ofInt 64 a).toInt = a := by
  rw [BitVec.toInt_ofInt]
  unfold Fits at h
  rw [Int.bmod_def]; split <;> omega
theorem msb_ofInt (a : Int) (h : Fits a) : (BitVec.ofInt 64 a).msb = decide (a < 0) := by
  rw [BitVec.msb_eq_toInt, toInt_ofInt a h]
theorem xor_eq (a b : Int) : bits .xor .i64 a b = (BitVec.ofInt 64 a ^^^ BitVec.ofInt 64 b).toInt := wrap_bv _
theorem and_eq (a b : Int) : bits .and .i64 a b = (BitVec.ofInt 64 a &&& BitVec.ofInt 64 b).toInt := wrap_bv _
theorem or_eq (a b : Int) : bits .or .i64 a b = (BitVec.ofInt 64 a ||| BitVec.ofInt 64 b).toInt := wrap_bv _
theorem toInt_fits (r : BitVec 64) : Fits r.toInt := by
  unfold Fits; have := r.isLt; rw [BitVec.toInt_eq_toNat_cond]; split <;> omega
theorem xor_fits (a b : Int) : Fits (bits .xor .i64 a b) := by rw [xor_eq]; exact toInt_fits _
theorem xor_neg (a b : Int) (ha : Fits a) (hb : Fits b) : bits .xor .i64 a b < 0 ↔ ((a < 0 ∧ 0 ≤ b) ∨ (0 ≤ a ∧ b < 0)) := by
  have h : decide (bits .xor .i64 a b < 0) = Bool.xor (decide (a < 0)) (decide (b < 0)) := by
    rw [xor_eq, ← BitVec.msb_eq_toInt, BitVec.msb_xor, msb_ofInt a ha, msb_ofInt b hb]
  rw [← decide_eq_true_iff (p := bits .xor .i64 a b < 0), h]
  by_cases h1 : a < 0 <;> by_cases h2 : b < 0 <;> simp [h1, h2] <;> omega
theorem and_neg (a b : Int) (ha : Fits a) (hb : Fits b) : bits .and .i64 a b < 0 ↔ (a < 0 ∧ b < 0) := by
  have h : decide (bits .and .i64 a b < 0) = (decide (a < 0) && decide (b < 0)) := by
    rw [and_eq, ← BitVec.msb_eq_toInt, BitVec.msb_and, msb_ofInt a ha, msb_ofInt b hb]
  rw [← decide_eq_true_iff (p := bits .and .i64 a b < 0), h]
  simp
theorem or_zero (a b : Int) (ha : Fits a) (hb : Fits b) : bits .or .i64 a b = 0 ↔ (a = 0 ∧ b = 0) := by
  rw [or_eq]
  have e : ∀ r : BitVec 64, r.toInt = 0 ↔ r = 0 := fun r => ⟨fun h => BitVec.eq_of_toInt_eq (by rw [h]; rfl), fun h => by rw [h]; rfl⟩
  rw [e]
  show BitVec.ofInt 64 a ||| BitVec.ofInt 64 b = 0#64 ↔ _
  rw [BitVec.or_eq_zero_iff]
  have e' : ∀ z, Fits z → (BitVec.ofInt 64 z = 0#64 ↔ z = 0) := fun z hz => by
    show BitVec.ofInt 64 z = (0 : BitVec 64) ↔ _
    rw [← e, toInt_ofInt z hz]
  rw [e' a ha, e' b hb]

theorem wrap_u64 (n : Int) : IntKind.u64.wrap n = n % 18446744073709551616 := by simp [IntKind.wrap, IntKind.bits, IntKind.signed]
theorem wrap64_fits (z : Int) : Fits (wrap64 z) := by unfold Fits wrap64; omega

/-- the sign test of 'add' -/
theorem add_test (x y : Int) (hx : Fits x) (hy : Fits y) :
    bits .and .i64 (bits .xor .i64 x (wrap64 (x + y))) (bits .xor .i64 y (wrap64 (x + y))) < 0 ↔ ¬ Fits (x + y) := by
  have hz := wrap64_fits (x + y)
  rw [and_neg _ _ (xor_fits _ _) (xor_fits _ _), xor_neg _ _ hx hz, xor_neg _ _ hy hz]
  unfold Fits wrap64 at *
  omega
theorem sub_test (x y : Int) (hx : Fits x) (hy : Fits y) :
    bits .and .i64 (bits .xor .i64 x y) (bits .xor .i64 x (wrap64 (x - y))) < 0 ↔ ¬ Fits (x - y) := by
  have hz := wrap64_fits (x - y)
  rw [and_neg _ _ (xor_fits _ _) (xor_fits _ _), xor_neg _ _ hx hz, xor_neg _ _ hx hy]
  unfold Fits wrap64 at *
  omega

theorem add_test_in (x y : Int) (hx : Fits x) (hy : Fits y) (h : Fits (x + y)) :
    0 ≤ bits .and .i64 (bits .xor .i64 x (x + y)) (bits .xor .i64 y (x + y)) := by
  have := add_test x y hx hy
  rw [IntWalk.wrap64_in _ h] at this
  by_cases hc : bits .and .i64 (bits .xor .i64 x (x + y)) (bits .xor .i64 y (x + y)) < 0
  · exact absurd h (this.1 hc)
  · omega
theorem sub_test_in (x y : Int) (hx : Fits x) (hy : Fits y) (h : Fits (x - y)) :
    0 ≤ bits .and .i64 (bits .xor .i64 x y) (bits .xor .i64 x (x - y)) := by
  have := sub_test x y hx hy
  rw [IntWalk.wrap64_in _ h] at this
  by_cases hc : bits .and .i64 (bits .xor .i64 x y) (bits .xor .i64 x (x - y)) < 0
  · exact absurd h (this.1 hc)
  · omega

/-! what a primitive answers: a number, and the error's number -/
def chk (z : Int) : Int × Int := if Fits z then (z, 0) else (0, 12)
def clamp (z : Int) : Int := if z < -9223372036854775808 then -9223372036854775808 else if 9223372036854775807 < z then 9223372036854775807 else z
def tr (b : Bool) : Int := if b then 1 else 0

theorem u64_neg (x : Int) (h : Fits x) (h0 : x < 0) : IntKind.u64.wrap (-IntKind.u64.wrap x) = (x.natAbs : Int) := by
  unfold Fits at h; rw [wrap_u64, wrap_u64]; omega
theorem u64_pos (x : Int) (h0 : 0 ≤ x) : x = (x.natAbs : Int) := by omega

/-- what Mul64 answers of two sizes -/
def MulOf (x y hi lo : Int) : Prop := hi * 18446744073709551616 + lo = (x.natAbs * y.natAbs : Nat) ∧ 0 ≤ lo ∧ lo < 18446744073709551616 ∧ 0 ≤ hi
theorem mul_pos {x y : Int} (h : (x < 0 ∧ y < 0) ∨ (0 ≤ x ∧ 0 ≤ y)) : ((x.natAbs * y.natAbs : Nat) : Int) = x * y := by
  rw [← Int.natAbs_mul]
  have : 0 ≤ x * y := by
    rcases h with ⟨a, b⟩ | ⟨a, b⟩
    · exact Int.mul_nonneg_of_nonpos_of_nonpos (by omega) (by omega)
    · exact Int.mul_nonneg a b
  omega
theorem mul_neg {x y : Int} (h : (x < 0 ∧ 0 ≤ y) ∨ (0 ≤ x ∧ y < 0)) : ((x.natAbs * y.natAbs : Nat) : Int) = -(x * y) := by
  rw [← Int.natAbs_mul]
  have : x * y ≤ 0 := by
    rcases h with ⟨a, b⟩ | ⟨a, b⟩
    · exact Int.mul_nonpos_of_nonpos_of_nonneg (by omega) (by omega)
    · exact Int.mul_nonpos_of_nonneg_of_nonpos (by omega) (by omega)
  omega
/-- the three answers of 'mul' -/
theorem mul_over {x y hi lo : Int} (m : MulOf x y hi lo) (h : 0 < hi ∨ (((x < 0 ∧ y < 0) ∨ (0 ≤ x ∧ 0 ≤ y)) ∧ 9223372036854775807 < lo) ∨ 9223372036854775808 < lo) : chk (x * y) = (0, 12) := by
  obtain ⟨m1, m2, m3, m4⟩ := m
  unfold chk; rw [if_neg]
  unfold Fits
  by_cases hs : (x < 0 ∧ y < 0) ∨ (0 ≤ x ∧ 0 ≤ y)
  · rw [mul_pos hs] at m1; omega
  · rw [mul_neg (by omega)] at m1; omega
theorem mul_below {x y hi lo : Int} (m : MulOf x y hi lo) (h0 : hi ≤ 0) (h1 : lo ≤ 9223372036854775808) (hs : (x < 0 ∧ 0 ≤ y) ∨ (0 ≤ x ∧ y < 0)) : chk (x * y) = (wrap64 (IntKind.u64.wrap (-lo)), 0) := by
  obtain ⟨m1, m2, m3, m4⟩ := m
  rw [mul_neg hs] at m1
  have e : x * y = -lo := by omega
  rw [e]; unfold chk; rw [if_pos (by unfold Fits; omega), wrap_u64]
  unfold wrap64
  congr 1; omega
theorem mul_above {x y hi lo : Int} (m : MulOf x y hi lo) (h0 : hi ≤ 0) (h1 : lo ≤ 9223372036854775807) (hs : (x < 0 ∧ y < 0) ∨ (0 ≤ x ∧ 0 ≤ y)) : chk (x * y) = (wrap64 lo, 0) := by
  obtain ⟨m1, m2, m3, m4⟩ := m
  rw [mul_pos hs] at m1
  have e : x * y = lo := by omega
  rw [e]; unfold chk; rw [if_pos (by unfold Fits; omega), IntWalk.wrap64_in _ (by omega)]

theorem chk_in {z : Int} (h : Fits z) : chk z = (z, 0) := by unfold chk; rw [if_pos h]
theorem chk_out {z : Int} (h : ¬ Fits z) : chk z = (0, 12) := by unfold chk; rw [if_neg h]
theorem clamp_in {z : Int} (h : Fits z) : clamp z = z := by unfold clamp Fits at *; rw [if_neg (by omega), if_neg (by omega)]
theorem clamp_lo {z : Int} (h : z < -9223372036854775808) : clamp z = -9223372036854775808 := by unfold clamp; rw [if_pos h]
theorem clamp_hi {z : Int} (h : 9223372036854775807 < z) : clamp z = 9223372036854775807 := by unfold clamp; rw [if_neg (by omega), if_pos h]
theorem clamp_plus_below {x y : Int} (hx : Fits x) (hy : Fits y) (h : ¬ Fits (x + y)) (a : x < 0) : clamp (x + y) = -9223372036854775808 := clamp_lo (by unfold Fits at *; omega)
theorem clamp_plus_above {x y : Int} (hx : Fits x) (hy : Fits y) (h : ¬ Fits (x + y)) (a : 0 ≤ x) : clamp (x + y) = 9223372036854775807 := clamp_hi (by unfold Fits at *; omega)
theorem clamp_minus_below {x y : Int} (hx : Fits x) (hy : Fits y) (h : ¬ Fits (x - y)) (a : x < 0) : clamp (x - y) = -9223372036854775808 := clamp_lo (by unfold Fits at *; omega)
theorem clamp_minus_above {x y : Int} (hx : Fits x) (hy : Fits y) (h : ¬ Fits (x - y)) (a : 0 ≤ x) : clamp (x - y) = 9223372036854775807 := clamp_hi (by unfold Fits at *; omega)
theorem clamp_times_below {x y : Int} (hx : Fits x) (hy : Fits y) (h : ¬ Fits (x * y)) (a : (x < 0 ∧ 0 ≤ y) ∨ (0 ≤ x ∧ y < 0)) : clamp (x * y) = -9223372036854775808 :=
  clamp_lo (by have := mul_neg a; unfold Fits at *; omega)
theorem clamp_times_above {x y : Int} (hx : Fits x) (hy : Fits y) (h : ¬ Fits (x * y)) (a : (x < 0 ∧ y < 0) ∨ (0 ≤ x ∧ 0 ≤ y)) : clamp (x * y) = 9223372036854775807 :=
  clamp_hi (by have := mul_pos a; unfold Fits at *; omega)

/-! division: the quotient that is at most the true one, and its rest -/
def DM (x y q r : Int) : Prop := q * y + r = x ∧ ((0 ≤ r ∧ r < y) ∨ (y < r ∧ r ≤ 0))
def TM (x y q r : Int) : Prop := q * y + r = x ∧ r.natAbs < y.natAbs ∧ (0 ≤ x → 0 ≤ r) ∧ (x ≤ 0 → r ≤ 0) ∧ q.natAbs = x.natAbs / y.natAbs
theorem tm_of {x y : Int} (hy : y ≠ 0) : TM x y (x.tdiv y) (x.tmod y) := by
  refine ⟨Int.tdiv_mul_add_tmod x y, ?_, ?_, ?_, ?_⟩
  · rw [Int.natAbs_tmod]; exact Nat.mod_lt _ (by omega)
  · intro h; exact Int.tmod_nonneg _ h
  · intro h
    have := Int.tmod_nonneg (a := -x) y (by omega)
    rw [Int.neg_tmod] at this; omega
  · rw [Int.natAbs_tdiv]; rfl
theorem dm_unique {x y q r q' r' : Int} (h : DM x y q r) (h' : DM x y q' r') : q = q' ∧ r = r' := by
  obtain ⟨e, b⟩ := h; obtain ⟨e', b'⟩ := h'
  have m : (q - q') * y = r' - r := by rw [Int.sub_mul]; omega
  have a : (q - q').natAbs * y.natAbs = (r' - r).natAbs := by rw [← Int.natAbs_mul, m]
  have hq : q = q' := by
    by_cases hz : q = q'
    · exact hz
    · exfalso
      have h1 : 1 ≤ (q - q').natAbs := by omega
      have h2 := Nat.le_mul_of_pos_left y.natAbs h1
      omega
  subst hq
  exact ⟨rfl, by omega⟩
theorem dm_of {x y : Int} (hy : y ≠ 0) : DM x y (x.fdiv y) (x.fmod y) := by
  refine ⟨Int.fdiv_mul_add_fmod x y, ?_⟩
  by_cases h : 0 < y
  · exact Or.inl ⟨Int.fmod_nonneg_of_pos _ h, Int.fmod_lt_of_pos _ h⟩
  · have h1 := Int.fmod_nonneg_of_pos (-x) (b := -y) (by omega)
    have h2 := Int.fmod_lt_of_pos (-x) (b := -y) (by omega)
    rw [Int.neg_fmod_neg] at h1 h2
    omega
theorem dm_fdiv {x y q r : Int} (hy : y ≠ 0) (h : DM x y q r) : x.fdiv y = q := (dm_unique (dm_of hy) h).1
theorem dm_fmod {x y q r : Int} (hy : y ≠ 0) (h : DM x y q r) : x.fmod y = r := (dm_unique (dm_of hy) h).2
/-- no quotient is beyond the numbers, but that of the least number by -1 -/
theorem tm_fits {x y q r : Int} (hx : Fits x) (hy : y ≠ 0) (hy1 : y ≠ -1) (h : TM x y q r) : Fits q ∧ Fits (q - 1) ∨ Fits q ∧ q * y = x := by
  obtain ⟨e, b1, b2, b3, b4⟩ := h
  unfold Fits at *
  by_cases h1 : y = 1
  · subst h1; right; omega
  · have : x.natAbs / y.natAbs ≤ x.natAbs / 2 := Nat.div_le_div_left (by omega) (by omega)
    left; omega
theorem tm_mul {x y q r : Int} (hx : Fits x) (hy : Fits y) (h : TM x y q r) : Fits (q * y) := by
  obtain ⟨e, b1, b2, b3, b4⟩ := h
  unfold Fits at *
  have : q.natAbs * y.natAbs ≤ x.natAbs := by rw [b4]; exact Nat.div_mul_le_self _ _
  rw [← Int.natAbs_mul] at this
  omega
/-- the four ways of 'div' -/
theorem tm_down {x y q r : Int} (h : TM x y q r) (h0 : q * y ≠ x) (hs : (x < 0 ∧ 0 ≤ y) ∨ (0 ≤ x ∧ y < 0)) : DM x y (q - 1) (r + y) := by
  obtain ⟨e, b1, b2, b3, b4⟩ := h
  refine ⟨by rw [Int.sub_mul]; omega, ?_⟩
  omega
theorem tm_same {x y q r : Int} (hy : y ≠ 0) (h : TM x y q r) (h0 : q * y = x ∨ (x < 0 ∧ y < 0) ∨ (0 ≤ x ∧ 0 ≤ y)) : DM x y q r := by
  obtain ⟨e, b1, b2, b3, b4⟩ := h
  refine ⟨e, ?_⟩
  omega

theorem div_same {x y : Int} (hy : y ≠ 0) (h : x.tdiv y * y = x ∨ (x < 0 ∧ y < 0) ∨ (0 ≤ x ∧ 0 ≤ y)) : (x.fdiv y, (0 : Int)) = (x.tdiv y, 0) := by
  rw [dm_fdiv hy (tm_same hy (tm_of hy) h)]
theorem div_down {x y : Int} (hx : Fits x) (hy : y ≠ 0) (hy1 : y ≠ -1) (h0 : x.tdiv y * y ≠ x) (h : (x < 0 ∧ 0 ≤ y) ∨ (0 ≤ x ∧ y < 0)) : (x.fdiv y, (0 : Int)) = (wrap64 (x.tdiv y - 1), 0) := by
  rw [dm_fdiv hy (tm_down (tm_of hy) h0 h), IntWalk.wrap64_in]
  rcases tm_fits hx hy hy1 (tm_of hy) with h | h
  · exact h.2
  · exact absurd h.2 h0
theorem fdiv_fits {x y : Int} (hx : Fits x) (hy : y ≠ 0) (hy1 : y ≠ -1) : Fits (x.fdiv y) := by
  by_cases h : x.tdiv y * y = x ∨ (x < 0 ∧ y < 0) ∨ (0 ≤ x ∧ 0 ≤ y)
  · rw [dm_fdiv hy (tm_same hy (tm_of hy) h)]
    rcases tm_fits hx hy hy1 (tm_of hy) with h | h <;> exact h.1
  · rw [dm_fdiv hy (tm_down (tm_of hy) (by omega) (by omega))]
    rcases tm_fits hx hy hy1 (tm_of hy) with h' | h'
    · exact h'.2
    · exact absurd (Or.inl h'.2) h
theorem tmod_zero {x y : Int} : x.tdiv y * y = x ↔ x.tmod y = 0 := by
  have := Int.tdiv_mul_add_tmod x y
  omega
theorem mod_same {x y : Int} (hy : y ≠ 0) (h : x.tmod y = 0 ∨ (x.tmod y < 0 ∧ y < 0) ∨ (0 ≤ x.tmod y ∧ 0 ≤ y)) : (x.fmod y, (0 : Int)) = (x.tmod y, 0) := by
  have ht := tm_of (x := x) hy
  rw [dm_fmod hy (tm_same hy ht (by obtain ⟨e, b1, b2, b3, b4⟩ := ht; rw [tmod_zero]; omega))]
theorem mod_down {x y : Int} (hy : y ≠ 0) (h0 : x.tmod y ≠ 0) (h : (x.tmod y < 0 ∧ 0 ≤ y) ∨ (0 ≤ x.tmod y ∧ y < 0)) : (x.fmod y, (0 : Int)) = (x.tmod y + y, 0) := by
  have ht := tm_of (x := x) hy
  rw [dm_fmod hy (tm_down ht (by rw [Ne, tmod_zero]; exact h0) (by obtain ⟨e, b1, b2, b3, b4⟩ := ht; omega))]
theorem tmod_fits {x y : Int} (hy : Fits y) (h : y ≠ 0) : Fits (x.tmod y) := by
  obtain ⟨e, b1, b2, b3, b4⟩ := tm_of (x := x) h
  unfold Fits at *; omega
theorem fmod_fits {x y : Int} (hy : Fits y) (h : y ≠ 0) : Fits (x.fmod y) := by
  obtain ⟨e, b⟩ := dm_of (x := x) h
  unfold Fits at *; omega
theorem fdiv_minus (x : Int) : x.fdiv (-1) = -x := dm_fdiv (r := 0) (by omega) ⟨by omega, by omega⟩
theorem fmod_minus (x : Int) : x.fmod (-1) = 0 := dm_fmod (q := -x) (by omega) ⟨by omega, by omega⟩

theorem or_test {x y : Int} (hx : Fits x) (hy : Fits y) : (x != 0 || y != 0) = (bits .or .i64 x y != 0) := by
  have := or_zero x y hx hy
  rw [Bool.eq_iff_iff]; simp [this]; omega
def two (p x y : Int) : Int × Int :=
  if p = 15 then chk (x + y) else if p = 16 then chk (x - y) else if p = 17 then chk (x * y)
  else if p = 18 then (if y = 0 then (0, 13) else chk (Int.fdiv x y))
  else if p = 19 then (if y = 0 then (0, 13) else (Int.fmod x y, 0))
  else if p = 20 then (clamp (x + y), 0) else if p = 21 then (clamp (x - y), 0) else if p = 22 then (clamp (x * y), 0)
  else if p = 23 then (tr (x == y), 0) else if p = 24 then (tr (x != y), 0)
  else if p = 25 then (tr (decide (x < y)), 0) else if p = 26 then (tr (decide (x ≤ y)), 0)
  else if p = 27 then (tr (decide (y < x)), 0) else if p = 28 then (tr (decide (y ≤ x)), 0)
  else if p = 29 then (tr (x != 0 && y != 0), 0) else if p = 30 then (tr (x != 0 || y != 0), 0)
  else if p = 31 then (min x y, 0) else if p = 32 then (max x y, 0)
  else (0, 2)
theorem two_none {p x y : Int} (h : p < 15 ∨ 33 ≤ p) : two p x y = (0, 2) := by
  unfold two
  repeat (rw [if_neg (by omega)])
def ab (x : Int) : Int := if x < 0 then -x else x
def one (p x : Int) : Int × Int :=
  if p = 1 then chk (-x) else if p = 2 then chk (ab x) else if p = 3 then (tr (x == 0), 0) else (0, 2)
theorem one_none {p x : Int} (h : p < 1 ∨ 4 ≤ p) : one p x = (0, 2) := by
  unfold one
  repeat (rw [if_neg (by omega)])
def arity (p : Int) : Int × Int :=
  if 1 ≤ p ∧ p ≤ 3 then (1, 0) else if 15 ≤ p ∧ p ≤ 32 then (2, 0) else (0, 2)
theorem min_ways {x y : Int} (hx : Fits x) (hy : Fits y) (h : Fits (x * y)) :
    ((x == -9223372036854775808) = true ∧ (y == -1) = false ∧ (y == -9223372036854775808) = false) ∨
    ((x == -9223372036854775808) = false ∧ (y == -9223372036854775808) = true ∧ (x == -1) = false) ∨
    ((x == -9223372036854775808) = false ∧ (y == -9223372036854775808) = false) := by
  simp only [beq_eq_false_iff_ne, beq_iff_eq]
  unfold Fits at *
  by_cases a : x = -9223372036854775808
  · left; subst a; exact ⟨rfl, by rintro rfl; omega, by rintro rfl; omega⟩
  · by_cases b : y = -9223372036854775808
    · right; left; subst b; exact ⟨a, rfl, by rintro rfl; omega⟩
    · right; right; exact ⟨a, b⟩
/-- a product that wraps: divided again it is not what it was made of -/
theorem prod_quo {x y : Int} (hx : Fits x) (hy : Fits y) (h : ¬ Fits (x * y)) (h1 : ¬ (x = -9223372036854775808 ∧ y = -1)) :
    wrap64 ((wrap64 (x * y)).tdiv y) ≠ x := by
  have hy0 : y ≠ 0 := by rintro rfl; exact h (by unfold Fits; omega)
  have hy1 : y ≠ -1 := by
    rintro rfl
    unfold Fits at *; omega
  have hz := wrap64_fits (x * y)
  have ht := tm_of (x := wrap64 (x * y)) hy0
  have hq : Fits ((wrap64 (x * y)).tdiv y) := by rcases tm_fits hz hy0 hy1 ht with h | h <;> exact h.1
  rw [IntWalk.wrap64_in _ hq]
  intro e
  rw [e] at ht
  obtain ⟨e1, b1, b2, b3, b4⟩ := ht
  apply h
  generalize (wrap64 (x * y)).tmod y = r at *
  generalize x * y = m at *
  unfold Fits wrap64 at *
  omega
theorem prod_back {x y : Int} (hx : Fits x) (hy0 : y ≠ 0) (h : Fits (x * y)) : wrap64 ((wrap64 (x * y)).tdiv y) = x := by
  rw [IntWalk.wrap64_in _ h, Int.mul_tdiv_cancel _ hy0, IntWalk.wrap64_in _ hx]
theorem tdiv_fits {x y : Int} (hx : Fits x) (hy : Fits y) (h0 : y ≠ 0) (h : ¬ (x = -9223372036854775808 ∧ y = -1)) : Fits (x.tdiv y) := by
  by_cases h1 : y = -1
  · subst h1
    obtain ⟨e, b1, b2, b3, b4⟩ := tm_of (x := x) h0
    unfold Fits at *
    simp only [show (-1 : Int).natAbs = 1 from rfl, Nat.div_one] at b4 b1
    omega
  · rcases tm_fits hx h0 h1 (tm_of h0) with h | h <;> exact h.1
theorem m_two_18 {x y : Int} (hx : Fits x) (hy : Fits y) (h0 : y ≠ 0) (h : ¬ (x = -9223372036854775808 ∧ y = -1)) : two 18 x y = (x.fdiv y, 0) := by
  have e : two 18 x y = chk (x.fdiv y) := by unfold two; simp [h0]
  rw [e]; apply chk_in
  by_cases h1 : y = -1
  · subst h1; rw [fdiv_minus]; unfold Fits at *; omega
  · exact fdiv_fits hx h0 h1
theorem m_two_19 {x y : Int} (h0 : y ≠ 0) : two 19 x y = (x.fmod y, 0) := by unfold two; simp [h0]
end Sc
end Go.Proofs.YtpkldfkmokeamaaGreatDoor
