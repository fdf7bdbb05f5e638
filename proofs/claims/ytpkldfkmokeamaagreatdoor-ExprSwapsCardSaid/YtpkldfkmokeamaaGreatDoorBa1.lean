/-
The plain mathematics of chapter 9: what a primitive of one or two numbers answers, over the integers, with no program in sight.
-/
import Derived.WalkKit
set_option linter.unusedSimpArgs false
set_option linter.unusedVariables false
namespace Go.Proofs.YtpkldfkmokeamaaGreatDoor
namespace Sc
open Go.RowKit
def Fits (z : Int) : Prop := -9223372036854775808 ≤ z ∧ z ≤ 9223372036854775807
instance (z : Int) : Decidable (Fits z) := inferInstanceAs (Decidable (_ ∧ _))
theorem wrap_bv (r : BitVec 64) : IntKind.i64.wrap (r.toNat : Int) = r.toInt := by
  rw [IntKind.wrap_i64, BitVec.toInt_eq_toNat_cond]
  have := r.isLt
  split <;> omega
theorem toInt_ofInt (a : Int) (h : Fits a) : (BitVec.ofInt 64 a).toInt = a := by
  rw [BitVec.toInt_ofInt]
  unfold Fits at h
  rw [Int.bmod_def]; split <;> omega
theorem or_eq (a b : Int) : bits .or .i64 a b = (BitVec.ofInt 64 a ||| BitVec.ofInt 64 b).toInt := wrap_bv _
theorem or_zero (a b : Int) (ha : Fits a) (hb : Fits b) : bits .or .i64 a b = 0 ↔ (a = 0 ∧ b = 0) := by
  rw [or_eq]
  have e : ∀ r : BitVec 64, r.toInt = 0 ↔ r = 0 := fun r => ⟨fun h => BitVec.eq_of_toInt_eq (by rw [h]; rfl), fun h => by rw [h]; rfl⟩
  rw [e]
  show BitVec.ofInt 64 a ||| BitVec.ofInt 64 b = 0#64 ↔ _
  rw [BitVec.or_eq_zero_iff]
  have e' : ∀ z, Fits z → (BitVec.ofInt 64 z = 0#64 ↔ z = 0) := fun z hz => by
    show BitVec.ofInt 64 z = (0 : BitVec 64) ↔ _
    rw [← e, toInt_ofInt z hz]
  rw [e' a ha, e' b hb]
def chk (z : Int) : Int × Int := if Fits z then (z, 0) else (0, 12)
def clamp (z : Int) : Int := if z < -9223372036854775808 then -9223372036854775808 else if 9223372036854775807 < z then 9223372036854775807 else z
def tr (b : Bool) : Int := if b then 1 else 0
def two (p x y : Int) : Int × Int :=
  if p = 15 then chk (x + y) else if p = 16 then chk (x - y) else if p = 17 then chk (x * y)
  else if p = 18 then (if y = 0 then (0, 13) else chk (Int.fdiv x y))
  else if p = 19 then (if y = 0 then (0, 13) else (Int.fmod x y, 0))
  else if p = 20 then (clamp (x + y), 0) else if p = 21 then (clamp (x - y), 0) else if p = 22 then (clamp (x * y), 0)
  else if p = 23 then (tr (x == y), 0) else if p = 24 then (tr (x != y), 0)
  else if p = 25 then (tr (decide (x < y)), 0) else if p = 26 then (tr (decide (x ≤ y)), 0)
  else if p = 27 then (tr (decide (y < x)), 0) else if p = 28 then (tr (decide (y ≤ x)), 0)
  else if p = 29 then (tr (x != 0 && y != 0), 0) else if p = 30 then (tr (x != 0 || y != 0), 0)
  else if p = 31 then (min x y, 0) else if p = 32 then (max x y, 0)
  else (0, 2)
def ab (x : Int) : Int := if x < 0 then -x else x
def one (p x : Int) : Int × Int :=
  if p = 1 then chk (-x) else if p = 2 then chk (ab x) else if p = 3 then (tr (x == 0), 0) else (0, 2)
end Sc
end Go.Proofs.YtpkldfkmokeamaaGreatDoor
