/-
Contracts of the methods of scalars.number (chapter 9).
-/
import Derived.Test.YtfpnafeildigaaaRows
import Derived.Test.YtfpnafeildigaaaScMath
import Derived.WalkKit
import Derived.ProofKit
import Derived.Lib.Mul64
import Derived.Laws.Bits64b
set_option linter.unusedSimpArgs false
set_option linter.unusedVariables false
namespace Go.Proofs.Ytfpnafeildigaaa
namespace Sc
open Go.RowKit Go.Lib

/-- a result of a number and an error's number -/
abbrev ret2 (r : Int × Int) : Ending := .returned (.tuple #[.int .i64 r.1, .int .i64 r.2])

/-- what was there before is there still -/
abbrev Gr (a b : World) : Prop := Below a.heap.size a b
theorem Gr.refl (w : World) : Gr w w := Below.refl _ _
theorem Gr.alloc {a b : World} (h : Gr a b) (c : Array Value) (t : TypeId) : Gr a (b.alloc (.cells c t)) := Below.alloc h (Below.size h) _
theorem gr_trans {a b c : World} (h : Gr a b) (k : Gr b c) : Gr a c := Below.trans h (Below.mono k (Below.size h))
theorem ret2_eq {r : Int × Int} {a b : Int} (h : r = (a, b)) : Ending.returned (.tuple #[.int .i64 a, .int .i64 b]) = ret2 r := by rw [h]

theorem truth_any (b : Bool) (w : World) : Calls Try.prog 140 #[.bool b] w fun e w' => e = ret2 (tr b, 0) ∧ w = w' := by
  cases b <;> (go_enter Try.func140, Try.ntmps140; go_wp2; go_ret2; exact ⟨rfl, rfl⟩)

theorem add_any (x y : Int) (hx : Fits x) (hy : Fits y) (w : World) : Calls Try.prog 118 #[.int .i64 x, .int .i64 y] w fun e w' => e = ret2 (chk (x + y)) ∧ w = w' := by
  by_cases hf : Fits (x + y)
  · have h3 := add_test_in x y hx hy hf
    have H : Hid (chk (x + y) = (x + y, 0)) := by unfold chk; rw [if_pos hf]; exact rfl
    unfold Fits at hx hy hf
    go_enter Try.func118, Try.ntmps118
    go_wp2
    go_ret2
    exact ⟨by rw [H.out]; rfl, rfl⟩
  · have h2 := (add_test x y hx hy).2 hf
    have H : Hid (chk (x + y) = (0, 12)) := by unfold chk; rw [if_neg hf]; exact rfl
    clear hf
    unfold Fits at hx hy
    go_enter Try.func118, Try.ntmps118
    go_wp2
    go_ret2
    exact ⟨by rw [H.out]; rfl, rfl⟩
theorem sub_any (x y : Int) (hx : Fits x) (hy : Fits y) (w : World) : Calls Try.prog 119 #[.int .i64 x, .int .i64 y] w fun e w' => e = ret2 (chk (x - y)) ∧ w = w' := by
  by_cases hf : Fits (x - y)
  · have h3 := sub_test_in x y hx hy hf
    have H : Hid (chk (x - y) = (x - y, 0)) := by unfold chk; rw [if_pos hf]; exact rfl
    unfold Fits at hx hy hf
    go_enter Try.func119, Try.ntmps119
    go_wp2
    go_ret2
    exact ⟨by rw [H.out]; rfl, rfl⟩
  · have h2 := (sub_test x y hx hy).2 hf
    have H : Hid (chk (x - y) = (0, 12)) := by unfold chk; rw [if_neg hf]; exact rfl
    clear hf
    unfold Fits at hx hy
    go_enter Try.func119, Try.ntmps119
    go_wp2
    go_ret2
    exact ⟨by rw [H.out]; rfl, rfl⟩
theorem neg_any (x : Int) (hx : Fits x) (w : World) : Calls Try.prog 115 #[.int .i64 x] w fun e w' => e = ret2 (chk (-x)) ∧ w = w' := by
  by_cases hf : Fits (-x)
  · have H : Hid (chk (-x) = (-x, 0)) := by unfold chk; rw [if_pos hf]; exact rfl
    unfold Fits at hx hf
    have h0 : (x == -9223372036854775808) = false := by rw [beq_eq_false_iff_ne]; omega
    go_enter Try.func115, Try.ntmps115
    go_wp2
    go_ret2
    exact ⟨by rw [H.out]; rfl, rfl⟩
  · have H : Hid (chk (-x) = (0, 12)) := by unfold chk; rw [if_neg hf]; exact rfl
    have h0 : (x == -9223372036854775808) = true := by rw [beq_iff_eq]; unfold Fits at hf hx; omega
    clear hf hx
    go_enter Try.func115, Try.ntmps115
    go_wp2
    go_ret2
    exact ⟨by rw [H.out]; rfl, rfl⟩
theorem abs_any (x : Int) (hx : Fits x) (w : World) : Calls Try.prog 116 #[.int .i64 x] w fun e w' => e = ret2 (chk (ab x)) ∧ w = w' := by
  by_cases h : x < 0
  · rw [show ab x = -x from if_pos h]
    go_enter Try.func116, Try.ntmps116
    go_wp2_with (go_at_call 115; refine (neg_any _ hx _).mono ?_; rintro e w' ⟨rfl, rfl⟩)
    go_ret2
    exact ⟨rfl, rfl⟩
  · rw [show ab x = x from if_neg h]
    have H : Hid (chk x = (x, 0)) := by unfold chk; rw [if_pos hx]; exact rfl
    go_enter Try.func116, Try.ntmps116
    go_wp2
    go_ret2
    exact ⟨by rw [H.out]; rfl, rfl⟩
theorem size_any (x : Int) (hx : Fits x) (w : World) : Calls Try.prog 142 #[.int .i64 x] w fun e w' => e = .returned (.int .u64 (x.natAbs : Int)) ∧ w = w' := by
  by_cases h : x < 0
  · have H : Hid (IntKind.u64.wrap (-IntKind.u64.wrap x) = (x.natAbs : Int)) := u64_neg x hx h
    unfold Fits at hx
    go_enter Try.func142, Try.ntmps142
    go_wp2
    go_ret
    exact ⟨by rw [← H.out]; rfl, rfl⟩
  · have H : Hid (x = (x.natAbs : Int)) := u64_pos x (by omega)
    unfold Fits at hx
    go_enter Try.func142, Try.ntmps142
    go_wp2
    go_ret
    exact ⟨by rw [← H.out]; rfl, rfl⟩

namespace Mul64
theorem maskN (a : Nat) (ha : a < 18446744073709551616) : bits .and .u64 (a : Int) 4294967295 = ((a % 4294967296 : Nat) : Int) := by
  have h := bits_and_u64_nat a 4294967295 ha (by omega)
  have e : a &&& 4294967295 = a % 4294967296 := Nat.and_two_pow_sub_one_eq_mod a 32
  rw [e] at h
  exact h
theorem divN (a : Nat) : (a : Int) / 4294967296 = ((a / 4294967296 : Nat) : Int) := by omega
theorem mulN (a b : Nat) : (a : Int) * (b : Int) = ((a * b : Nat) : Int) := (Int.natCast_mul a b).symm
theorem addN (a b : Nat) : (a : Int) + (b : Int) = ((a + b : Nat) : Int) := (Int.natCast_add a b).symm
theorem wrapN (a : Nat) (ha : a < 18446744073709551616) : IntKind.u64.wrap (a : Int) = (a : Int) := by rw [IntKind.wrap_u64]; omega
theorem wrapM (a : Nat) : IntKind.u64.wrap (a : Int) = ((a % 18446744073709551616 : Nat) : Int) := by rw [IntKind.wrap_u64]; omega
end Mul64
set_option maxHeartbeats 1000000 in
/-- math/bits.Mul64: the upper and the lower half of the product -/
theorem mul64_any (x y : Nat) (hx : x < 18446744073709551616) (hy : y < 18446744073709551616) (w : World) :
    Calls Try.prog 141 #[.int .u64 x, .int .u64 y] w fun e w' => e = .returned (.tuple #[.int .u64 ((x * y / 18446744073709551616 : Nat) : Int), .int .u64 ((x * y % 18446744073709551616 : Nat) : Int)]) ∧ w = w' := by
  obtain ⟨bd, bt, bw, hhi⟩ := Lib.mul64_hi x y hx hy
  have ba := Lib.half_mul_le (a := x / 4294967296) (b := y / 4294967296) (by omega) (by omega)
  have bb := Lib.half_mul_le (a := x / 4294967296) (b := y % 4294967296) (by omega) (by omega)
  have bc := Lib.half_mul_le (a := x % 4294967296) (b := y / 4294967296) (by omega) (by omega)
  have ba' : x / 4294967296 * (y / 4294967296) < 18446744073709551616 := by omega
  have bb' : x / 4294967296 * (y % 4294967296) < 18446744073709551616 := by omega
  have bc' : x % 4294967296 * (y / 4294967296) < 18446744073709551616 := by omega
  have bh1 : x / 4294967296 * (y / 4294967296) + (x / 4294967296 * (y % 4294967296) + x % 4294967296 * (y % 4294967296) / 4294967296) / 4294967296 < 18446744073709551616 := by omega
  have bh : x / 4294967296 * (y / 4294967296) + (x / 4294967296 * (y % 4294967296) + x % 4294967296 * (y % 4294967296) / 4294967296) / 4294967296 + ((x / 4294967296 * (y % 4294967296) + x % 4294967296 * (y % 4294967296) / 4294967296) % 4294967296 + x % 4294967296 * (y / 4294967296)) / 4294967296 < 18446744073709551616 := by omega
  go_enter Try.func141, Try.ntmps141
  go_wp2
  simp only [Mul64.maskN x hx, Mul64.maskN y hy, Mul64.divN, Mul64.mulN, Mul64.addN, Mul64.wrapN _ bd, Mul64.wrapN _ bb', Mul64.wrapN _ bt, Mul64.maskN _ bt, Mul64.wrapN _ bc', Mul64.wrapN _ bw, Mul64.wrapN _ ba', Mul64.wrapN _ bh1, Mul64.wrapN _ bh, Mul64.wrapM (x * y)]
  rw [hhi]
  go_ret2
  exact ⟨rfl, rfl⟩
theorem mul64_of (x y : Int) (hx : Fits x) (hy : Fits y) (w : World) :
    Calls Try.prog 141 #[.int .u64 (x.natAbs : Int), .int .u64 (y.natAbs : Int)] w fun e w' => ∃ hi lo : Int, e = .returned (.tuple #[.int .u64 hi, .int .u64 lo]) ∧ Hid (MulOf x y hi lo) ∧ w = w' := by
  unfold Fits at hx hy
  refine (mul64_any _ _ (by omega) (by omega) w).mono ?_
  rintro e w' ⟨rfl, rfl⟩
  exact ⟨_, _, rfl, ⟨by omega, by omega, by omega, by omega⟩, rfl⟩

theorem mul_any (x y : Int) (hx : Fits x) (hy : Fits y) (w : World) : Calls Try.prog 120 #[.int .i64 x, .int .i64 y] w fun e w' => e = ret2 (chk (x * y)) ∧ w = w' := by
  by_cases a : x < 0 <;> by_cases b : y < 0
  all_goals
    go_enter Try.func120, Try.ntmps120
    go_wp2_with (first | (go_at_call 142; refine (size_any _ (by assumption) _).mono ?_; rintro e w' ⟨rfl, rfl⟩) | (go_at_call 141; refine (mul64_of _ _ hx hy _).mono ?_; rintro e w' ⟨hi, lo, rfl, hm, rfl⟩))
    all_goals
      go_ret2
      refine ⟨?_, rfl⟩
      first
        | exact ret2_eq (mul_over hm.out (by omega))
        | exact ret2_eq (mul_below hm.out (by omega) (by omega) (by omega))
        | exact ret2_eq (mul_above hm.out (by omega) (by omega) (by omega))

/-- a result that has no error, or the end of the numbers on its side -/
theorem limit_ok (z : Int) (b : Bool) (w : World) : Calls Try.prog 143 #[.int .i64 z, .int .i64 0, .bool b] w fun e w' => e = ret2 (z, 0) ∧ w = w' := by
  go_enter Try.func143, Try.ntmps143
  go_wp2
  go_ret2
  exact ⟨rfl, rfl⟩
theorem limit_below (z : Int) (b : Bool) (hb : b = true) (w : World) : Calls Try.prog 143 #[.int .i64 z, .int .i64 12, .bool b] w fun e w' => e = ret2 (-9223372036854775808, 0) ∧ w = w' := by
  subst hb
  go_enter Try.func143, Try.ntmps143
  go_wp2
  go_ret2
  exact ⟨rfl, rfl⟩
theorem limit_above (z : Int) (b : Bool) (hb : b = false) (w : World) : Calls Try.prog 143 #[.int .i64 z, .int .i64 12, .bool b] w fun e w' => e = ret2 (9223372036854775807, 0) ∧ w = w' := by
  subst hb
  go_enter Try.func143, Try.ntmps143
  go_wp2
  go_ret2
  exact ⟨rfl, rfl⟩
theorem plus_any (x y : Int) (hx : Fits x) (hy : Fits y) (w : World) : Calls Try.prog 123 #[.int .i64 x, .int .i64 y] w fun e w' => e = ret2 (clamp (x + y), 0) ∧ w = w' := by
  by_cases hf : Fits (x + y)
  · have H : Hid (chk (x + y) = (x + y, 0)) := chk_in hf
    have H2 : Hid (clamp (x + y) = x + y) := clamp_in hf
    clear hf
    go_enter Try.func123, Try.ntmps123
    go_wp2_with (first | (go_at_call 118; refine (add_any x y hx hy _).mono ?_; rw [H.out]; rintro e w' ⟨rfl, rfl⟩) | (go_at_call 143; refine (limit_ok _ _ _).mono ?_; rintro e w' ⟨rfl, rfl⟩))
    go_ret2
    exact ⟨by rw [H2.out]; rfl, rfl⟩
  · have H : Hid (chk (x + y) = (0, 12)) := chk_out hf
    by_cases a : x < 0 <;> by_cases b : y < 0
    · have H2 : Hid (clamp (x + y) = -9223372036854775808) := clamp_plus_below hx hy hf (by omega)
      clear hf
      go_enter Try.func123, Try.ntmps123
      go_wp2_with (first | (go_at_call 118; refine (add_any x y hx hy _).mono ?_; rw [H.out]; rintro e w' ⟨rfl, rfl⟩) | (go_at_call 143; refine (limit_below _ _ (by simp [a, b]; try omega) _).mono ?_; rintro e w' ⟨rfl, rfl⟩))
      go_ret2
      exact ⟨by rw [H2.out]; rfl, rfl⟩
    · have H2 : Hid (clamp (x + y) = -9223372036854775808) := clamp_plus_below hx hy hf (by omega)
      clear hf
      go_enter Try.func123, Try.ntmps123
      go_wp2_with (first | (go_at_call 118; refine (add_any x y hx hy _).mono ?_; rw [H.out]; rintro e w' ⟨rfl, rfl⟩) | (go_at_call 143; refine (limit_below _ _ (by simp [a, b]; try omega) _).mono ?_; rintro e w' ⟨rfl, rfl⟩))
      go_ret2
      exact ⟨by rw [H2.out]; rfl, rfl⟩
    · have H2 : Hid (clamp (x + y) = 9223372036854775807) := clamp_plus_above hx hy hf (by omega)
      clear hf
      go_enter Try.func123, Try.ntmps123
      go_wp2_with (first | (go_at_call 118; refine (add_any x y hx hy _).mono ?_; rw [H.out]; rintro e w' ⟨rfl, rfl⟩) | (go_at_call 143; refine (limit_above _ _ (by simp [a, b]; try omega) _).mono ?_; rintro e w' ⟨rfl, rfl⟩))
      go_ret2
      exact ⟨by rw [H2.out]; rfl, rfl⟩
    · have H2 : Hid (clamp (x + y) = 9223372036854775807) := clamp_plus_above hx hy hf (by omega)
      clear hf
      go_enter Try.func123, Try.ntmps123
      go_wp2_with (first | (go_at_call 118; refine (add_any x y hx hy _).mono ?_; rw [H.out]; rintro e w' ⟨rfl, rfl⟩) | (go_at_call 143; refine (limit_above _ _ (by simp [a, b]; try omega) _).mono ?_; rintro e w' ⟨rfl, rfl⟩))
      go_ret2
      exact ⟨by rw [H2.out]; rfl, rfl⟩
theorem minus_any (x y : Int) (hx : Fits x) (hy : Fits y) (w : World) : Calls Try.prog 124 #[.int .i64 x, .int .i64 y] w fun e w' => e = ret2 (clamp (x - y), 0) ∧ w = w' := by
  by_cases hf : Fits (x - y)
  · have H : Hid (chk (x - y) = (x - y, 0)) := chk_in hf
    have H2 : Hid (clamp (x - y) = x - y) := clamp_in hf
    clear hf
    go_enter Try.func124, Try.ntmps124
    go_wp2_with (first | (go_at_call 119; refine (sub_any x y hx hy _).mono ?_; rw [H.out]; rintro e w' ⟨rfl, rfl⟩) | (go_at_call 143; refine (limit_ok _ _ _).mono ?_; rintro e w' ⟨rfl, rfl⟩))
    go_ret2
    exact ⟨by rw [H2.out]; rfl, rfl⟩
  · have H : Hid (chk (x - y) = (0, 12)) := chk_out hf
    by_cases a : x < 0 <;> by_cases b : y < 0
    · have H2 : Hid (clamp (x - y) = -9223372036854775808) := clamp_minus_below hx hy hf (by omega)
      clear hf
      go_enter Try.func124, Try.ntmps124
      go_wp2_with (first | (go_at_call 119; refine (sub_any x y hx hy _).mono ?_; rw [H.out]; rintro e w' ⟨rfl, rfl⟩) | (go_at_call 143; refine (limit_below _ _ (by simp [a, b]; try omega) _).mono ?_; rintro e w' ⟨rfl, rfl⟩))
      go_ret2
      exact ⟨by rw [H2.out]; rfl, rfl⟩
    · have H2 : Hid (clamp (x - y) = -9223372036854775808) := clamp_minus_below hx hy hf (by omega)
      clear hf
      go_enter Try.func124, Try.ntmps124
      go_wp2_with (first | (go_at_call 119; refine (sub_any x y hx hy _).mono ?_; rw [H.out]; rintro e w' ⟨rfl, rfl⟩) | (go_at_call 143; refine (limit_below _ _ (by simp [a, b]; try omega) _).mono ?_; rintro e w' ⟨rfl, rfl⟩))
      go_ret2
      exact ⟨by rw [H2.out]; rfl, rfl⟩
    · have H2 : Hid (clamp (x - y) = 9223372036854775807) := clamp_minus_above hx hy hf (by omega)
      clear hf
      go_enter Try.func124, Try.ntmps124
      go_wp2_with (first | (go_at_call 119; refine (sub_any x y hx hy _).mono ?_; rw [H.out]; rintro e w' ⟨rfl, rfl⟩) | (go_at_call 143; refine (limit_above _ _ (by simp [a, b]; try omega) _).mono ?_; rintro e w' ⟨rfl, rfl⟩))
      go_ret2
      exact ⟨by rw [H2.out]; rfl, rfl⟩
    · have H2 : Hid (clamp (x - y) = 9223372036854775807) := clamp_minus_above hx hy hf (by omega)
      clear hf
      go_enter Try.func124, Try.ntmps124
      go_wp2_with (first | (go_at_call 119; refine (sub_any x y hx hy _).mono ?_; rw [H.out]; rintro e w' ⟨rfl, rfl⟩) | (go_at_call 143; refine (limit_above _ _ (by simp [a, b]; try omega) _).mono ?_; rintro e w' ⟨rfl, rfl⟩))
      go_ret2
      exact ⟨by rw [H2.out]; rfl, rfl⟩
theorem times_any (x y : Int) (hx : Fits x) (hy : Fits y) (w : World) : Calls Try.prog 125 #[.int .i64 x, .int .i64 y] w fun e w' => e = ret2 (clamp (x * y), 0) ∧ w = w' := by
  by_cases hf : Fits (x * y)
  · have H : Hid (chk (x * y) = (x * y, 0)) := chk_in hf
    have H2 : Hid (clamp (x * y) = x * y) := clamp_in hf
    clear hf
    go_enter Try.func125, Try.ntmps125
    go_wp2_with (first | (go_at_call 120; refine (mul_any x y hx hy _).mono ?_; rw [H.out]; rintro e w' ⟨rfl, rfl⟩) | (go_at_call 143; refine (limit_ok _ _ _).mono ?_; rintro e w' ⟨rfl, rfl⟩))
    go_ret2
    exact ⟨by rw [H2.out]; rfl, rfl⟩
  · have H : Hid (chk (x * y) = (0, 12)) := chk_out hf
    by_cases a : x < 0 <;> by_cases b : y < 0
    · have H2 : Hid (clamp (x * y) = 9223372036854775807) := clamp_times_above hx hy hf (by omega)
      clear hf
      go_enter Try.func125, Try.ntmps125
      go_wp2_with (first | (go_at_call 120; refine (mul_any x y hx hy _).mono ?_; rw [H.out]; rintro e w' ⟨rfl, rfl⟩) | (go_at_call 143; refine (limit_above _ _ (by simp [a, b]; try omega) _).mono ?_; rintro e w' ⟨rfl, rfl⟩))
      go_ret2
      exact ⟨by rw [H2.out]; rfl, rfl⟩
    · have H2 : Hid (clamp (x * y) = -9223372036854775808) := clamp_times_below hx hy hf (by omega)
      clear hf
      go_enter Try.func125, Try.ntmps125
      go_wp2_with (first | (go_at_call 120; refine (mul_any x y hx hy _).mono ?_; rw [H.out]; rintro e w' ⟨rfl, rfl⟩) | (go_at_call 143; refine (limit_below _ _ (by simp [a, b]; try omega) _).mono ?_; rintro e w' ⟨rfl, rfl⟩))
      go_ret2
      exact ⟨by rw [H2.out]; rfl, rfl⟩
    · have H2 : Hid (clamp (x * y) = -9223372036854775808) := clamp_times_below hx hy hf (by omega)
      clear hf
      go_enter Try.func125, Try.ntmps125
      go_wp2_with (first | (go_at_call 120; refine (mul_any x y hx hy _).mono ?_; rw [H.out]; rintro e w' ⟨rfl, rfl⟩) | (go_at_call 143; refine (limit_below _ _ (by simp [a, b]; try omega) _).mono ?_; rintro e w' ⟨rfl, rfl⟩))
      go_ret2
      exact ⟨by rw [H2.out]; rfl, rfl⟩
    · have H2 : Hid (clamp (x * y) = 9223372036854775807) := clamp_times_above hx hy hf (by omega)
      clear hf
      go_enter Try.func125, Try.ntmps125
      go_wp2_with (first | (go_at_call 120; refine (mul_any x y hx hy _).mono ?_; rw [H.out]; rintro e w' ⟨rfl, rfl⟩) | (go_at_call 143; refine (limit_above _ _ (by simp [a, b]; try omega) _).mono ?_; rintro e w' ⟨rfl, rfl⟩))
      go_ret2
      exact ⟨by rw [H2.out]; rfl, rfl⟩
end Sc
end Go.Proofs.Ytfpnafeildigaaa
