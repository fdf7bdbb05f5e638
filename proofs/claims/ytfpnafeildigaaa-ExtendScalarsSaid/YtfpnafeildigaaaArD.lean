/-
Contracts of Check, Like and Same of the reference, of Alike and of Far (chapters 6 and 7).
-/
import Derived.Test.YtfpnafeildigaaaArC
set_option linter.unusedSimpArgs false
set_option linter.unusedVariables false
namespace Go.Proofs.Ytfpnafeildigaaa
namespace Ar
open Go.RowKit Sc

/-- two arrays of two numbers, compared -/
theorem run_eql_arr2 {P : Program} (t e : TypeId) {i : TypeInfo} (hu : P.underlying t = some (.array 2 e)) (he : P.underlying e = some (.int .i64)) (hi : P.info? e = some i) (hz : i.size = 1) (a b c d : Int) (w : World) :
    (Op.equalIn 10000 t (.agg #[.int .i64 a, .int .i64 b]) (.agg #[.int .i64 c, .int .i64 d])).run P w = .ok (a == c && b == d) w := by
  have e1 := fun (x y : Int) (w : World) => run_equalIn_int (P := P) w 9998 e .i64 .i64 x y he
  have e2 : ∀ w : World, (isAgg e).run P w = .ok false w := fun w => by simp [isAgg, run_underlying he]
  show (Op.equalIn (9998 + 1 + 1) t _ _).run P w = _
  unfold Op.equalIn
  simp only [Nat.reduceAdd] at e1 ⊢
  simp [run_underlying hu, sizeOf, typeInfo, hi, hz, part, e2, e1, List.range']
  by_cases h1 : a = c <;> by_cases h2 : b = d <;> simp [h1, h2]
theorem info_int : (Try.prog.info? 3).map (fun i => (i.zero, i.size, i.bytes)) = some (some (.int .i64 0), 1, 8) := by kernel_rfl
theorem eql_lens (a b c d : Int) (w : World) : (binOp .eql 22 (.agg #[.int .i64 a, .int .i64 b]) (.agg #[.int .i64 c, .int .i64 d])).run Try.prog w = .ok (.bool (a == c && b == d)) w := by
  obtain ⟨i0, hi, _, hz, _⟩ := info_parts info_int
  rw [run_eql_struct, run_eql_arr2 _ _ Try.underlying22 Try.underlying3 hi hz, Result.andThen_ok]
theorem far_any (a : Arr) (A : Option Addr) (c : Nat) (w : World) : Calls Try.prog 19 #[.agg #[.int .i64 a.k, .int .i64 a.r, .int .i64 a.l0, .int .i64 a.l1, .slice A a.xs.length c]] w fun e w' => e = .returned (.bool (decide (405 < (a.xs.length : Int)))) ∧ Below w.heap.size w w' := by
  go_enter Try.func19, Try.ntmps19
  go_wp2
  go_ret
  exact ⟨rfl, by (repeat (first | exact Below.refl _ _ | assumption | (refine bl_then ?_ (by assumption)) | (refine bl_alloc ?_ _) | (refine bl_dn ?_ _) | (refine bl_drew ?_)))⟩
namespace Ref
theorem ac_k (a : Arr) (A : Option Addr) (c : Nat) (hl : a.xs.length ≤ 9223372036854775807) (f0 : Fits a.l0) (f1 : Fits a.l1) (h1 : a.k ≠ 1) (h2 : a.k ≠ 2) (w : World) (hs : Sl w A a.xs) : Calls Try.prog 29 #[.agg #[.int .i64 a.k, .int .i64 a.r, .int .i64 a.l0, .int .i64 a.l1, .slice A a.xs.length c]] w fun e w' => e = .returned (.int .i64 2) ∧ Below w.heap.size w w' := by
  have n1 : (a.k != 1) = true := by simpa using h1
  have n2 : (a.k != 2) = true := by simpa using h2
  go_enter Try.func29, Try.ntmps29
  go_wp2
  go_ret
  exact ⟨rfl, by (repeat (first | exact Below.refl _ _ | assumption | (refine bl_then ?_ (by assumption)) | (refine bl_alloc ?_ _) | (refine bl_dn ?_ _) | (refine bl_drew ?_)))⟩
theorem ac_1s (a : Arr) (A : Option Addr) (c : Nat) (hl : a.xs.length ≤ 9223372036854775807) (f0 : Fits a.l0) (f1 : Fits a.l1) (h : a.k = 1) (h1 : shCheck a.r a.l0 a.l1 ≠ 0) (w : World) (hs : Sl w A a.xs) : Calls Try.prog 29 #[.agg #[.int .i64 a.k, .int .i64 a.r, .int .i64 a.l0, .int .i64 a.l1, .slice A a.xs.length c]] w fun e w' => e = .returned (.int .i64 (shCheck a.r a.l0 a.l1)) ∧ Below w.heap.size w w' := by
  have n1 : (a.k != 1) = false := by rw [h]; rfl
  have g0 := hide f0; have g1 := hide f1
  clear f0 f1
  have e1 := cells_bad_eq h1
  have e2 : (shCheck a.r a.l0 a.l1 == 0) = false := by simpa using h1
  clear h1 h
  go_enter Try.func29, Try.ntmps29
  go_wp2_with ((go_at_call 72; refine (Ref.cells_any _ _ _ g0.out g1.out _).mono ?_; rintro e w' ⟨rfl, hg⟩; obtain ⟨hc, hf, hz⟩ := bcell hg))
  refine wp_loop_rounds 1 ?_
  rw [rounds_succ]
  by_cases hn : 0 < a.xs.length
  all_goals
    go_wp2
    go_ret
    exact ⟨rfl, by (repeat (first | exact Below.refl _ _ | assumption | (refine bl_then ?_ (by assumption)) | (refine bl_alloc ?_ _) | (refine bl_dn ?_ _) | (refine bl_drew ?_)))⟩
theorem ac_1n (a : Arr) (A : Option Addr) (c : Nat) (hl : a.xs.length ≤ 9223372036854775807) (f0 : Fits a.l0) (f1 : Fits a.l1) (h : a.k = 1) (h1 : shCheck a.r a.l0 a.l1 = 0) (h2 : (a.xs.length : Int) ≠ prod a.r a.l0 a.l1) (w : World) (hs : Sl w A a.xs) : Calls Try.prog 29 #[.agg #[.int .i64 a.k, .int .i64 a.r, .int .i64 a.l0, .int .i64 a.l1, .slice A a.xs.length c]] w fun e w' => e = .returned (.int .i64 6) ∧ Below w.heap.size w w' := by
  have n1 : (a.k != 1) = false := by rw [h]; rfl
  have g0 := hide f0; have g1 := hide f1
  clear f0 f1
  have e1 := cells_ok_eq h1
  have e2 : ((a.xs.length : Int) != prod a.r a.l0 a.l1) = true := by simpa using h2
  clear h1 h
  go_enter Try.func29, Try.ntmps29
  go_wp2_with ((go_at_call 72; refine (Ref.cells_any _ _ _ g0.out g1.out _).mono ?_; rintro e w' ⟨rfl, hg⟩; obtain ⟨hc, hf, hz⟩ := bcell hg))
  refine wp_loop_rounds 1 ?_
  rw [rounds_succ]
  by_cases hn : 0 < a.xs.length
  all_goals
    go_wp2
    go_ret
    exact ⟨rfl, by (repeat (first | exact Below.refl _ _ | assumption | (refine bl_then ?_ (by assumption)) | (refine bl_alloc ?_ _) | (refine bl_dn ?_ _) | (refine bl_drew ?_)))⟩
theorem ac_1c (a : Arr) (A : Option Addr) (c : Nat) (hl : a.xs.length ≤ 9223372036854775807) (f0 : Fits a.l0) (f1 : Fits a.l1) (h : a.k = 1) (h1 : shCheck a.r a.l0 a.l1 = 0) (h2 : (a.xs.length : Int) = prod a.r a.l0 a.l1) (w : World) (hs : Sl w A a.xs) : Calls Try.prog 29 #[.agg #[.int .i64 a.k, .int .i64 a.r, .int .i64 a.l0, .int .i64 a.l1, .slice A a.xs.length c]] w fun e w' => e = .returned (.int .i64 (if a.xs.any bad1 then 7 else 0)) ∧ Below w.heap.size w w' := by
  have n1 : (a.k != 1) = false := by rw [h]; rfl
  have n3 : (a.k == 2) = false := by rw [h]; rfl
  have g0 := hide f0; have g1 := hide f1
  clear f0 f1
  have e1 := cells_ok_eq h1
  have e2 : ((a.xs.length : Int) != prod a.r a.l0 a.l1) = false := by simpa using h2
  obtain ⟨z, hz0⟩ : ∃ z : Int, (if a.xs.any bad1 then 7 else 0) = z := ⟨_, rfl⟩
  rw [hz0]
  have HZ := hide hz0
  clear h1 h h2 hz0
  go_enter Try.func29, Try.ntmps29
  go_wp2_with ((go_at_call 72; refine (Ref.cells_any _ _ _ g0.out g1.out _).mono ?_; rintro e w' ⟨rfl, hg⟩; obtain ⟨hc, hf, hz⟩ := bcell hg))
  have hs' := hs.below (w' := w') (by (repeat (first | exact Below.refl _ _ | assumption | (refine bl_then ?_ (by assumption)) | (refine bl_alloc ?_ _) | (refine bl_dn ?_ _) | (refine bl_drew ?_))))
  go_loop [4, 5] (fun e i => ∃ k : Nat, k ≤ a.xs.length ∧ i = .int .i64 k ∧ ((e = .int .i64 0 ∧ Hid ((a.xs.take k).any bad1 = false)) ∨ (e = .int .i64 7 ∧ Hid (a.xs.any bad1 = true)))) (fun _ i => a.xs.length - (intOf i).toNat)
  case atStart => exact ⟨0, Nat.zero_le _, rfl, Or.inl ⟨rfl, rfl⟩⟩
  case round =>
    obtain ⟨k, hk, rfl, ⟨rfl, hany⟩ | ⟨rfl, hany⟩⟩ := hrel
    · by_cases hlt : k < a.xs.length
      · obtain ⟨b, o, x, rfl, hb, hcx, hx⟩ := hs'.at_ hlt
        have H := hide (any_step hlt hany.out)
        by_cases hp : bad1 x = true
        · have H0 := hide (any_hit (P := bad1) hlt (by rw [hx.out]; exact hp))
          have H2 : Hid (bad1 (a.xs.getD k 0) = true) := by show _ = _; rw [hx.out]; exact hp
          have H3 : isRune x = false := absurd hp (by unfold bad1; decide)
          clear hp
          go_wp2_with (go_at_call 73; refine (rune64_any _ _).mono ?_; rintro e w' ⟨rfl, rfl⟩)
          exact absurd H2.out (by unfold bad1; decide)
        · have hp' : bad1 x = false := by simpa using hp
          have H2 : Hid (bad1 (a.xs.getD k 0) = false) := by show _ = _; rw [hx.out]; exact hp'
          skip
          clear hp hp'
          go_wp2_with (go_at_call 73; refine (rune64_any _ _).mono ?_; rintro e w' ⟨rfl, rfl⟩)
          go_round
          case rel => exact ⟨k + 1, by omega, by go_num, Or.inl ⟨rfl, H.out.trans H2.out⟩⟩
          case measure => simp [intOf]; omega
      · have HE : Hid (a.xs.any bad1 = false) := by
          have e := hany.out
          rw [List.take_of_length_le (by omega)] at e
          exact e
        go_wp2
        go_ret
        exact ⟨by rw [← HZ.out, HE.out]; rfl, by (repeat (first | exact Below.refl _ _ | assumption | (refine bl_then ?_ (by assumption)) | (refine bl_alloc ?_ _) | (refine bl_dn ?_ _) | (refine bl_drew ?_)))⟩
    · by_cases hlt : k < a.xs.length
      all_goals
        go_wp2
        go_ret
        exact ⟨by rw [← HZ.out, hany.out]; rfl, by (repeat (first | exact Below.refl _ _ | assumption | (refine bl_then ?_ (by assumption)) | (refine bl_alloc ?_ _) | (refine bl_dn ?_ _) | (refine bl_drew ?_)))⟩
theorem ac_2s (a : Arr) (A : Option Addr) (c : Nat) (hl : a.xs.length ≤ 9223372036854775807) (f0 : Fits a.l0) (f1 : Fits a.l1) (h : a.k = 2) (h1 : shCheck a.r a.l0 a.l1 ≠ 0) (w : World) (hs : Sl w A a.xs) : Calls Try.prog 29 #[.agg #[.int .i64 a.k, .int .i64 a.r, .int .i64 a.l0, .int .i64 a.l1, .slice A a.xs.length c]] w fun e w' => e = .returned (.int .i64 (shCheck a.r a.l0 a.l1)) ∧ Below w.heap.size w w' := by
  have n1 : (a.k != 1) = true := by rw [h]; rfl
  have n2 : (a.k != 2) = false := by rw [h]; rfl
  have g0 := hide f0; have g1 := hide f1
  clear f0 f1
  have e1 := cells_bad_eq h1
  have e2 : (shCheck a.r a.l0 a.l1 == 0) = false := by simpa using h1
  clear h1 h
  go_enter Try.func29, Try.ntmps29
  go_wp2_with ((go_at_call 72; refine (Ref.cells_any _ _ _ g0.out g1.out _).mono ?_; rintro e w' ⟨rfl, hg⟩; obtain ⟨hc, hf, hz⟩ := bcell hg))
  refine wp_loop_rounds 1 ?_
  rw [rounds_succ]
  by_cases hn : 0 < a.xs.length
  all_goals
    go_wp2
    go_ret
    exact ⟨rfl, by (repeat (first | exact Below.refl _ _ | assumption | (refine bl_then ?_ (by assumption)) | (refine bl_alloc ?_ _) | (refine bl_dn ?_ _) | (refine bl_drew ?_)))⟩
theorem ac_2n (a : Arr) (A : Option Addr) (c : Nat) (hl : a.xs.length ≤ 9223372036854775807) (f0 : Fits a.l0) (f1 : Fits a.l1) (h : a.k = 2) (h1 : shCheck a.r a.l0 a.l1 = 0) (h2 : (a.xs.length : Int) ≠ prod a.r a.l0 a.l1) (w : World) (hs : Sl w A a.xs) : Calls Try.prog 29 #[.agg #[.int .i64 a.k, .int .i64 a.r, .int .i64 a.l0, .int .i64 a.l1, .slice A a.xs.length c]] w fun e w' => e = .returned (.int .i64 6) ∧ Below w.heap.size w w' := by
  have n1 : (a.k != 1) = true := by rw [h]; rfl
  have n2 : (a.k != 2) = false := by rw [h]; rfl
  have g0 := hide f0; have g1 := hide f1
  clear f0 f1
  have e1 := cells_ok_eq h1
  have e2 : ((a.xs.length : Int) != prod a.r a.l0 a.l1) = true := by simpa using h2
  clear h1 h
  go_enter Try.func29, Try.ntmps29
  go_wp2_with ((go_at_call 72; refine (Ref.cells_any _ _ _ g0.out g1.out _).mono ?_; rintro e w' ⟨rfl, hg⟩; obtain ⟨hc, hf, hz⟩ := bcell hg))
  refine wp_loop_rounds 1 ?_
  rw [rounds_succ]
  by_cases hn : 0 < a.xs.length
  all_goals
    go_wp2
    go_ret
    exact ⟨rfl, by (repeat (first | exact Below.refl _ _ | assumption | (refine bl_then ?_ (by assumption)) | (refine bl_alloc ?_ _) | (refine bl_dn ?_ _) | (refine bl_drew ?_)))⟩
theorem ac_2c (a : Arr) (A : Option Addr) (c : Nat) (hl : a.xs.length ≤ 9223372036854775807) (f0 : Fits a.l0) (f1 : Fits a.l1) (h : a.k = 2) (h1 : shCheck a.r a.l0 a.l1 = 0) (h2 : (a.xs.length : Int) = prod a.r a.l0 a.l1) (w : World) (hs : Sl w A a.xs) : Calls Try.prog 29 #[.agg #[.int .i64 a.k, .int .i64 a.r, .int .i64 a.l0, .int .i64 a.l1, .slice A a.xs.length c]] w fun e w' => e = .returned (.int .i64 (if a.xs.any bad2 then 7 else 0)) ∧ Below w.heap.size w w' := by
  have n1 : (a.k != 1) = true := by rw [h]; rfl
  have n2 : (a.k != 2) = false := by rw [h]; rfl
  have n3 : (a.k == 2) = true := by rw [h]; rfl
  have g0 := hide f0; have g1 := hide f1
  clear f0 f1
  have e1 := cells_ok_eq h1
  have e2 : ((a.xs.length : Int) != prod a.r a.l0 a.l1) = false := by simpa using h2
  obtain ⟨z, hz0⟩ : ∃ z : Int, (if a.xs.any bad2 then 7 else 0) = z := ⟨_, rfl⟩
  rw [hz0]
  have HZ := hide hz0
  clear h1 h h2 hz0
  go_enter Try.func29, Try.ntmps29
  go_wp2_with ((go_at_call 72; refine (Ref.cells_any _ _ _ g0.out g1.out _).mono ?_; rintro e w' ⟨rfl, hg⟩; obtain ⟨hc, hf, hz⟩ := bcell hg))
  have hs' := hs.below (w' := w') (by (repeat (first | exact Below.refl _ _ | assumption | (refine bl_then ?_ (by assumption)) | (refine bl_alloc ?_ _) | (refine bl_dn ?_ _) | (refine bl_drew ?_))))
  go_loop [4, 5] (fun e i => ∃ k : Nat, k ≤ a.xs.length ∧ i = .int .i64 k ∧ ((e = .int .i64 0 ∧ Hid ((a.xs.take k).any bad2 = false)) ∨ (e = .int .i64 7 ∧ Hid (a.xs.any bad2 = true)))) (fun _ i => a.xs.length - (intOf i).toNat)
  case atStart => exact ⟨0, Nat.zero_le _, rfl, Or.inl ⟨rfl, rfl⟩⟩
  case round =>
    obtain ⟨k, hk, rfl, ⟨rfl, hany⟩ | ⟨rfl, hany⟩⟩ := hrel
    · by_cases hlt : k < a.xs.length
      · obtain ⟨b, o, x, rfl, hb, hcx, hx⟩ := hs'.at_ hlt
        have H := hide (any_step hlt hany.out)
        by_cases hp : bad2 x = true
        · have H0 := hide (any_hit (P := bad2) hlt (by rw [hx.out]; exact hp))
          have H2 : Hid (bad2 (a.xs.getD k 0) = true) := by show _ = _; rw [hx.out]; exact hp
          have H3 : isRune x = false := by unfold bad2 at hp; simpa using hp
          clear hp
          go_wp2_with (go_at_call 73; refine (rune64_any _ _).mono ?_; rintro e w' ⟨rfl, rfl⟩)
          go_round
          case rel => exact ⟨k + 1, by omega, by go_num, Or.inr ⟨rfl, H0⟩⟩
          case measure => simp [intOf]; omega
        · have hp' : bad2 x = false := by simpa using hp
          have H2 : Hid (bad2 (a.xs.getD k 0) = false) := by show _ = _; rw [hx.out]; exact hp'
          have H3 : isRune x = true := by unfold bad2 at hp; simpa using hp
          clear hp hp'
          go_wp2_with (go_at_call 73; refine (rune64_any _ _).mono ?_; rintro e w' ⟨rfl, rfl⟩)
          go_round
          case rel => exact ⟨k + 1, by omega, by go_num, Or.inl ⟨rfl, H.out.trans H2.out⟩⟩
          case measure => simp [intOf]; omega
      · have HE : Hid (a.xs.any bad2 = false) := by
          have e := hany.out
          rw [List.take_of_length_le (by omega)] at e
          exact e
        go_wp2
        go_ret
        exact ⟨by rw [← HZ.out, HE.out]; rfl, by (repeat (first | exact Below.refl _ _ | assumption | (refine bl_then ?_ (by assumption)) | (refine bl_alloc ?_ _) | (refine bl_dn ?_ _) | (refine bl_drew ?_)))⟩
    · by_cases hlt : k < a.xs.length
      all_goals
        go_wp2
        go_ret
        exact ⟨by rw [← HZ.out, hany.out]; rfl, by (repeat (first | exact Below.refl _ _ | assumption | (refine bl_then ?_ (by assumption)) | (refine bl_alloc ?_ _) | (refine bl_dn ?_ _) | (refine bl_drew ?_)))⟩
/-- what Check says of an array, of the reference -/
theorem ac_any (a : Arr) (A : Option Addr) (c : Nat) (hl : a.xs.length ≤ 9223372036854775807) (f0 : Fits a.l0) (f1 : Fits a.l1) (w : World) (hs : Sl w A a.xs) : Calls Try.prog 29 #[.agg #[.int .i64 a.k, .int .i64 a.r, .int .i64 a.l0, .int .i64 a.l1, .slice A a.xs.length c]] w fun e w' => e = .returned (.int .i64 (chk a)) ∧ Below w.heap.size w w' := by
  by_cases k1 : a.k = 1
  · by_cases h1 : shCheck a.r a.l0 a.l1 = 0
    · by_cases h2 : (a.xs.length : Int) = prod a.r a.l0 a.l1
      · have := ac_1c a A c hl f0 f1 k1 h1 h2 w hs
        rw [show a.xs.any bad1 = false from by induction a.xs <;> simp_all [bad1]] at this
        rw [chk_1 k1 h1 h2]; exact this
      · rw [chk_bad_n (Or.inl k1) h1 h2]; exact ac_1n a A c hl f0 f1 k1 h1 h2 w hs
    · rw [chk_bad_s (Or.inl k1) h1]; exact ac_1s a A c hl f0 f1 k1 h1 w hs
  · by_cases k2 : a.k = 2
    · by_cases h1 : shCheck a.r a.l0 a.l1 = 0
      · by_cases h2 : (a.xs.length : Int) = prod a.r a.l0 a.l1
        · have := ac_2c a A c hl f0 f1 k2 h1 h2 w hs
          cases hb : a.xs.any bad2
          · rw [chk_2f k2 h1 h2 hb]; rw [hb] at this; exact this
          · rw [chk_2t k2 h1 h2 hb]; rw [hb] at this; exact this
        · rw [chk_bad_n (Or.inr k2) h1 h2]; exact ac_2n a A c hl f0 f1 k2 h1 h2 w hs
      · rw [chk_bad_s (Or.inr k2) h1]; exact ac_2s a A c hl f0 f1 k2 h1 w hs
    · rw [chk_bad_k k1 k2]; exact ac_k a A c hl f0 f1 k1 k2 w hs
end Ref
end Ar
end Go.Proofs.Ytfpnafeildigaaa
