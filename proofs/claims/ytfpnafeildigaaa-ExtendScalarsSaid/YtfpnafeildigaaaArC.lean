/-
What is wrong with an array: contracts of Check, of the program and of the reference (chapter 6).
-/
import Derived.Test.YtfpnafeildigaaaArB
set_option linter.unusedSimpArgs false
set_option linter.unusedVariables false
namespace Go.Proofs.Ytfpnafeildigaaa
namespace Ar
open Go.RowKit Sc

theorem valid_rune (c : Int) (h0 : 0 ≤ c) (h1 : c ≤ 1114111) (w : World) : Calls Try.prog 139 #[.int .i32 c] w fun e w' => e = .returned (.bool (isRune c)) ∧ w = w' := by
  by_cases a : c < 55296
  · have H : Hid (isRune c = true) := by show _ = _; unfold isRune; simp; omega
    go_enter Try.func139, Try.ntmps139
    go_wp2
    go_ret
    exact ⟨by rw [H.out]; rfl, rfl⟩
  · by_cases b : 57343 < c
    · have H : Hid (isRune c = true) := by show _ = _; unfold isRune; simp; omega
      go_enter Try.func139, Try.ntmps139
      go_wp2
      go_ret
      exact ⟨by rw [H.out]; rfl, rfl⟩
    · have H : Hid (isRune c = false) := by show _ = _; unfold isRune; simp; omega
      go_enter Try.func139, Try.ntmps139
      go_wp2
      go_ret
      exact ⟨by rw [H.out]; rfl, rfl⟩
theorem right_1 (c : Int) (w : World) : Calls Try.prog 99 #[.int .i64 1, .int .i64 c] w fun e w' => e = .returned (.bool true) ∧ w = w' := by
  go_enter Try.func99, Try.ntmps99
  go_wp2
  go_ret
  exact ⟨rfl, rfl⟩
theorem right_2 (c : Int) (w : World) : Calls Try.prog 99 #[.int .i64 2, .int .i64 c] w fun e w' => e = .returned (.bool (isRune c)) ∧ w = w' := by
  by_cases a : c < 0
  · have H : Hid (isRune c = false) := by show _ = _; unfold isRune; simp; omega
    go_enter Try.func99, Try.ntmps99
    go_wp2
    go_ret
    exact ⟨by rw [H.out]; rfl, rfl⟩
  · by_cases b : 1114111 < c
    · have H : Hid (isRune c = false) := by show _ = _; unfold isRune; simp; omega
      go_enter Try.func99, Try.ntmps99
      go_wp2
      go_ret
      exact ⟨by rw [H.out]; rfl, rfl⟩
    · have h0 : 0 ≤ c := by omega
      have h1 : c ≤ 1114111 := by omega
      go_enter Try.func99, Try.ntmps99
      go_wp2_with (go_at_call 139; refine (valid_rune c h0 h1 _).mono ?_; rintro e w' ⟨rfl, rfl⟩)
      go_ret
      exact ⟨rfl, rfl⟩
theorem rune64_any (c : Int) (w : World) : Calls Try.prog 73 #[.int .i64 c] w fun e w' => e = .returned (.bool (isRune c)) ∧ w = w' := by
  by_cases a : c < 0
  · have H : Hid (isRune c = false) := by show _ = _; unfold isRune; simp; omega
    go_enter Try.func73, Try.ntmps73
    go_wp2
    go_ret
    exact ⟨by rw [H.out]; rfl, rfl⟩
  · by_cases b : 1114111 < c
    · have H : Hid (isRune c = false) := by show _ = _; unfold isRune; simp; omega
      go_enter Try.func73, Try.ntmps73
      go_wp2
      go_ret
      exact ⟨by rw [H.out]; rfl, rfl⟩
    · by_cases d : c < 55296
      · have H : Hid (isRune c = true) := by show _ = _; unfold isRune; simp; omega
        go_enter Try.func73, Try.ntmps73
        go_wp2
        go_ret
        exact ⟨by rw [H.out]; rfl, rfl⟩
      · by_cases d' : 57343 < c
        · have H : Hid (isRune c = true) := by show _ = _; unfold isRune; simp; omega
          go_enter Try.func73, Try.ntmps73
          go_wp2
          go_ret
          exact ⟨by rw [H.out]; rfl, rfl⟩
        · have H : Hid (isRune c = false) := by show _ = _; unfold isRune; simp; omega
          go_enter Try.func73, Try.ntmps73
          go_wp2
          go_ret
          exact ⟨by rw [H.out]; rfl, rfl⟩
def bad1 (_ : Int) : Bool := false
def bad2 (c : Int) : Bool := !isRune c
theorem clo_1 (c : Int) (B : Nat) (w : World) (hk : w.cell? ⟨B, 0, none⟩ = some (.int .i64 1)) : Calls Try.prog 98 #[.int .i64 c, .pointer (some ⟨B, 0, none⟩)] w fun e w' => e = .returned (.bool (bad1 c)) ∧ w = w' := by
  go_enter Try.func98, Try.ntmps98
  go_wp2_with (go_at_call 99; refine (right_1 c _).mono ?_; rintro e w' ⟨rfl, rfl⟩)
  go_ret
  exact ⟨rfl, rfl⟩
theorem index_bad1 (A : Option Addr) (c : Nat) (xs : List Int) (B : Nat) (w : World) (hl : xs.length ≤ 9223372036854775807) (hs : Sl w A xs) (hk : w.cell? ⟨B, 0, none⟩ = some (.int .i64 1)) :
    Calls Try.prog 138 #[.slice A xs.length c, .func (.func 98) #[] #[.pointer (some ⟨B, 0, none⟩)]] w fun e w' => ∃ i : Int, e = .returned (.int .i64 i) ∧ Hid (decide (0 ≤ i) = xs.any bad1) ∧ w = w' := by
  have HK := hide hk
  clear hk
  go_enter Try.func138, Try.ntmps138
  go_wp2
  go_loop [5, 8] (fun _ i => ∃ k : Nat, k ≤ xs.length ∧ i = .int .i64 k ∧ Hid ((xs.take k).any bad1 = false)) (fun _ i => xs.length - (intOf i).toNat)
  case atStart => exact ⟨0, Nat.zero_le _, rfl, rfl⟩
  case round =>
    obtain ⟨k, hk, rfl, hany⟩ := hrel
    by_cases hlt : k < xs.length
    · obtain ⟨b, o, x, rfl, hb, hc, hx⟩ := hs.at_ hlt
      by_cases hp : bad1 x = true
      · have H := hide (any_hit (P := bad1) hlt (by rw [hx.out]; exact hp))
        go_wp2_with (go_at_call 98; refine (clo_1 _ _ _ HK.out).mono ?_; rintro e w' ⟨rfl, rfl⟩)
        go_ret
        exact ⟨_, rfl, (show _ = _ from by rw [H.out]; simp), rfl⟩
      · have hp' : bad1 x = false := by simpa using hp
        have H := hide (any_step hlt hany.out)
        have H2 : Hid (bad1 (xs.getD k 0) = false) := by show _ = _; rw [hx.out]; exact hp'
        clear hp
        go_wp2_with (go_at_call 98; refine (clo_1 _ _ _ HK.out).mono ?_; rintro e w' ⟨rfl, rfl⟩)
        go_round
        case rel => exact ⟨k + 1, by omega, by go_num, H.out.trans H2.out⟩
        case measure => simp [intOf]; omega
    · go_wp2
      go_ret
      refine ⟨_, rfl, ?_, rfl⟩
      have e := hany.out
      rw [List.take_of_length_le (by omega)] at e
      show _ = _
      rw [e]; rfl
theorem contains_bad1 (A : Option Addr) (c : Nat) (xs : List Int) (B : Nat) (w : World) (hl : xs.length ≤ 9223372036854775807) (hs : Sl w A xs) (hk : w.cell? ⟨B, 0, none⟩ = some (.int .i64 1)) :
    Calls Try.prog 97 #[.slice A xs.length c, .func (.func 98) #[] #[.pointer (some ⟨B, 0, none⟩)]] w fun e w' => e = .returned (.bool (xs.any bad1)) ∧ w = w' := by
  have HK := hide hk
  clear hk
  go_enter Try.func97, Try.ntmps97
  go_wp2_with (go_at_call 138; refine (index_bad1 A c xs B _ hl hs HK.out).mono ?_; rintro e w' ⟨i, rfl, hi, rfl⟩)
  go_ret
  exact ⟨by rw [← hi.out]; rfl, rfl⟩
theorem clo_2 (c : Int) (B : Nat) (w : World) (hk : w.cell? ⟨B, 0, none⟩ = some (.int .i64 2)) : Calls Try.prog 98 #[.int .i64 c, .pointer (some ⟨B, 0, none⟩)] w fun e w' => e = .returned (.bool (bad2 c)) ∧ w = w' := by
  go_enter Try.func98, Try.ntmps98
  go_wp2_with (go_at_call 99; refine (right_2 c _).mono ?_; rintro e w' ⟨rfl, rfl⟩)
  go_ret
  exact ⟨rfl, rfl⟩
theorem index_bad2 (A : Option Addr) (c : Nat) (xs : List Int) (B : Nat) (w : World) (hl : xs.length ≤ 9223372036854775807) (hs : Sl w A xs) (hk : w.cell? ⟨B, 0, none⟩ = some (.int .i64 2)) :
    Calls Try.prog 138 #[.slice A xs.length c, .func (.func 98) #[] #[.pointer (some ⟨B, 0, none⟩)]] w fun e w' => ∃ i : Int, e = .returned (.int .i64 i) ∧ Hid (decide (0 ≤ i) = xs.any bad2) ∧ w = w' := by
  have HK := hide hk
  clear hk
  go_enter Try.func138, Try.ntmps138
  go_wp2
  go_loop [5, 8] (fun _ i => ∃ k : Nat, k ≤ xs.length ∧ i = .int .i64 k ∧ Hid ((xs.take k).any bad2 = false)) (fun _ i => xs.length - (intOf i).toNat)
  case atStart => exact ⟨0, Nat.zero_le _, rfl, rfl⟩
  case round =>
    obtain ⟨k, hk, rfl, hany⟩ := hrel
    by_cases hlt : k < xs.length
    · obtain ⟨b, o, x, rfl, hb, hc, hx⟩ := hs.at_ hlt
      by_cases hp : bad2 x = true
      · have H := hide (any_hit (P := bad2) hlt (by rw [hx.out]; exact hp))
        go_wp2_with (go_at_call 98; refine (clo_2 _ _ _ HK.out).mono ?_; rintro e w' ⟨rfl, rfl⟩)
        go_ret
        exact ⟨_, rfl, (show _ = _ from by rw [H.out]; simp), rfl⟩
      · have hp' : bad2 x = false := by simpa using hp
        have H := hide (any_step hlt hany.out)
        have H2 : Hid (bad2 (xs.getD k 0) = false) := by show _ = _; rw [hx.out]; exact hp'
        clear hp
        go_wp2_with (go_at_call 98; refine (clo_2 _ _ _ HK.out).mono ?_; rintro e w' ⟨rfl, rfl⟩)
        go_round
        case rel => exact ⟨k + 1, by omega, by go_num, H.out.trans H2.out⟩
        case measure => simp [intOf]; omega
    · go_wp2
      go_ret
      refine ⟨_, rfl, ?_, rfl⟩
      have e := hany.out
      rw [List.take_of_length_le (by omega)] at e
      show _ = _
      rw [e]; rfl
theorem contains_bad2 (A : Option Addr) (c : Nat) (xs : List Int) (B : Nat) (w : World) (hl : xs.length ≤ 9223372036854775807) (hs : Sl w A xs) (hk : w.cell? ⟨B, 0, none⟩ = some (.int .i64 2)) :
    Calls Try.prog 97 #[.slice A xs.length c, .func (.func 98) #[] #[.pointer (some ⟨B, 0, none⟩)]] w fun e w' => e = .returned (.bool (xs.any bad2)) ∧ w = w' := by
  have HK := hide hk
  clear hk
  go_enter Try.func97, Try.ntmps97
  go_wp2_with (go_at_call 138; refine (index_bad2 A c xs B _ hl hs HK.out).mono ?_; rintro e w' ⟨i, rfl, hi, rfl⟩)
  go_ret
  exact ⟨by rw [← hi.out]; rfl, rfl⟩

theorem chk_bad_k {a : Arr} (h1 : a.k ≠ 1) (h2 : a.k ≠ 2) : chk a = 2 := by unfold chk; rw [if_pos ⟨h1, h2⟩]
theorem chk_bad_s {a : Arr} (h : a.k = 1 ∨ a.k = 2) (hs : shCheck a.r a.l0 a.l1 ≠ 0) : chk a = shCheck a.r a.l0 a.l1 := by unfold chk; rw [if_neg (by omega), if_pos hs]
theorem chk_bad_n {a : Arr} (h : a.k = 1 ∨ a.k = 2) (hs : shCheck a.r a.l0 a.l1 = 0) (hn : (a.xs.length : Int) ≠ prod a.r a.l0 a.l1) : chk a = 6 := by
  unfold chk; rw [if_neg (by omega), if_neg (by simpa using hs), if_pos hn]
theorem chk_1 {a : Arr} (h : a.k = 1) (hs : shCheck a.r a.l0 a.l1 = 0) (hn : (a.xs.length : Int) = prod a.r a.l0 a.l1) : chk a = 0 := by
  unfold chk; rw [if_neg (by omega), if_neg (by simpa using hs), if_neg (by simpa using hn), if_neg (by omega)]
theorem chk_2t {a : Arr} (h : a.k = 2) (hs : shCheck a.r a.l0 a.l1 = 0) (hn : (a.xs.length : Int) = prod a.r a.l0 a.l1) (hb : a.xs.any bad2 = true) : chk a = 7 := by
  unfold chk; rw [if_neg (by omega), if_neg (by simpa using hs), if_neg (by simpa using hn), if_pos ⟨h, hb⟩]
theorem chk_2f {a : Arr} (h : a.k = 2) (hs : shCheck a.r a.l0 a.l1 = 0) (hn : (a.xs.length : Int) = prod a.r a.l0 a.l1) (hb : a.xs.any bad2 = false) : chk a = 0 := by
  unfold chk; rw [if_neg (by omega), if_neg (by simpa using hs), if_neg (by simpa using hn), if_neg (fun hh => absurd (hh.2.symm.trans hb) (by decide))]
theorem cells_bad_eq {a : Arr} (hs : shCheck a.r a.l0 a.l1 ≠ 0) : cellsOf a.r a.l0 a.l1 = (0, shCheck a.r a.l0 a.l1) := if_pos hs
theorem cells_ok_eq {a : Arr} (hs : shCheck a.r a.l0 a.l1 = 0) : cellsOf a.r a.l0 a.l1 = (prod a.r a.l0 a.l1, 0) := if_neg (by simpa using hs)
theorem ac_k (a : Arr) (A : Option Addr) (c : Nat) (hl : a.xs.length ≤ 9223372036854775807) (f0 : Fits a.l0) (f1 : Fits a.l1) (h1 : a.k ≠ 1) (h2 : a.k ≠ 2) (w : World) (hs : Sl w A a.xs) : Calls Try.prog 59 #[.agg #[.int .i64 a.k, .int .i64 a.r, .int .i64 a.l0, .int .i64 a.l1, .slice A a.xs.length c]] w fun e w' => e = .returned (.int .i64 2) ∧ Below w.heap.size w w' := by
  have n1 : (a.k != 1) = true := by simpa using h1
  have n2 : (a.k != 2) = true := by simpa using h2
  go_enter Try.func59, Try.ntmps59
  go_wp2
  go_ret
  exact ⟨rfl, by (repeat (first | exact Below.refl _ _ | assumption | (refine bl_then ?_ (by assumption)) | (refine bl_alloc ?_ _) | (refine bl_dn ?_ _) | (refine bl_drew ?_)))⟩
theorem ac_1s (a : Arr) (A : Option Addr) (c : Nat) (hl : a.xs.length ≤ 9223372036854775807) (f0 : Fits a.l0) (f1 : Fits a.l1) (h : a.k = 1) (h1 : shCheck a.r a.l0 a.l1 ≠ 0) (w : World) (hs : Sl w A a.xs) : Calls Try.prog 59 #[.agg #[.int .i64 a.k, .int .i64 a.r, .int .i64 a.l0, .int .i64 a.l1, .slice A a.xs.length c]] w fun e w' => e = .returned (.int .i64 (shCheck a.r a.l0 a.l1)) ∧ Below w.heap.size w w' := by
  have n1 : (a.k != 1) = false := by rw [h]; rfl
  have g0 := hide f0; have g1 := hide f1
  clear f0 f1
  have e1 := cells_bad_eq h1
  have e2 : (shCheck a.r a.l0 a.l1 != 0) = true := by simpa using h1
  clear h1 h
  go_enter Try.func59, Try.ntmps59
  go_wp2_with ((go_at_call 96; refine (cells_any _ _ _ g0.out g1.out _).mono ?_; rintro e w' ⟨rfl, hg⟩; obtain ⟨hc, hf, hz⟩ := bcell hg))
  go_ret
  exact ⟨rfl, by (repeat (first | exact Below.refl _ _ | assumption | (refine bl_then ?_ (by assumption)) | (refine bl_alloc ?_ _) | (refine bl_dn ?_ _) | (refine bl_drew ?_)))⟩
theorem ac_1n (a : Arr) (A : Option Addr) (c : Nat) (hl : a.xs.length ≤ 9223372036854775807) (f0 : Fits a.l0) (f1 : Fits a.l1) (h : a.k = 1) (h1 : shCheck a.r a.l0 a.l1 = 0) (h2 : (a.xs.length : Int) ≠ prod a.r a.l0 a.l1) (w : World) (hs : Sl w A a.xs) : Calls Try.prog 59 #[.agg #[.int .i64 a.k, .int .i64 a.r, .int .i64 a.l0, .int .i64 a.l1, .slice A a.xs.length c]] w fun e w' => e = .returned (.int .i64 6) ∧ Below w.heap.size w w' := by
  have n1 : (a.k != 1) = false := by rw [h]; rfl
  have g0 := hide f0; have g1 := hide f1
  clear f0 f1
  have e1 := cells_ok_eq h1
  have e2 : ((a.xs.length : Int) != prod a.r a.l0 a.l1) = true := by simpa using h2
  clear h1 h
  go_enter Try.func59, Try.ntmps59
  go_wp2_with ((go_at_call 96; refine (cells_any _ _ _ g0.out g1.out _).mono ?_; rintro e w' ⟨rfl, hg⟩; obtain ⟨hc, hf, hz⟩ := bcell hg))
  go_ret
  exact ⟨rfl, by (repeat (first | exact Below.refl _ _ | assumption | (refine bl_then ?_ (by assumption)) | (refine bl_alloc ?_ _) | (refine bl_dn ?_ _) | (refine bl_drew ?_)))⟩
theorem ac_1c (a : Arr) (A : Option Addr) (c : Nat) (hl : a.xs.length ≤ 9223372036854775807) (f0 : Fits a.l0) (f1 : Fits a.l1) (h : a.k = 1) (h1 : shCheck a.r a.l0 a.l1 = 0) (h2 : (a.xs.length : Int) = prod a.r a.l0 a.l1) (b : Bool) (hb : a.xs.any bad1 = b) (w : World) (hs : Sl w A a.xs) : Calls Try.prog 59 #[.agg #[.int .i64 a.k, .int .i64 a.r, .int .i64 a.l0, .int .i64 a.l1, .slice A a.xs.length c]] w fun e w' => e = .returned (.int .i64 (if b then 7 else 0)) ∧ Below w.heap.size w w' := by
  have n1 : (a.k != 1) = false := by rw [h]; rfl
  have g0 := hide f0; have g1 := hide f1
  clear f0 f1
  have hmf : ∀ (fn : Fn) (first cap : Array Value) (w : World), (Instr.makeFunc fn first cap).run Try.prog w = .ok (.func fn first cap) w := fun _ _ _ _ => rfl
  have e1 := cells_ok_eq h1
  have e2 : ((a.xs.length : Int) != prod a.r a.l0 a.l1) = false := by simpa using h2
  have HB := hide hb
  have HH := hide h
  clear h1 h h2 hb
  cases b
  all_goals
    go_enter Try.func59, Try.ntmps59
    go_wp2_with (first | (go_at_call 96; refine (cells_any _ _ _ g0.out g1.out _).mono ?_; rintro e w' ⟨rfl, hg⟩; obtain ⟨hc, hf, hz⟩ := bcell hg) | (go_at_call 97; refine (contains_bad1 A c a.xs _ _ hl (hs.below (by (repeat (first | exact Below.refl _ _ | assumption | (refine bl_then ?_ (by assumption)) | (refine bl_alloc ?_ _) | (refine bl_dn ?_ _) | (refine bl_drew ?_))))) (by rw [hc _ _ (by simp), World.cell?_alloc_at (hn := rfl), ← HH.out]; rfl)).mono ?_; rw [HB.out]; rintro e w' ⟨rfl, rfl⟩))
    go_ret
    exact ⟨rfl, by (repeat (first | exact Below.refl _ _ | assumption | (refine bl_then ?_ (by assumption)) | (refine bl_alloc ?_ _) | (refine bl_dn ?_ _) | (refine bl_drew ?_)))⟩
theorem ac_2s (a : Arr) (A : Option Addr) (c : Nat) (hl : a.xs.length ≤ 9223372036854775807) (f0 : Fits a.l0) (f1 : Fits a.l1) (h : a.k = 2) (h1 : shCheck a.r a.l0 a.l1 ≠ 0) (w : World) (hs : Sl w A a.xs) : Calls Try.prog 59 #[.agg #[.int .i64 a.k, .int .i64 a.r, .int .i64 a.l0, .int .i64 a.l1, .slice A a.xs.length c]] w fun e w' => e = .returned (.int .i64 (shCheck a.r a.l0 a.l1)) ∧ Below w.heap.size w w' := by
  have n1 : (a.k != 1) = true := by rw [h]; rfl
  have n2 : (a.k != 2) = false := by rw [h]; rfl
  have g0 := hide f0; have g1 := hide f1
  clear f0 f1
  have e1 := cells_bad_eq h1
  have e2 : (shCheck a.r a.l0 a.l1 != 0) = true := by simpa using h1
  clear h1 h
  go_enter Try.func59, Try.ntmps59
  go_wp2_with ((go_at_call 96; refine (cells_any _ _ _ g0.out g1.out _).mono ?_; rintro e w' ⟨rfl, hg⟩; obtain ⟨hc, hf, hz⟩ := bcell hg))
  go_ret
  exact ⟨rfl, by (repeat (first | exact Below.refl _ _ | assumption | (refine bl_then ?_ (by assumption)) | (refine bl_alloc ?_ _) | (refine bl_dn ?_ _) | (refine bl_drew ?_)))⟩
theorem ac_2n (a : Arr) (A : Option Addr) (c : Nat) (hl : a.xs.length ≤ 9223372036854775807) (f0 : Fits a.l0) (f1 : Fits a.l1) (h : a.k = 2) (h1 : shCheck a.r a.l0 a.l1 = 0) (h2 : (a.xs.length : Int) ≠ prod a.r a.l0 a.l1) (w : World) (hs : Sl w A a.xs) : Calls Try.prog 59 #[.agg #[.int .i64 a.k, .int .i64 a.r, .int .i64 a.l0, .int .i64 a.l1, .slice A a.xs.length c]] w fun e w' => e = .returned (.int .i64 6) ∧ Below w.heap.size w w' := by
  have n1 : (a.k != 1) = true := by rw [h]; rfl
  have n2 : (a.k != 2) = false := by rw [h]; rfl
  have g0 := hide f0; have g1 := hide f1
  clear f0 f1
  have e1 := cells_ok_eq h1
  have e2 : ((a.xs.length : Int) != prod a.r a.l0 a.l1) = true := by simpa using h2
  clear h1 h
  go_enter Try.func59, Try.ntmps59
  go_wp2_with ((go_at_call 96; refine (cells_any _ _ _ g0.out g1.out _).mono ?_; rintro e w' ⟨rfl, hg⟩; obtain ⟨hc, hf, hz⟩ := bcell hg))
  go_ret
  exact ⟨rfl, by (repeat (first | exact Below.refl _ _ | assumption | (refine bl_then ?_ (by assumption)) | (refine bl_alloc ?_ _) | (refine bl_dn ?_ _) | (refine bl_drew ?_)))⟩
theorem ac_2c (a : Arr) (A : Option Addr) (c : Nat) (hl : a.xs.length ≤ 9223372036854775807) (f0 : Fits a.l0) (f1 : Fits a.l1) (h : a.k = 2) (h1 : shCheck a.r a.l0 a.l1 = 0) (h2 : (a.xs.length : Int) = prod a.r a.l0 a.l1) (b : Bool) (hb : a.xs.any bad2 = b) (w : World) (hs : Sl w A a.xs) : Calls Try.prog 59 #[.agg #[.int .i64 a.k, .int .i64 a.r, .int .i64 a.l0, .int .i64 a.l1, .slice A a.xs.length c]] w fun e w' => e = .returned (.int .i64 (if b then 7 else 0)) ∧ Below w.heap.size w w' := by
  have n1 : (a.k != 1) = true := by rw [h]; rfl
  have n2 : (a.k != 2) = false := by rw [h]; rfl
  have g0 := hide f0; have g1 := hide f1
  clear f0 f1
  have hmf : ∀ (fn : Fn) (first cap : Array Value) (w : World), (Instr.makeFunc fn first cap).run Try.prog w = .ok (.func fn first cap) w := fun _ _ _ _ => rfl
  have e1 := cells_ok_eq h1
  have e2 : ((a.xs.length : Int) != prod a.r a.l0 a.l1) = false := by simpa using h2
  have HB := hide hb
  have HH := hide h
  clear h1 h h2 hb
  cases b
  all_goals
    go_enter Try.func59, Try.ntmps59
    go_wp2_with (first | (go_at_call 96; refine (cells_any _ _ _ g0.out g1.out _).mono ?_; rintro e w' ⟨rfl, hg⟩; obtain ⟨hc, hf, hz⟩ := bcell hg) | (go_at_call 97; refine (contains_bad2 A c a.xs _ _ hl (hs.below (by (repeat (first | exact Below.refl _ _ | assumption | (refine bl_then ?_ (by assumption)) | (refine bl_alloc ?_ _) | (refine bl_dn ?_ _) | (refine bl_drew ?_))))) (by rw [hc _ _ (by simp), World.cell?_alloc_at (hn := rfl), ← HH.out]; rfl)).mono ?_; rw [HB.out]; rintro e w' ⟨rfl, rfl⟩))
    go_ret
    exact ⟨rfl, by (repeat (first | exact Below.refl _ _ | assumption | (refine bl_then ?_ (by assumption)) | (refine bl_alloc ?_ _) | (refine bl_dn ?_ _) | (refine bl_drew ?_)))⟩
/-- what Check says of an array, of the program -/
theorem ac_any (a : Arr) (A : Option Addr) (c : Nat) (hl : a.xs.length ≤ 9223372036854775807) (f0 : Fits a.l0) (f1 : Fits a.l1) (w : World) (hs : Sl w A a.xs) : Calls Try.prog 59 #[.agg #[.int .i64 a.k, .int .i64 a.r, .int .i64 a.l0, .int .i64 a.l1, .slice A a.xs.length c]] w fun e w' => e = .returned (.int .i64 (chk a)) ∧ Below w.heap.size w w' := by
  by_cases k1 : a.k = 1
  · by_cases h1 : shCheck a.r a.l0 a.l1 = 0
    · by_cases h2 : (a.xs.length : Int) = prod a.r a.l0 a.l1
      · rw [chk_1 k1 h1 h2]; exact ac_1c a A c hl f0 f1 k1 h1 h2 false (by induction a.xs <;> simp_all [bad1]) w hs
      · rw [chk_bad_n (Or.inl k1) h1 h2]; exact ac_1n a A c hl f0 f1 k1 h1 h2 w hs
    · rw [chk_bad_s (Or.inl k1) h1]; exact ac_1s a A c hl f0 f1 k1 h1 w hs
  · by_cases k2 : a.k = 2
    · by_cases h1 : shCheck a.r a.l0 a.l1 = 0
      · by_cases h2 : (a.xs.length : Int) = prod a.r a.l0 a.l1
        · cases hb : a.xs.any bad2
          · rw [chk_2f k2 h1 h2 hb]; exact ac_2c a A c hl f0 f1 k2 h1 h2 false hb w hs
          · rw [chk_2t k2 h1 h2 hb]; exact ac_2c a A c hl f0 f1 k2 h1 h2 true hb w hs
        · rw [chk_bad_n (Or.inr k2) h1 h2]; exact ac_2n a A c hl f0 f1 k2 h1 h2 w hs
      · rw [chk_bad_s (Or.inr k2) h1]; exact ac_2s a A c hl f0 f1 k2 h1 w hs
    · rw [chk_bad_k k1 k2]; exact ac_k a A c hl f0 f1 k1 k2 w hs
end Ar
end Go.Proofs.Ytfpnafeildigaaa
