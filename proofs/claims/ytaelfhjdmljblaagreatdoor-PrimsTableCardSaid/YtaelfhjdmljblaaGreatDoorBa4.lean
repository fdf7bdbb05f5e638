/-
What is wrong with an array: contracts of Check, of the program and of the reference (chapter 6).
-/
import Derived.Test.YtaelfhjdmljblaaGreatDoorBa3
import Derived.Recover
import Derived.Defers
import Derived.RegionTactic
import Derived.BigRegion
set_option linter.unusedSimpArgs false
set_option linter.unusedVariables false
namespace Go.Proofs.YtaelfhjdmljblaaGreatDoor
namespace Ar
open Go.RowKit Sc
theorem valid_rune (c : Int) (h0 : 0 ≤ c) (h1 : c ≤ 1114111) (w : World) : Calls Tryz.prog 114 #[.int .i32 c] w fun e w' => e = .returned (.bool (isRune c)) ∧ w = w' := by
  by_cases a : c < 55296
  · have H : Hid (isRune c = true) := by show _ = _; unfold isRune; simp; omega
    go_enter Tryz.func114, Tryz.ntmps114
    go_wp2
    go_ret
    exact ⟨by rw [H.out]; rfl, rfl⟩
  · by_cases b : 57343 < c
    · have H : Hid (isRune c = true) := by show _ = _; unfold isRune; simp; omega
      go_enter Tryz.func114, Tryz.ntmps114
      go_wp2
      go_ret
      exact ⟨by rw [H.out]; rfl, rfl⟩
    · have H : Hid (isRune c = false) := by show _ = _; unfold isRune; simp; omega
      go_enter Tryz.func114, Tryz.ntmps114
      go_wp2
      go_ret
      exact ⟨by rw [H.out]; rfl, rfl⟩
theorem right_1 (c : Int) (w : World) : Calls Tryz.prog 55 #[.int .i64 1, .int .i64 c] w fun e w' => e = .returned (.bool true) ∧ w = w' := by
  go_enter Tryz.func55, Tryz.ntmps55
  go_wp2
  go_ret
  exact ⟨rfl, rfl⟩
theorem right_2 (c : Int) (w : World) : Calls Tryz.prog 55 #[.int .i64 2, .int .i64 c] w fun e w' => e = .returned (.bool (isRune c)) ∧ w = w' := by
  by_cases a : c < 0
  · have H : Hid (isRune c = false) := by show _ = _; unfold isRune; simp; omega
    go_enter Tryz.func55, Tryz.ntmps55
    go_wp2
    go_ret
    exact ⟨by rw [H.out]; rfl, rfl⟩
  · by_cases b : 1114111 < c
    · have H : Hid (isRune c = false) := by show _ = _; unfold isRune; simp; omega
      go_enter Tryz.func55, Tryz.ntmps55
      go_wp2
      go_ret
      exact ⟨by rw [H.out]; rfl, rfl⟩
    · have h0 : 0 ≤ c := by omega
      have h1 : c ≤ 1114111 := by omega
      go_enter Tryz.func55, Tryz.ntmps55
      go_wp2_with (go_at_call 114; refine (valid_rune c h0 h1 _).mono ?_; rintro e w' ⟨rfl, rfl⟩)
      go_ret
      exact ⟨rfl, rfl⟩
theorem rune64_any (c : Int) (w : World) : Calls Tryz.prog 44 #[.int .i64 c] w fun e w' => e = .returned (.bool (isRune c)) ∧ w = w' := by
  by_cases a : c < 0
  · have H : Hid (isRune c = false) := by show _ = _; unfold isRune; simp; omega
    go_enter Tryz.func44, Tryz.ntmps44
    go_wp2
    go_ret
    exact ⟨by rw [H.out]; rfl, rfl⟩
  · by_cases b : 1114111 < c
    · have H : Hid (isRune c = false) := by show _ = _; unfold isRune; simp; omega
      go_enter Tryz.func44, Tryz.ntmps44
      go_wp2
      go_ret
      exact ⟨by rw [H.out]; rfl, rfl⟩
    · by_cases d : c < 55296
      · have H : Hid (isRune c = true) := by show _ = _; unfold isRune; simp; omega
        go_enter Tryz.func44, Tryz.ntmps44
        go_wp2
        go_ret
        exact ⟨by rw [H.out]; rfl, rfl⟩
      · by_cases d' : 57343 < c
        · have H : Hid (isRune c = true) := by show _ = _; unfold isRune; simp; omega
          go_enter Tryz.func44, Tryz.ntmps44
          go_wp2
          go_ret
          exact ⟨by rw [H.out]; rfl, rfl⟩
        · have H : Hid (isRune c = false) := by show _ = _; unfold isRune; simp; omega
          go_enter Tryz.func44, Tryz.ntmps44
          go_wp2
          go_ret
          exact ⟨by rw [H.out]; rfl, rfl⟩
def bad1 (_ : Int) : Bool := false
def bad2 (c : Int) : Bool := !isRune c
theorem clo_1 (c : Int) (B : Nat) (w : World) (hk : w.cell? ⟨B, 0, none⟩ = some (.int .i64 1)) : Calls Tryz.prog 54 #[.int .i64 c, .pointer (some ⟨B, 0, none⟩)] w fun e w' => e = .returned (.bool (bad1 c)) ∧ w = w' := by
  go_enter Tryz.func54, Tryz.ntmps54
  go_wp2_with (go_at_call 55; refine (right_1 c _).mono ?_; rintro e w' ⟨rfl, rfl⟩)
  go_ret
  exact ⟨rfl, rfl⟩
theorem index_bad1 (A : Option Addr) (c : Nat) (xs : List Int) (B : Nat) (w : World) (hl : xs.length ≤ 9223372036854775807) (hs : Sl w A xs) (hk : w.cell? ⟨B, 0, none⟩ = some (.int .i64 1)) :
    Calls Tryz.prog 113 #[.slice A xs.length c, .func (.func 54) #[] #[.pointer (some ⟨B, 0, none⟩)]] w fun e w' => ∃ i : Int, e = .returned (.int .i64 i) ∧ Hid (decide (0 ≤ i) = xs.any bad1) ∧ w = w' := by
  have HK := hide hk
  clear hk
  go_enter Tryz.func113, Tryz.ntmps113
  go_wp2
  go_loop [5, 8] (fun _ i => ∃ k : Nat, k ≤ xs.length ∧ i = .int .i64 k ∧ Hid ((xs.take k).any bad1 = false)) (fun _ i => xs.length - (intOf i).toNat)
  case atStart => exact ⟨0, Nat.zero_le _, rfl, rfl⟩
  case round =>
    obtain ⟨k, hk, rfl, hany⟩ := hrel
    by_cases hlt : k < xs.length
    · obtain ⟨b, o, x, rfl, hb, hc, hx⟩ := hs.at_ hlt
      by_cases hp : bad1 x = true
      · have H := hide (any_hit (P := bad1) hlt (by rw [hx.out]; exact hp))
        go_wp2_with (go_at_call 54; refine (clo_1 _ _ _ HK.out).mono ?_; rintro e w' ⟨rfl, rfl⟩)
        go_ret
        exact ⟨_, rfl, (show _ = _ from by rw [H.out]; simp), rfl⟩
      · have hp' : bad1 x = false := by simpa using hp
        have H := hide (any_step hlt hany.out)
        have H2 : Hid (bad1 (xs.getD k 0) = false) := by show _ = _; rw [hx.out]; exact hp'
        clear hp
        go_wp2_with (go_at_call 54; refine (clo_1 _ _ _ HK.out).mono ?_; rintro e w' ⟨rfl, rfl⟩)
        go_round
        case rel => exact ⟨k + 1, by omega, by go_num, H.out.trans H2.out⟩
        case measure => simp [intOf]; omega
    · go_wp2
      go_ret
      refine ⟨_, rfl, ?_, rfl⟩
      have e := hany.out
      rw [List.take_of_length_le (by omega)] at e
      show _ = _
      rw [e]; rfl
theorem contains_bad1 (A : Option Addr) (c : Nat) (xs : List Int) (B : Nat) (w : World) (hl : xs.length ≤ 9223372036854775807) (hs : Sl w A xs) (hk : w.cell? ⟨B, 0, none⟩ = some (.int .i64 1)) :
    Calls Tryz.prog 53 #[.slice A xs.length c, .func (.func 54) #[] #[.pointer (some ⟨B, 0, none⟩)]] w fun e w' => e = .returned (.bool (xs.any bad1)) ∧ w = w' := by
  have HK := hide hk
  clear hk
  go_enter Tryz.func53, Tryz.ntmps53
  go_wp2_with (go_at_call 113; refine (index_bad1 A c xs B _ hl hs HK.out).mono ?_; rintro e w' ⟨i, rfl, hi, rfl⟩)
  go_ret
  exact ⟨by rw [← hi.out]; rfl, rfl⟩
theorem clo_2 (c : Int) (B : Nat) (w : World) (hk : w.cell? ⟨B, 0, none⟩ = some (.int .i64 2)) : Calls Tryz.prog 54 #[.int .i64 c, .pointer (some ⟨B, 0, none⟩)] w fun e w' => e = .returned (.bool (bad2 c)) ∧ w = w' := by
  go_enter Tryz.func54, Tryz.ntmps54
  go_wp2_with (go_at_call 55; refine (right_2 c _).mono ?_; rintro e w' ⟨rfl, rfl⟩)
  go_ret
  exact ⟨rfl, rfl⟩
theorem index_bad2 (A : Option Addr) (c : Nat) (xs : List Int) (B : Nat) (w : World) (hl : xs.length ≤ 9223372036854775807) (hs : Sl w A xs) (hk : w.cell? ⟨B, 0, none⟩ = some (.int .i64 2)) :
    Calls Tryz.prog 113 #[.slice A xs.length c, .func (.func 54) #[] #[.pointer (some ⟨B, 0, none⟩)]] w fun e w' => ∃ i : Int, e = .returned (.int .i64 i) ∧ Hid (decide (0 ≤ i) = xs.any bad2) ∧ w = w' := by
  have HK := hide hk
  clear hk
  go_enter Tryz.func113, Tryz.ntmps113
  go_wp2
  go_loop [5, 8] (fun _ i => ∃ k : Nat, k ≤ xs.length ∧ i = .int .i64 k ∧ Hid ((xs.take k).any bad2 = false)) (fun _ i => xs.length - (intOf i).toNat)
  case atStart => exact ⟨0, Nat.zero_le _, rfl, rfl⟩
  case round =>
    obtain ⟨k, hk, rfl, hany⟩ := hrel
    by_cases hlt : k < xs.length
    · obtain ⟨b, o, x, rfl, hb, hc, hx⟩ := hs.at_ hlt
      by_cases hp : bad2 x = true
      · have H := hide (any_hit (P := bad2) hlt (by rw [hx.out]; exact hp))
        go_wp2_with (go_at_call 54; refine (clo_2 _ _ _ HK.out).mono ?_; rintro e w' ⟨rfl, rfl⟩)
        go_ret
        exact ⟨_, rfl, (show _ = _ from by rw [H.out]; simp), rfl⟩
      · have hp' : bad2 x = false := by simpa using hp
        have H := hide (any_step hlt hany.out)
        have H2 : Hid (bad2 (xs.getD k 0) = false) := by show _ = _; rw [hx.out]; exact hp'
        clear hp
        go_wp2_with (go_at_call 54; refine (clo_2 _ _ _ HK.out).mono ?_; rintro e w' ⟨rfl, rfl⟩)
        go_round
        case rel => exact ⟨k + 1, by omega, by go_num, H.out.trans H2.out⟩
        case measure => simp [intOf]; omega
    · go_wp2
      go_ret
      refine ⟨_, rfl, ?_, rfl⟩
      have e := hany.out
      rw [List.take_of_length_le (by omega)] at e
      show _ = _
      rw [e]; rfl
theorem contains_bad2 (A : Option Addr) (c : Nat) (xs : List Int) (B : Nat) (w : World) (hl : xs.length ≤ 9223372036854775807) (hs : Sl w A xs) (hk : w.cell? ⟨B, 0, none⟩ = some (.int .i64 2)) :
    Calls Tryz.prog 53 #[.slice A xs.length c, .func (.func 54) #[] #[.pointer (some ⟨B, 0, none⟩)]] w fun e w' => e = .returned (.bool (xs.any bad2)) ∧ w = w' := by
  have HK := hide hk
  clear hk
  go_enter Tryz.func53, Tryz.ntmps53
  go_wp2_with (go_at_call 113; refine (index_bad2 A c xs B _ hl hs HK.out).mono ?_; rintro e w' ⟨i, rfl, hi, rfl⟩)
  go_ret
  exact ⟨by rw [← hi.out]; rfl, rfl⟩
theorem chk_bad_k {a : Arr} (h1 : a.k ≠ 1) (h2 : a.k ≠ 2) : chk a = 2 := by unfold chk; rw [if_pos ⟨h1, h2⟩]
theorem chk_bad_s {a : Arr} (h : a.k = 1 ∨ a.k = 2) (hs : shCheck a.r a.l0 a.l1 ≠ 0) : chk a = shCheck a.r a.l0 a.l1 := by unfold chk; rw [if_neg (by omega), if_pos hs]
theorem chk_bad_n {a : Arr} (h : a.k = 1 ∨ a.k = 2) (hs : shCheck a.r a.l0 a.l1 = 0) (hn : (a.xs.length : Int) ≠ prod a.r a.l0 a.l1) : chk a = 6 := by
  unfold chk; rw [if_neg (by omega), if_neg (by simpa using hs), if_pos hn]
theorem chk_1 {a : Arr} (h : a.k = 1) (hs : shCheck a.r a.l0 a.l1 = 0) (hn : (a.xs.length : Int) = prod a.r a.l0 a.l1) : chk a = 0 := by
  unfold chk; rw [if_neg (by omega), if_neg (by simpa using hs), if_neg (by simpa using hn), if_neg (by omega)]
theorem chk_2t {a : Arr} (h : a.k = 2) (hs : shCheck a.r a.l0 a.l1 = 0) (hn : (a.xs.length : Int) = prod a.r a.l0 a.l1) (hb : a.xs.any bad2 = true) : chk a = 7 := by
  unfold chk; rw [if_neg (by omega), if_neg (by simpa using hs), if_neg (by simpa using hn), if_pos ⟨h, hb⟩]
theorem chk_2f {a : Arr} (h : a.k = 2) (hs : shCheck a.r a.l0 a.l1 = 0) (hn : (a.xs.length : Int) = prod a.r a.l0 a.l1) (hb : a.xs.any bad2 = false) : chk a = 0 := by
  unfold chk; rw [if_neg (by omega), if_neg (by simpa using hs), if_neg (by simpa using hn), if_neg (fun hh => absurd (hh.2.symm.trans hb) (by decide))]
theorem cells_bad_eq {a : Arr} (hs : shCheck a.r a.l0 a.l1 ≠ 0) : cellsOf a.r a.l0 a.l1 = (0, shCheck a.r a.l0 a.l1) := if_pos hs
theorem cells_ok_eq {a : Arr} (hs : shCheck a.r a.l0 a.l1 = 0) : cellsOf a.r a.l0 a.l1 = (prod a.r a.l0 a.l1, 0) := if_neg (by simpa using hs)
theorem ac_k (a : Arr) (A : Option Addr) (c : Nat) (hl : a.xs.length ≤ 9223372036854775807) (f0 : Fits a.l0) (f1 : Fits a.l1) (h1 : a.k ≠ 1) (h2 : a.k ≠ 2) (w : World) (hs : Sl w A a.xs) : Calls Tryz.prog 38 #[.agg #[.int .i64 a.k, .int .i64 a.r, .int .i64 a.l0, .int .i64 a.l1, .slice A a.xs.length c]] w fun e w' => e = .returned (.int .i64 2) ∧ Below w.heap.size w w' := by
  have n1 : (a.k != 1) = true := by simpa using h1
  have n2 : (a.k != 2) = true := by simpa using h2
  go_enter Tryz.func38, Tryz.ntmps38
  go_wp2
  go_ret
  exact ⟨rfl, by (repeat (first | exact Below.refl _ _ | assumption | (refine bl_then ?_ (by assumption)) | (refine bl_alloc ?_ _) | (refine bl_dn ?_ _) | (refine bl_drew ?_)))⟩
theorem ac_1s (a : Arr) (A : Option Addr) (c : Nat) (hl : a.xs.length ≤ 9223372036854775807) (f0 : Fits a.l0) (f1 : Fits a.l1) (h : a.k = 1) (h1 : shCheck a.r a.l0 a.l1 ≠ 0) (w : World) (hs : Sl w A a.xs) : Calls Tryz.prog 38 #[.agg #[.int .i64 a.k, .int .i64 a.r, .int .i64 a.l0, .int .i64 a.l1, .slice A a.xs.length c]] w fun e w' => e = .returned (.int .i64 (shCheck a.r a.l0 a.l1)) ∧ Below w.heap.size w w' := by
  have n1 : (a.k != 1) = false := by rw [h]; rfl
  have g0 := hide f0; have g1 := hide f1
  clear f0 f1
  have e1 := cells_bad_eq h1
  have e2 : (shCheck a.r a.l0 a.l1 != 0) = true := by simpa using h1
  clear h1 h
  go_enter Tryz.func38, Tryz.ntmps38
  go_wp2_with ((go_at_call 52; refine (cells_any _ _ _ g0.out g1.out _).mono ?_; rintro e w' ⟨rfl, hg⟩; obtain ⟨hc, hf, hz⟩ := bcell hg))
  go_ret
  exact ⟨rfl, by (repeat (first | exact Below.refl _ _ | assumption | (refine bl_then ?_ (by assumption)) | (refine bl_alloc ?_ _) | (refine bl_dn ?_ _) | (refine bl_drew ?_)))⟩
theorem ac_1n (a : Arr) (A : Option Addr) (c : Nat) (hl : a.xs.length ≤ 9223372036854775807) (f0 : Fits a.l0) (f1 : Fits a.l1) (h : a.k = 1) (h1 : shCheck a.r a.l0 a.l1 = 0) (h2 : (a.xs.length : Int) ≠ prod a.r a.l0 a.l1) (w : World) (hs : Sl w A a.xs) : Calls Tryz.prog 38 #[.agg #[.int .i64 a.k, .int .i64 a.r, .int .i64 a.l0, .int .i64 a.l1, .slice A a.xs.length c]] w fun e w' => e = .returned (.int .i64 6) ∧ Below w.heap.size w w' := by
  have n1 : (a.k != 1) = false := by rw [h]; rfl
  have g0 := hide f0; have g1 := hide f1
  clear f0 f1
  have e1 := cells_ok_eq h1
  have e2 : ((a.xs.length : Int) != prod a.r a.l0 a.l1) = true := by simpa using h2
  clear h1 h
  go_enter Tryz.func38, Tryz.ntmps38
  go_wp2_with ((go_at_call 52; refine (cells_any _ _ _ g0.out g1.out _).mono ?_; rintro e w' ⟨rfl, hg⟩; obtain ⟨hc, hf, hz⟩ := bcell hg))
  go_ret
  exact ⟨rfl, by (repeat (first | exact Below.refl _ _ | assumption | (refine bl_then ?_ (by assumption)) | (refine bl_alloc ?_ _) | (refine bl_dn ?_ _) | (refine bl_drew ?_)))⟩
theorem ac_1c (a : Arr) (A : Option Addr) (c : Nat) (hl : a.xs.length ≤ 9223372036854775807) (f0 : Fits a.l0) (f1 : Fits a.l1) (h : a.k = 1) (h1 : shCheck a.r a.l0 a.l1 = 0) (h2 : (a.xs.length : Int) = prod a.r a.l0 a.l1) (b : Bool) (hb : a.xs.any bad1 = b) (w : World) (hs : Sl w A a.xs) : Calls Tryz.prog 38 #[.agg #[.int .i64 a.k, .int .i64 a.r, .int .i64 a.l0, .int .i64 a.l1, .slice A a.xs.length c]] w fun e w' => e = .returned (.int .i64 (if b then 7 else 0)) ∧ Below w.heap.size w w' := by
  have n1 : (a.k != 1) = false := by rw [h]; rfl
  have g0 := hide f0; have g1 := hide f1
  clear f0 f1
  have hmf : ∀ (fn : Fn) (first cap : Array Value) (w : World), (Instr.makeFunc fn first cap).run Tryz.prog w = .ok (.func fn first cap) w := fun _ _ _ _ => rfl
  have e1 := cells_ok_eq h1
  have e2 : ((a.xs.length : Int) != prod a.r a.l0 a.l1) = false := by simpa using h2
  have HB := hide hb
  have HH := hide h
  clear h1 h h2 hb
  cases b
  all_goals
    go_enter Tryz.func38, Tryz.ntmps38
    go_wp2_with (first | (go_at_call 52; refine (cells_any _ _ _ g0.out g1.out _).mono ?_; rintro e w' ⟨rfl, hg⟩; obtain ⟨hc, hf, hz⟩ := bcell hg) | (go_at_call 53; refine (contains_bad1 A c a.xs _ _ hl (hs.below (by (repeat (first | exact Below.refl _ _ | assumption | (refine bl_then ?_ (by assumption)) | (refine bl_alloc ?_ _) | (refine bl_dn ?_ _) | (refine bl_drew ?_))))) (by rw [hc _ _ (by simp), World.cell?_alloc_at (hn := rfl), ← HH.out]; rfl)).mono ?_; rw [HB.out]; rintro e w' ⟨rfl, rfl⟩))
    go_ret
    exact ⟨rfl, by (repeat (first | exact Below.refl _ _ | assumption | (refine bl_then ?_ (by assumption)) | (refine bl_alloc ?_ _) | (refine bl_dn ?_ _) | (refine bl_drew ?_)))⟩
theorem ac_2s (a : Arr) (A : Option Addr) (c : Nat) (hl : a.xs.length ≤ 9223372036854775807) (f0 : Fits a.l0) (f1 : Fits a.l1) (h : a.k = 2) (h1 : shCheck a.r a.l0 a.l1 ≠ 0) (w : World) (hs : Sl w A a.xs) : Calls Tryz.prog 38 #[.agg #[.int .i64 a.k, .int .i64 a.r, .int .i64 a.l0, .int .i64 a.l1, .slice A a.xs.length c]] w fun e w' => e = .returned (.int .i64 (shCheck a.r a.l0 a.l1)) ∧ Below w.heap.size w w' := by
  have n1 : (a.k != 1) = true := by rw [h]; rfl
  have n2 : (a.k != 2) = false := by rw [h]; rfl
  have g0 := hide f0; have g1 := hide f1
  clear f0 f1
  have e1 := cells_bad_eq h1
  have e2 : (shCheck a.r a.l0 a.l1 != 0) = true := by simpa using h1
  clear h1 h
  go_enter Tryz.func38, Tryz.ntmps38
  go_wp2_with ((go_at_call 52; refine (cells_any _ _ _ g0.out g1.out _).mono ?_; rintro e w' ⟨rfl, hg⟩; obtain ⟨hc, hf, hz⟩ := bcell hg))
  go_ret
  exact ⟨rfl, by (repeat (first | exact Below.refl _ _ | assumption | (refine bl_then ?_ (by assumption)) | (refine bl_alloc ?_ _) | (refine bl_dn ?_ _) | (refine bl_drew ?_)))⟩
theorem ac_2n (a : Arr) (A : Option Addr) (c : Nat) (hl : a.xs.length ≤ 9223372036854775807) (f0 : Fits a.l0) (f1 : Fits a.l1) (h : a.k = 2) (h1 : shCheck a.r a.l0 a.l1 = 0) (h2 : (a.xs.length : Int) ≠ prod a.r a.l0 a.l1) (w : World) (hs : Sl w A a.xs) : Calls Tryz.prog 38 #[.agg #[.int .i64 a.k, .int .i64 a.r, .int .i64 a.l0, .int .i64 a.l1, .slice A a.xs.length c]] w fun e w' => e = .returned (.int .i64 6) ∧ Below w.heap.size w w' := by
  have n1 : (a.k != 1) = true := by rw [h]; rfl
  have n2 : (a.k != 2) = false := by rw [h]; rfl
  have g0 := hide f0; have g1 := hide f1
  clear f0 f1
  have e1 := cells_ok_eq h1
  have e2 : ((a.xs.length : Int) != prod a.r a.l0 a.l1) = true := by simpa using h2
  clear h1 h
  go_enter Tryz.func38, Tryz.ntmps38
  go_wp2_with ((go_at_call 52; refine (cells_any _ _ _ g0.out g1.out _).mono ?_; rintro e w' ⟨rfl, hg⟩; obtain ⟨hc, hf, hz⟩ := bcell hg))
  go_ret
  exact ⟨rfl, by (repeat (first | exact Below.refl _ _ | assumption | (refine bl_then ?_ (by assumption)) | (refine bl_alloc ?_ _) | (refine bl_dn ?_ _) | (refine bl_drew ?_)))⟩
theorem ac_2c (a : Arr) (A : Option Addr) (c : Nat) (hl : a.xs.length ≤ 9223372036854775807) (f0 : Fits a.l0) (f1 : Fits a.l1) (h : a.k = 2) (h1 : shCheck a.r a.l0 a.l1 = 0) (h2 : (a.xs.length : Int) = prod a.r a.l0 a.l1) (b : Bool) (hb : a.xs.any bad2 = b) (w : World) (hs : Sl w A a.xs) : Calls Tryz.prog 38 #[.agg #[.int .i64 a.k, .int .i64 a.r, .int .i64 a.l0, .int .i64 a.l1, .slice A a.xs.length c]] w fun e w' => e = .returned (.int .i64 (if b then 7 else 0)) ∧ Below w.heap.size w w' := by
  have n1 : (a.k != 1) = true := by rw [h]; rfl
  have n2 : (a.k != 2) = false := by rw [h]; rfl
  have g0 := hide f0; have g1 := hide f1
  clear f0 f1
  have hmf : ∀ (fn : Fn) (first cap : Array Value) (w : World), (Instr.makeFunc fn first cap).run Tryz.prog w = .ok (.func fn first cap) w := fun _ _ _ _ => rfl
  have e1 := cells_ok_eq h1
  have e2 : ((a.xs.length : Int) != prod a.r a.l0 a.l1) = false := by simpa using h2
  have HB := hide hb
  have HH := hide h
  clear h1 h h2 hb
  cases b
  all_goals
    go_enter Tryz.func38, Tryz.ntmps38
    go_wp2_with (first | (go_at_call 52; refine (cells_any _ _ _ g0.out g1.out _).mono ?_; rintro e w' ⟨rfl, hg⟩; obtain ⟨hc, hf, hz⟩ := bcell hg) | (go_at_call 53; refine (contains_bad2 A c a.xs _ _ hl (hs.below (by (repeat (first | exact Below.refl _ _ | assumption | (refine bl_then ?_ (by assumption)) | (refine bl_alloc ?_ _) | (refine bl_dn ?_ _) | (refine bl_drew ?_))))) (by rw [hc _ _ (by simp), World.cell?_alloc_at (hn := rfl), ← HH.out]; rfl)).mono ?_; rw [HB.out]; rintro e w' ⟨rfl, rfl⟩))
    go_ret
    exact ⟨rfl, by (repeat (first | exact Below.refl _ _ | assumption | (refine bl_then ?_ (by assumption)) | (refine bl_alloc ?_ _) | (refine bl_dn ?_ _) | (refine bl_drew ?_)))⟩
/-- what Check says of an array, of the program -/
theorem ac_any (a : Arr) (A : Option Addr) (c : Nat) (hl : a.xs.length ≤ 9223372036854775807) (f0 : Fits a.l0) (f1 : Fits a.l1) (w : World) (hs : Sl w A a.xs) : Calls Tryz.prog 38 #[.agg #[.int .i64 a.k, .int .i64 a.r, .int .i64 a.l0, .int .i64 a.l1, .slice A a.xs.length c]] w fun e w' => e = .returned (.int .i64 (chk a)) ∧ Below w.heap.size w w' := by
  by_cases k1 : a.k = 1
  · by_cases h1 : shCheck a.r a.l0 a.l1 = 0
    · by_cases h2 : (a.xs.length : Int) = prod a.r a.l0 a.l1
      · rw [chk_1 k1 h1 h2]; exact ac_1c a A c hl f0 f1 k1 h1 h2 false (by induction a.xs <;> simp_all [bad1]) w hs
      · rw [chk_bad_n (Or.inl k1) h1 h2]; exact ac_1n a A c hl f0 f1 k1 h1 h2 w hs
    · rw [chk_bad_s (Or.inl k1) h1]; exact ac_1s a A c hl f0 f1 k1 h1 w hs
  · by_cases k2 : a.k = 2
    · by_cases h1 : shCheck a.r a.l0 a.l1 = 0
      · by_cases h2 : (a.xs.length : Int) = prod a.r a.l0 a.l1
        · cases hb : a.xs.any bad2
          · rw [chk_2f k2 h1 h2 hb]; exact ac_2c a A c hl f0 f1 k2 h1 h2 false hb w hs
          · rw [chk_2t k2 h1 h2 hb]; exact ac_2c a A c hl f0 f1 k2 h1 h2 true hb w hs
        · rw [chk_bad_n (Or.inr k2) h1 h2]; exact ac_2n a A c hl f0 f1 k2 h1 h2 w hs
      · rw [chk_bad_s (Or.inr k2) h1]; exact ac_2s a A c hl f0 f1 k2 h1 w hs
    · rw [chk_bad_k k1 k2]; exact ac_k a A c hl f0 f1 k1 k2 w hs
end Ar
end Go.Proofs.YtaelfhjdmljblaaGreatDoor
/-
Contracts of Check, Like and Same of the reference, of Alike and of Far (chapters 6 and 7).
-/
set_option linter.unusedSimpArgs false
set_option linter.unusedVariables false
namespace Go.Proofs.YtaelfhjdmljblaaGreatDoor
namespace Ar
open Go.RowKit Sc
/-- two arrays of two numbers, compared -/
theorem run_eql_arr2 {P : Program} (t e : TypeId) {i : TypeInfo} (hu : P.underlying t = some (.array 2 e)) (he : P.underlying e = some (.int .i64)) (hi : P.info? e = some i) (hz : i.size = 1) (a b c d : Int) (w : World) :
    (Op.equalIn 10000 t (.agg #[.int .i64 a, .int .i64 b]) (.agg #[.int .i64 c, .int .i64 d])).run P w = .ok (a == c && b == d) w := by
  have e1 := fun (x y : Int) (w : World) => run_equalIn_int (P := P) w 9998 e .i64 .i64 x y he
  have e2 : ∀ w : World, (isAgg e).run P w = .ok false w := fun w => by simp [isAgg, run_underlying he]
  show (Op.equalIn (9998 + 1 + 1) t _ _).run P w = _
  unfold Op.equalIn
  simp only [Nat.reduceAdd] at e1 ⊢
  simp [run_underlying hu, sizeOf, typeInfo, hi, hz, part, e2, e1, List.range']
  by_cases h1 : a = c <;> by_cases h2 : b = d <;> simp [h1, h2]
theorem info_int : (Tryz.prog.info? 3).map (fun i => (i.zero, i.size, i.bytes)) = some (some (.int .i64 0), 1, 8) := by kernel_rfl
theorem eql_lens (a b c d : Int) (w : World) : (binOp .eql 30 (.agg #[.int .i64 a, .int .i64 b]) (.agg #[.int .i64 c, .int .i64 d])).run Tryz.prog w = .ok (.bool (a == c && b == d)) w := by
  obtain ⟨i0, hi, _, hz, _⟩ := info_parts info_int
  rw [run_eql_struct, run_eql_arr2 _ _ Tryz.underlying30 Tryz.underlying3 hi hz, Result.andThen_ok]
namespace Ref
theorem ac_k (a : Arr) (A : Option Addr) (c : Nat) (hl : a.xs.length ≤ 9223372036854775807) (f0 : Fits a.l0) (f1 : Fits a.l1) (h1 : a.k ≠ 1) (h2 : a.k ≠ 2) (w : World) (hs : Sl w A a.xs) : Calls Tryz.prog 18 #[.agg #[.int .i64 a.k, .int .i64 a.r, .int .i64 a.l0, .int .i64 a.l1, .slice A a.xs.length c]] w fun e w' => e = .returned (.int .i64 2) ∧ Below w.heap.size w w' := by
  have n1 : (a.k != 1) = true := by simpa using h1
  have n2 : (a.k != 2) = true := by simpa using h2
  go_enter Tryz.func18, Tryz.ntmps18
  go_wp2
  go_ret
  exact ⟨rfl, by (repeat (first | exact Below.refl _ _ | assumption | (refine bl_then ?_ (by assumption)) | (refine bl_alloc ?_ _) | (refine bl_dn ?_ _) | (refine bl_drew ?_)))⟩
theorem ac_1s (a : Arr) (A : Option Addr) (c : Nat) (hl : a.xs.length ≤ 9223372036854775807) (f0 : Fits a.l0) (f1 : Fits a.l1) (h : a.k = 1) (h1 : shCheck a.r a.l0 a.l1 ≠ 0) (w : World) (hs : Sl w A a.xs) : Calls Tryz.prog 18 #[.agg #[.int .i64 a.k, .int .i64 a.r, .int .i64 a.l0, .int .i64 a.l1, .slice A a.xs.length c]] w fun e w' => e = .returned (.int .i64 (shCheck a.r a.l0 a.l1)) ∧ Below w.heap.size w w' := by
  have n1 : (a.k != 1) = false := by rw [h]; rfl
  have g0 := hide f0; have g1 := hide f1
  clear f0 f1
  have e1 := cells_bad_eq h1
  have e2 : (shCheck a.r a.l0 a.l1 == 0) = false := by simpa using h1
  clear h1 h
  go_enter Tryz.func18, Tryz.ntmps18
  go_wp2_with ((go_at_call 43; refine (Ref.cells_any _ _ _ g0.out g1.out _).mono ?_; rintro e w' ⟨rfl, hg⟩; obtain ⟨hc, hf, hz⟩ := bcell hg))
  refine wp_loop_rounds 1 ?_
  rw [rounds_succ]
  by_cases hn : 0 < a.xs.length
  all_goals
    go_wp2
    go_ret
    exact ⟨rfl, by (repeat (first | exact Below.refl _ _ | assumption | (refine bl_then ?_ (by assumption)) | (refine bl_alloc ?_ _) | (refine bl_dn ?_ _) | (refine bl_drew ?_)))⟩
theorem ac_1n (a : Arr) (A : Option Addr) (c : Nat) (hl : a.xs.length ≤ 9223372036854775807) (f0 : Fits a.l0) (f1 : Fits a.l1) (h : a.k = 1) (h1 : shCheck a.r a.l0 a.l1 = 0) (h2 : (a.xs.length : Int) ≠ prod a.r a.l0 a.l1) (w : World) (hs : Sl w A a.xs) : Calls Tryz.prog 18 #[.agg #[.int .i64 a.k, .int .i64 a.r, .int .i64 a.l0, .int .i64 a.l1, .slice A a.xs.length c]] w fun e w' => e = .returned (.int .i64 6) ∧ Below w.heap.size w w' := by
  have n1 : (a.k != 1) = false := by rw [h]; rfl
  have g0 := hide f0; have g1 := hide f1
  clear f0 f1
  have e1 := cells_ok_eq h1
  have e2 : ((a.xs.length : Int) != prod a.r a.l0 a.l1) = true := by simpa using h2
  clear h1 h
  go_enter Tryz.func18, Tryz.ntmps18
  go_wp2_with ((go_at_call 43; refine (Ref.cells_any _ _ _ g0.out g1.out _).mono ?_; rintro e w' ⟨rfl, hg⟩; obtain ⟨hc, hf, hz⟩ := bcell hg))
  refine wp_loop_rounds 1 ?_
  rw [rounds_succ]
  by_cases hn : 0 < a.xs.length
  all_goals
    go_wp2
    go_ret
    exact ⟨rfl, by (repeat (first | exact Below.refl _ _ | assumption | (refine bl_then ?_ (by assumption)) | (refine bl_alloc ?_ _) | (refine bl_dn ?_ _) | (refine bl_drew ?_)))⟩
theorem ac_1c (a : Arr) (A : Option Addr) (c : Nat) (hl : a.xs.length ≤ 9223372036854775807) (f0 : Fits a.l0) (f1 : Fits a.l1) (h : a.k = 1) (h1 : shCheck a.r a.l0 a.l1 = 0) (h2 : (a.xs.length : Int) = prod a.r a.l0 a.l1) (w : World) (hs : Sl w A a.xs) : Calls Tryz.prog 18 #[.agg #[.int .i64 a.k, .int .i64 a.r, .int .i64 a.l0, .int .i64 a.l1, .slice A a.xs.length c]] w fun e w' => e = .returned (.int .i64 (if a.xs.any bad1 then 7 else 0)) ∧ Below w.heap.size w w' := by
  have n1 : (a.k != 1) = false := by rw [h]; rfl
  have n3 : (a.k == 2) = false := by rw [h]; rfl
  have g0 := hide f0; have g1 := hide f1
  clear f0 f1
  have e1 := cells_ok_eq h1
  have e2 : ((a.xs.length : Int) != prod a.r a.l0 a.l1) = false := by simpa using h2
  obtain ⟨z, hz0⟩ : ∃ z : Int, (if a.xs.any bad1 then 7 else 0) = z := ⟨_, rfl⟩
  rw [hz0]
  have HZ := hide hz0
  clear h1 h h2 hz0
  go_enter Tryz.func18, Tryz.ntmps18
  go_wp2_with ((go_at_call 43; refine (Ref.cells_any _ _ _ g0.out g1.out _).mono ?_; rintro e w' ⟨rfl, hg⟩; obtain ⟨hc, hf, hz⟩ := bcell hg))
  have hs' := hs.below (w' := w') (by (repeat (first | exact Below.refl _ _ | assumption | (refine bl_then ?_ (by assumption)) | (refine bl_alloc ?_ _) | (refine bl_dn ?_ _) | (refine bl_drew ?_))))
  go_loop [4, 5] (fun e i => ∃ k : Nat, k ≤ a.xs.length ∧ i = .int .i64 k ∧ ((e = .int .i64 0 ∧ Hid ((a.xs.take k).any bad1 = false)) ∨ (e = .int .i64 7 ∧ Hid (a.xs.any bad1 = true)))) (fun _ i => a.xs.length - (intOf i).toNat)
  case atStart => exact ⟨0, Nat.zero_le _, rfl, Or.inl ⟨rfl, rfl⟩⟩
  case round =>
    obtain ⟨k, hk, rfl, ⟨rfl, hany⟩ | ⟨rfl, hany⟩⟩ := hrel
    · by_cases hlt : k < a.xs.length
      · obtain ⟨b, o, x, rfl, hb, hcx, hx⟩ := hs'.at_ hlt
        have H := hide (any_step hlt hany.out)
        by_cases hp : bad1 x = true
        · have H0 := hide (any_hit (P := bad1) hlt (by rw [hx.out]; exact hp))
          have H2 : Hid (bad1 (a.xs.getD k 0) = true) := by show _ = _; rw [hx.out]; exact hp
          have H3 : isRune x = false := absurd hp (by unfold bad1; decide)
          clear hp
          go_wp2_with (go_at_call 44; refine (rune64_any _ _).mono ?_; rintro e w' ⟨rfl, rfl⟩)
          exact absurd H2.out (by unfold bad1; decide)
        · have hp' : bad1 x = false := by simpa using hp
          have H2 : Hid (bad1 (a.xs.getD k 0) = false) := by show _ = _; rw [hx.out]; exact hp'
          skip
          clear hp hp'
          go_wp2_with (go_at_call 44; refine (rune64_any _ _).mono ?_; rintro e w' ⟨rfl, rfl⟩)
          go_round
          case rel => exact ⟨k + 1, by omega, by go_num, Or.inl ⟨rfl, H.out.trans H2.out⟩⟩
          case measure => simp [intOf]; omega
      · have HE : Hid (a.xs.any bad1 = false) := by
          have e := hany.out
          rw [List.take_of_length_le (by omega)] at e
          exact e
        go_wp2
        go_ret
        exact ⟨by rw [← HZ.out, HE.out]; rfl, by (repeat (first | exact Below.refl _ _ | assumption | (refine bl_then ?_ (by assumption)) | (refine bl_alloc ?_ _) | (refine bl_dn ?_ _) | (refine bl_drew ?_)))⟩
    · by_cases hlt : k < a.xs.length
      all_goals
        go_wp2
        go_ret
        exact ⟨by rw [← HZ.out, hany.out]; rfl, by (repeat (first | exact Below.refl _ _ | assumption | (refine bl_then ?_ (by assumption)) | (refine bl_alloc ?_ _) | (refine bl_dn ?_ _) | (refine bl_drew ?_)))⟩
theorem ac_2s (a : Arr) (A : Option Addr) (c : Nat) (hl : a.xs.length ≤ 9223372036854775807) (f0 : Fits a.l0) (f1 : Fits a.l1) (h : a.k = 2) (h1 : shCheck a.r a.l0 a.l1 ≠ 0) (w : World) (hs : Sl w A a.xs) : Calls Tryz.prog 18 #[.agg #[.int .i64 a.k, .int .i64 a.r, .int .i64 a.l0, .int .i64 a.l1, .slice A a.xs.length c]] w fun e w' => e = .returned (.int .i64 (shCheck a.r a.l0 a.l1)) ∧ Below w.heap.size w w' := by
  have n1 : (a.k != 1) = true := by rw [h]; rfl
  have n2 : (a.k != 2) = false := by rw [h]; rfl
  have g0 := hide f0; have g1 := hide f1
  clear f0 f1
  have e1 := cells_bad_eq h1
  have e2 : (shCheck a.r a.l0 a.l1 == 0) = false := by simpa using h1
  clear h1 h
  go_enter Tryz.func18, Tryz.ntmps18
  go_wp2_with ((go_at_call 43; refine (Ref.cells_any _ _ _ g0.out g1.out _).mono ?_; rintro e w' ⟨rfl, hg⟩; obtain ⟨hc, hf, hz⟩ := bcell hg))
  refine wp_loop_rounds 1 ?_
  rw [rounds_succ]
  by_cases hn : 0 < a.xs.length
  all_goals
    go_wp2
    go_ret
    exact ⟨rfl, by (repeat (first | exact Below.refl _ _ | assumption | (refine bl_then ?_ (by assumption)) | (refine bl_alloc ?_ _) | (refine bl_dn ?_ _) | (refine bl_drew ?_)))⟩
theorem ac_2n (a : Arr) (A : Option Addr) (c : Nat) (hl : a.xs.length ≤ 9223372036854775807) (f0 : Fits a.l0) (f1 : Fits a.l1) (h : a.k = 2) (h1 : shCheck a.r a.l0 a.l1 = 0) (h2 : (a.xs.length : Int) ≠ prod a.r a.l0 a.l1) (w : World) (hs : Sl w A a.xs) : Calls Tryz.prog 18 #[.agg #[.int .i64 a.k, .int .i64 a.r, .int .i64 a.l0, .int .i64 a.l1, .slice A a.xs.length c]] w fun e w' => e = .returned (.int .i64 6) ∧ Below w.heap.size w w' := by
  have n1 : (a.k != 1) = true := by rw [h]; rfl
  have n2 : (a.k != 2) = false := by rw [h]; rfl
  have g0 := hide f0; have g1 := hide f1
  clear f0 f1
  have e1 := cells_ok_eq h1
  have e2 : ((a.xs.length : Int) != prod a.r a.l0 a.l1) = true := by simpa using h2
  clear h1 h
  go_enter Tryz.func18, Tryz.ntmps18
  go_wp2_with ((go_at_call 43; refine (Ref.cells_any _ _ _ g0.out g1.out _).mono ?_; rintro e w' ⟨rfl, hg⟩; obtain ⟨hc, hf, hz⟩ := bcell hg))
  refine wp_loop_rounds 1 ?_
  rw [rounds_succ]
  by_cases hn : 0 < a.xs.length
  all_goals
    go_wp2
    go_ret
    exact ⟨rfl, by (repeat (first | exact Below.refl _ _ | assumption | (refine bl_then ?_ (by assumption)) | (refine bl_alloc ?_ _) | (refine bl_dn ?_ _) | (refine bl_drew ?_)))⟩
theorem ac_2c (a : Arr) (A : Option Addr) (c : Nat) (hl : a.xs.length ≤ 9223372036854775807) (f0 : Fits a.l0) (f1 : Fits a.l1) (h : a.k = 2) (h1 : shCheck a.r a.l0 a.l1 = 0) (h2 : (a.xs.length : Int) = prod a.r a.l0 a.l1) (w : World) (hs : Sl w A a.xs) : Calls Tryz.prog 18 #[.agg #[.int .i64 a.k, .int .i64 a.r, .int .i64 a.l0, .int .i64 a.l1, .slice A a.xs.length c]] w fun e w' => e = .returned (.int .i64 (if a.xs.any bad2 then 7 else 0)) ∧ Below w.heap.size w w' := by
  have n1 : (a.k != 1) = true := by rw [h]; rfl
  have n2 : (a.k != 2) = false := by rw [h]; rfl
  have n3 : (a.k == 2) = true := by rw [h]; rfl
  have g0 := hide f0; have g1 := hide f1
  clear f0 f1
  have e1 := cells_ok_eq h1
  have e2 : ((a.xs.length : Int) != prod a.r a.l0 a.l1) = false := by simpa using h2
  obtain ⟨z, hz0⟩ : ∃ z : Int, (if a.xs.any bad2 then 7 else 0) = z := ⟨_, rfl⟩
  rw [hz0]
  have HZ := hide hz0
  clear h1 h h2 hz0
  go_enter Tryz.func18, Tryz.ntmps18
  go_wp2_with ((go_at_call 43; refine (Ref.cells_any _ _ _ g0.out g1.out _).mono ?_; rintro e w' ⟨rfl, hg⟩; obtain ⟨hc, hf, hz⟩ := bcell hg))
  have hs' := hs.below (w' := w') (by (repeat (first | exact Below.refl _ _ | assumption | (refine bl_then ?_ (by assumption)) | (refine bl_alloc ?_ _) | (refine bl_dn ?_ _) | (refine bl_drew ?_))))
  go_loop [4, 5] (fun e i => ∃ k : Nat, k ≤ a.xs.length ∧ i = .int .i64 k ∧ ((e = .int .i64 0 ∧ Hid ((a.xs.take k).any bad2 = false)) ∨ (e = .int .i64 7 ∧ Hid (a.xs.any bad2 = true)))) (fun _ i => a.xs.length - (intOf i).toNat)
  case atStart => exact ⟨0, Nat.zero_le _, rfl, Or.inl ⟨rfl, rfl⟩⟩
  case round =>
    obtain ⟨k, hk, rfl, ⟨rfl, hany⟩ | ⟨rfl, hany⟩⟩ := hrel
    · by_cases hlt : k < a.xs.length
      · obtain ⟨b, o, x, rfl, hb, hcx, hx⟩ := hs'.at_ hlt
        have H := hide (any_step hlt hany.out)
        by_cases hp : bad2 x = true
        · have H0 := hide (any_hit (P := bad2) hlt (by rw [hx.out]; exact hp))
          have H2 : Hid (bad2 (a.xs.getD k 0) = true) := by show _ = _; rw [hx.out]; exact hp
          have H3 : isRune x = false := by unfold bad2 at hp; simpa using hp
          clear hp
          go_wp2_with (go_at_call 44; refine (rune64_any _ _).mono ?_; rintro e w' ⟨rfl, rfl⟩)
          go_round
          case rel => exact ⟨k + 1, by omega, by go_num, Or.inr ⟨rfl, H0⟩⟩
          case measure => simp [intOf]; omega
        · have hp' : bad2 x = false := by simpa using hp
          have H2 : Hid (bad2 (a.xs.getD k 0) = false) := by show _ = _; rw [hx.out]; exact hp'
          have H3 : isRune x = true := by unfold bad2 at hp; simpa using hp
          clear hp hp'
          go_wp2_with (go_at_call 44; refine (rune64_any _ _).mono ?_; rintro e w' ⟨rfl, rfl⟩)
          go_round
          case rel => exact ⟨k + 1, by omega, by go_num, Or.inl ⟨rfl, H.out.trans H2.out⟩⟩
          case measure => simp [intOf]; omega
      · have HE : Hid (a.xs.any bad2 = false) := by
          have e := hany.out
          rw [List.take_of_length_le (by omega)] at e
          exact e
        go_wp2
        go_ret
        exact ⟨by rw [← HZ.out, HE.out]; rfl, by (repeat (first | exact Below.refl _ _ | assumption | (refine bl_then ?_ (by assumption)) | (refine bl_alloc ?_ _) | (refine bl_dn ?_ _) | (refine bl_drew ?_)))⟩
    · by_cases hlt : k < a.xs.length
      all_goals
        go_wp2
        go_ret
        exact ⟨by rw [← HZ.out, hany.out]; rfl, by (repeat (first | exact Below.refl _ _ | assumption | (refine bl_then ?_ (by assumption)) | (refine bl_alloc ?_ _) | (refine bl_dn ?_ _) | (refine bl_drew ?_)))⟩
/-- what Check says of an array, of the reference -/
theorem ac_any (a : Arr) (A : Option Addr) (c : Nat) (hl : a.xs.length ≤ 9223372036854775807) (f0 : Fits a.l0) (f1 : Fits a.l1) (w : World) (hs : Sl w A a.xs) : Calls Tryz.prog 18 #[.agg #[.int .i64 a.k, .int .i64 a.r, .int .i64 a.l0, .int .i64 a.l1, .slice A a.xs.length c]] w fun e w' => e = .returned (.int .i64 (chk a)) ∧ Below w.heap.size w w' := by
  by_cases k1 : a.k = 1
  · by_cases h1 : shCheck a.r a.l0 a.l1 = 0
    · by_cases h2 : (a.xs.length : Int) = prod a.r a.l0 a.l1
      · have := ac_1c a A c hl f0 f1 k1 h1 h2 w hs
        rw [show a.xs.any bad1 = false from by induction a.xs <;> simp_all [bad1]] at this
        rw [chk_1 k1 h1 h2]; exact this
      · rw [chk_bad_n (Or.inl k1) h1 h2]; exact ac_1n a A c hl f0 f1 k1 h1 h2 w hs
    · rw [chk_bad_s (Or.inl k1) h1]; exact ac_1s a A c hl f0 f1 k1 h1 w hs
  · by_cases k2 : a.k = 2
    · by_cases h1 : shCheck a.r a.l0 a.l1 = 0
      · by_cases h2 : (a.xs.length : Int) = prod a.r a.l0 a.l1
        · have := ac_2c a A c hl f0 f1 k2 h1 h2 w hs
          cases hb : a.xs.any bad2
          · rw [chk_2f k2 h1 h2 hb]; rw [hb] at this; exact this
          · rw [chk_2t k2 h1 h2 hb]; rw [hb] at this; exact this
        · rw [chk_bad_n (Or.inr k2) h1 h2]; exact ac_2n a A c hl f0 f1 k2 h1 h2 w hs
      · rw [chk_bad_s (Or.inr k2) h1]; exact ac_2s a A c hl f0 f1 k2 h1 w hs
    · rw [chk_bad_k k1 k2]; exact ac_k a A c hl f0 f1 k1 k2 w hs
end Ref
end Ar
end Go.Proofs.YtaelfhjdmljblaaGreatDoor
/-
Contracts of Like and Same of the reference, and of Alike (chapters 6 and 7).
-/
set_option linter.unusedSimpArgs false
set_option linter.unusedVariables false
namespace Go.Proofs.YtaelfhjdmljblaaGreatDoor
namespace Ar
open Go.RowKit Sc
def like (a b : Arr) : Bool := a.k == b.k && (a.r == b.r && (a.l0 == b.l0 && a.l1 == b.l1))
def same (a b : Arr) : Bool := like a b && decide (a.xs = b.xs)
theorem take_eq_step {xs ys : List Int} {k : Nat} (hx : k < xs.length) (hy : k < ys.length) (h : xs.take k = ys.take k) (e : xs.getD k 0 = ys.getD k 0) : xs.take (k + 1) = ys.take (k + 1) := by
  rw [List.getD_eq_getElem?_getD, List.getElem?_eq_getElem hx, List.getD_eq_getElem?_getD, List.getElem?_eq_getElem hy] at e
  have e' : xs[k] = ys[k] := e
  rw [List.take_succ_eq_append_getElem hx, List.take_succ_eq_append_getElem hy, h, e']
theorem take_ne {xs ys : List Int} {k : Nat} (e : xs.getD k 0 ≠ ys.getD k 0) : xs ≠ ys := by rintro rfl; exact e rfl
theorem like_any (a b : Arr) (A B : Option Addr) (c d : Nat) (w : World) : Calls Tryz.prog 46 #[.agg #[.int .i64 a.k, .int .i64 a.r, .int .i64 a.l0, .int .i64 a.l1, .slice A a.xs.length c], .agg #[.int .i64 b.k, .int .i64 b.r, .int .i64 b.l0, .int .i64 b.l1, .slice B b.xs.length d]] w fun e w' => e = .returned (.bool (like a b)) ∧ Below w.heap.size w w' := by
  have heq := fun (p q r s : Int) (w : World) => eql_lens p q r s w
  by_cases h1 : a.k = b.k
  · have n1 : (a.k == b.k) = true := by simpa using h1
    by_cases h2 : a.r = b.r
    · have n2 : (a.r == b.r) = true := by simpa using h2
      have H : Hid (like a b = (a.l0 == b.l0 && a.l1 == b.l1)) := by show _ = _; unfold like; rw [n1, n2]; rfl
      clear h1 h2
      go_enter Tryz.func46, Tryz.ntmps46
      go_wp2
      go_ret
      exact ⟨by rw [H.out]; rfl, by (repeat (first | exact Below.refl _ _ | assumption | (refine bl_then ?_ (by assumption)) | (refine bl_alloc ?_ _) | (refine bl_dn ?_ _) | (refine bl_drew ?_)))⟩
    · have n2 : (a.r == b.r) = false := by simpa using h2
      have H : Hid (like a b = false) := by show _ = _; unfold like; rw [n1, n2]; rfl
      clear h1 h2
      go_enter Tryz.func46, Tryz.ntmps46
      go_wp2
      go_ret
      exact ⟨by rw [H.out]; rfl, by (repeat (first | exact Below.refl _ _ | assumption | (refine bl_then ?_ (by assumption)) | (refine bl_alloc ?_ _) | (refine bl_dn ?_ _) | (refine bl_drew ?_)))⟩
  · have n1 : (a.k == b.k) = false := by simpa using h1
    have H : Hid (like a b = false) := by show _ = _; unfold like; rw [n1]; rfl
    clear h1
    go_enter Tryz.func46, Tryz.ntmps46
    go_wp2
    go_ret
    exact ⟨by rw [H.out]; rfl, by (repeat (first | exact Below.refl _ _ | assumption | (refine bl_then ?_ (by assumption)) | (refine bl_alloc ?_ _) | (refine bl_dn ?_ _) | (refine bl_drew ?_)))⟩
set_option maxHeartbeats 400000 in
theorem same_any (a b : Arr) (A B : Option Addr) (c d : Nat) (hla : a.xs.length ≤ 9223372036854775807) (hlb : b.xs.length ≤ 9223372036854775807) (w : World) (ha : Sl w A a.xs) (hb : Sl w B b.xs) :
    Calls Tryz.prog 21 #[.agg #[.int .i64 a.k, .int .i64 a.r, .int .i64 a.l0, .int .i64 a.l1, .slice A a.xs.length c], .agg #[.int .i64 b.k, .int .i64 b.r, .int .i64 b.l0, .int .i64 b.l1, .slice B b.xs.length d]] w fun e w' => e = .returned (.bool (same a b)) ∧ Below w.heap.size w w' := by
  cases hl : like a b
  · have HL := hide hl
    have H : Hid (same a b = false) := by show _ = _; unfold same; rw [hl]; rfl
    clear hl
    go_enter Tryz.func21, Tryz.ntmps21
    go_wp2_with (go_at_call 46; refine (like_any a b A B c d _).mono ?_; rw [HL.out]; rintro e w' ⟨rfl, hg⟩; obtain ⟨hc, hf, hz⟩ := bcell hg)
    go_ret
    exact ⟨by rw [H.out]; rfl, by (repeat (first | exact Below.refl _ _ | assumption | (refine bl_then ?_ (by assumption)) | (refine bl_alloc ?_ _) | (refine bl_dn ?_ _) | (refine bl_drew ?_)))⟩
  · have HL := hide hl
    by_cases hn : a.xs.length = b.xs.length
    · have n1 : ((a.xs.length : Int) != (b.xs.length : Int)) = false := by simp [hn]
      have HN := hide hn
      have hn1 : a.xs.length ≤ b.xs.length := by omega
      have hn2 : b.xs.length ≤ a.xs.length := by omega
      clear hl hn
      go_enter Tryz.func21, Tryz.ntmps21
      go_wp2_with (go_at_call 46; refine (like_any a b A B c d _).mono ?_; rw [HL.out]; rintro e w' ⟨rfl, hg⟩; obtain ⟨hc, hf, hz⟩ := bcell hg)
      have ha' := ha.below (w' := w') (by (repeat (first | exact Below.refl _ _ | assumption | (refine bl_then ?_ (by assumption)) | (refine bl_alloc ?_ _) | (refine bl_dn ?_ _) | (refine bl_drew ?_))))
      have hb' := hb.below (w' := w') (by (repeat (first | exact Below.refl _ _ | assumption | (refine bl_then ?_ (by assumption)) | (refine bl_alloc ?_ _) | (refine bl_dn ?_ _) | (refine bl_drew ?_))))
      go_loopw [5] (fun i wr => ∃ k : Nat, k ≤ a.xs.length ∧ i = .int .i64 k ∧ Hid (a.xs.take k = b.xs.take k) ∧ ∃ n, wr = w'.drewN n) (fun i _ => a.xs.length - (intOf i).toNat)
      case atStart => exact ⟨0, Nat.zero_le _, rfl, rfl, 0, rfl⟩
      case round =>
        obtain ⟨k, hk, rfl, htk, n, rfl⟩ := hrel
        by_cases hlt : k < a.xs.length
        · have hlt' : k < b.xs.length := by omega
          obtain ⟨g, o, x, rfl, hgb, hcx, hx⟩ := ha'.at_ hlt
          obtain ⟨g', o', y, rfl, hgb', hcy, hy⟩ := hb'.at_ hlt'
          by_cases hp : x = y
          · have H := hide (take_eq_step hlt hlt' htk.out (by rw [hx.out, hy.out]; exact hp))
            have n2 : (x != y) = false := by simpa using hp
            clear hp
            go_wp2
            go_quiet (fail)
            go_wp2
            go_roundw
            case rel => exact ⟨k + 1, by omega, by go_num, H, _, rfl⟩
            case measure => simp [intOf]; omega
          · have H := hide (take_ne (xs := a.xs) (ys := b.xs) (k := k) (by rw [hx.out, hy.out]; exact hp))
            have n2 : (x != y) = true := by simpa using hp
            clear hp
            go_wp2
            go_quiet (fail)
            go_wp2
            go_ret
            exact ⟨by unfold same; rw [decide_eq_false H.out]; simp, by (repeat (first | exact Below.refl _ _ | assumption | (refine bl_then ?_ (by assumption)) | (refine bl_alloc ?_ _) | (refine bl_dn ?_ _) | (refine bl_drew ?_)))⟩
        · have HE : Hid (a.xs = b.xs) := by
            have e := htk.out
            rw [List.take_of_length_le (by omega), List.take_of_length_le (by omega)] at e
            exact e
          go_wp2
          go_ret
          exact ⟨by unfold same; rw [HL.out, decide_eq_true HE.out]; rfl, by (repeat (first | exact Below.refl _ _ | assumption | (refine bl_then ?_ (by assumption)) | (refine bl_alloc ?_ _) | (refine bl_dn ?_ _) | (refine bl_drew ?_)))⟩
    · have n1 : ((a.xs.length : Int) != (b.xs.length : Int)) = true := by simpa using fun h : (a.xs.length : Int) = b.xs.length => hn (by omega)
      have H : Hid (same a b = false) := by show _ = _; unfold same; rw [decide_eq_false (fun e => hn (by rw [e]))]; simp
      clear hl hn
      go_enter Tryz.func21, Tryz.ntmps21
      go_wp2_with (go_at_call 46; refine (like_any a b A B c d _).mono ?_; rw [HL.out]; rintro e w' ⟨rfl, hg⟩; obtain ⟨hc, hf, hz⟩ := bcell hg)
      go_ret
      exact ⟨by rw [H.out]; rfl, by (repeat (first | exact Below.refl _ _ | assumption | (refine bl_then ?_ (by assumption)) | (refine bl_alloc ?_ _) | (refine bl_dn ?_ _) | (refine bl_drew ?_)))⟩
end Ar
end Go.Proofs.YtaelfhjdmljblaaGreatDoor
/-
The deferred function that catches the error of a cell: its two contracts; words for a block that is filled cell by cell (chapter 10).
-/
set_option linter.unusedSimpArgs false
set_option linter.unusedVariables false
namespace Go.Proofs.YtaelfhjdmljblaaGreatDoor
namespace Ar
open Go.RowKit Sc
theorem caught_idle (p q : Value) (w : World) :
    CallsD Tryz.prog 57 #[p, q] .returning w fun e u' w' => e = .returned (.tuple #[]) ∧ u' = .returning ∧ w = w' := by
  refine callsD_of_wpS Tryz.func57 rfl fun c₀ cs hu => ?_
  simp only [Tryz.ntmps57, List.size_toArray, List.length_cons, List.length_nil, Nat.reduceAdd, Nat.reduceSub, Array.replicate_succ, Array.replicate_zero, List.push_toArray, List.append_toArray, List.nil_append, List.cons_append]
  apply wpS_seq
  apply wpS_region
  simp [wpOpsS, go_sem, recoverD, hu, Exit.thenS]
  refine wpS_of_wp ?_
  have he : ∀ w : World, (binOp .eql 20 .nilIface .nilIface).run Tryz.prog w = .ok (.bool true) w := fun w => by kernel_rfl
  go_wp2
  cases c₀
  simp_all [bodyPostS, results, Tryz.results57]
/-- the error of a cell, as it is raised -/
abbrev wrongV (e : Int) : Value := .iface 109 (.agg #[.int .i64 e])
/-- the world behind a caught error: no array, and the error -/
def caughtW (w : World) (A E : Nat) (e : Int) : World :=
  (((((((w.setCell ⟨A, 0, none⟩ (.int .i64 0)).setCell ⟨A, 1, none⟩ (.int .i64 0)).setCell ⟨A, 2, none⟩ (.int .i64 0)).setCell ⟨A, 3, none⟩ (.int .i64 0)).setCell ⟨A, 4, none⟩ (.slice none 0 0)).setCell
    ⟨E, 0, none⟩ (.int .i64 e)).alloc (.cells #[.int .i64 e] 109)).drew
set_option maxRecDepth 100000 in
theorem caught_panicking (A E : Nat) (e : Int) (k r l0 l1 : Value) (s : Value) (z : Value) (older : List PanicEntry) (w : World) (hAE : A ≠ E) (hA : A < w.heap.size) (hE : E < w.heap.size)
    (a0 : w.cell? ⟨A, 0, none⟩ = some k) (a1 : w.cell? ⟨A, 1, none⟩ = some r) (a2 : w.cell? ⟨A, 2, none⟩ = some l0) (a3 : w.cell? ⟨A, 3, none⟩ = some l1) (a4 : w.cell? ⟨A, 4, none⟩ = some s)
    (e0 : w.cell? ⟨E, 0, none⟩ = some z) (fa : ∀ i, w.frozen? ⟨A, i, none⟩ = false) (fe : w.frozen? ⟨E, 0, none⟩ = false) :
    CallsD Tryz.prog 57 #[.pointer (some ⟨A, 0, none⟩), .pointer (some ⟨E, 0, none⟩)] (.panicking ({ v := wrongV e, recovered := false } :: older)) w fun e' u' w' =>
      e' = .returned (.tuple #[]) ∧ u' = .panicking ({ v := wrongV e, recovered := true } :: older) ∧ w' = caughtW w A E e := by
  refine callsD_of_wpS Tryz.func57 rfl fun c₀ cs hu => ?_
  simp only [Tryz.ntmps57, List.size_toArray, List.length_cons, List.length_nil, Nat.reduceAdd, Nat.reduceSub, Array.replicate_succ, Array.replicate_zero, List.push_toArray, List.append_toArray, List.nil_append, List.cons_append]
  apply wpS_seq
  apply wpS_region
  simp [wpOpsS, go_sem, recoverD, hu, Exit.thenS]
  refine wpS_of_wp ?_
  have hta : ∀ w : World, (Instr.typeAssert (.iface 109 (.agg #[.int .i64 e])) 20 109 true).run Tryz.prog w = .ok (.tuple #[.agg #[.int .i64 e], .bool true]) w := fun w => by kernel_rfl
  go_wp2
  go_region
  all_goals go_wp2
  all_goals simp [bodyPostS, results, Tryz.results57, caughtW]
/-- block g holds n cells, the first of them the numbers ys -/
def Out (w : World) (g n : Nat) (ys : List Int) : Prop :=
  g < w.heap.size ∧ (∀ j, j < n → ∃ v, w.cell? ⟨g, j, none⟩ = some v) ∧ (∀ j, j < ys.length → w.cell? ⟨g, j, none⟩ = some (.int .i64 (ys.getD j 0))) ∧ ∀ j, w.frozen? ⟨g, j, none⟩ = false
theorem Out.below {w w' : World} {g n : Nat} {ys : List Int} (h : Out w g n ys) (hb : Below w.heap.size w w') : Out w' g n ys :=
  ⟨Nat.lt_of_lt_of_le h.1 hb.size, fun j hj => (h.2.1 j hj).imp fun v hv => (hb.cell (p := ⟨g, j, none⟩) h.1).trans hv,
    fun j hj => (hb.cell (p := ⟨g, j, none⟩) h.1).trans (h.2.2.1 j hj), fun j => (hb.frozen (p := ⟨g, j, none⟩) h.1).trans (h.2.2.2 j)⟩
theorem Out.set {w : World} {g n : Nat} {ys : List Int} (h : Out w g n ys) (hn : ys.length < n) (x : Int) : Out (w.setCell ⟨g, ys.length, none⟩ (.int .i64 x)) g n (ys ++ [x]) := by
  obtain ⟨v, hv⟩ := h.2.1 _ hn
  refine ⟨by simpa [World.setCell] using h.1, fun j hj => ?_, fun j hj => ?_, fun j => (World.frozen?_setCell _ _ _ _).trans (h.2.2.2 j)⟩
  · by_cases e : j = ys.length
    · subst e; exact ⟨_, World.cell?_setCell_same _ _ _ hv⟩
    · exact (h.2.1 j hj).imp fun u hu => (World.cell?_setCell_other _ _ _ _ (fun q => e (by injection q with _ q _; exact q.symm))).trans hu
  · by_cases e : j = ys.length
    · subst e; rw [World.cell?_setCell_same _ _ _ hv]; simp
    · have hj' : j < ys.length := by simp at hj; omega
      rw [World.cell?_setCell_other _ _ _ _ (fun q => e (by injection q with _ q _; exact q.symm)), h.2.2.1 j hj']
      simp [List.getD_eq_getElem?_getD, List.getElem?_append_left hj']
theorem Out.sl {w : World} {g : Nat} {ys : List Int} (h : Out w g ys.length ys) : Sl w (some ⟨g, 0, none⟩) ys := fun _ =>
  ⟨g, 0, rfl, h.1, fun j hj => by rw [Nat.zero_add]; exact h.2.2.1 j hj⟩
end Ar
end Go.Proofs.YtaelfhjdmljblaaGreatDoor
