/-
Contracts of extend.check, Lens, spread and of what they call (chapter 10).
-/
import Derived.Test.YtfpnafeildigaaaArV
set_option linter.unusedSimpArgs false
set_option linter.unusedVariables false
namespace Go.Proofs.Ytfpnafeildigaaa
namespace Ar
open Go.RowKit Sc

theorem chk2_bad {a b : Arr} (h : chk a ≠ 0) : chk2 a b = chk a := if_pos h
theorem chk2_ok {a b : Arr} (h : chk a = 0) : chk2 a b = chk b := if_neg (by simpa using h)
set_option maxHeartbeats 400000 in
theorem check2_any (a : Arr) (A : Option Addr) (c : Nat) (hla : a.xs.length ≤ 9223372036854775807) (f0a : Fits a.l0) (f1a : Fits a.l1) (b : Arr) (B : Option Addr) (d : Nat) (hlb : b.xs.length ≤ 9223372036854775807) (f0b : Fits b.l0) (f1b : Fits b.l1) (w : World) (hsa : Sl w A a.xs) (hsb : Sl w B b.xs) :
    Calls Try.prog 65 #[.agg #[.int .i64 a.k, .int .i64 a.r, .int .i64 a.l0, .int .i64 a.l1, .slice A a.xs.length c], .agg #[.int .i64 b.k, .int .i64 b.r, .int .i64 b.l0, .int .i64 b.l1, .slice B b.xs.length d]] w fun e w' => e = .returned (.int .i64 (chk2 a b)) ∧ Below w.heap.size w w' := by
  have HL := hide hla; have HM := hide hlb
  by_cases h1 : chk a = 0
  · rw [chk2_ok h1]
    have n1 : (chk a != 0) = false := by simpa using h1
    clear h1
    by_cases h2 : chk b = 0
    · have n2 : (chk b != 0) = false := by simpa using h2
      have H2 := hide h2
      clear h2
      go_enter Try.func65, Try.ntmps65
      go_wp2
      refine wp_loop_rounds 3 ?_
      rw [rounds_succ]; go_wp2_with (go_at_call 59; refine (ac_any a A c hla f0a f1a _ (hsa.below (by (repeat (first | with_reducible exact Below.refl _ _ | with_reducible assumption | (with_reducible refine bl_set ?_ (by simp; try omega) _) | (with_reducible refine bl_alloc ?_ _) | (with_reducible refine bl_dn ?_ _) | (with_reducible refine bl_drew ?_) | (with_reducible refine bl_then ?_ (by with_reducible assumption))))))).mono ?_; rintro e w1 ⟨rfl, hgw1⟩; obtain ⟨hcw1, hfw1, hzw1⟩ := bcell hgw1)
      rw [rounds_succ]; go_wp2_with (go_at_call 59; refine (ac_any b B d hlb f0b f1b _ (hsb.below (by (repeat (first | with_reducible exact Below.refl _ _ | with_reducible assumption | (with_reducible refine bl_set ?_ (by simp; try omega) _) | (with_reducible refine bl_alloc ?_ _) | (with_reducible refine bl_dn ?_ _) | (with_reducible refine bl_drew ?_) | (with_reducible refine bl_then ?_ (by with_reducible assumption))))))).mono ?_; rintro e w2 ⟨rfl, hgw2⟩; obtain ⟨hcw2, hfw2, hzw2⟩ := bcell hgw2)
      rw [rounds_succ]; go_wp2
      go_ret
      exact ⟨by rw [H2.out]; rfl, by (repeat (first | with_reducible exact Below.refl _ _ | with_reducible assumption | (with_reducible refine bl_set ?_ (by simp; try omega) _) | (with_reducible refine bl_alloc ?_ _) | (with_reducible refine bl_dn ?_ _) | (with_reducible refine bl_drew ?_) | (with_reducible refine bl_then ?_ (by with_reducible assumption))))⟩
    · have n2 : (chk b != 0) = true := by simpa using h2
      clear h2
      go_enter Try.func65, Try.ntmps65
      go_wp2
      refine wp_loop_rounds 3 ?_
      rw [rounds_succ]; go_wp2_with (go_at_call 59; refine (ac_any a A c hla f0a f1a _ (hsa.below (by (repeat (first | with_reducible exact Below.refl _ _ | with_reducible assumption | (with_reducible refine bl_set ?_ (by simp; try omega) _) | (with_reducible refine bl_alloc ?_ _) | (with_reducible refine bl_dn ?_ _) | (with_reducible refine bl_drew ?_) | (with_reducible refine bl_then ?_ (by with_reducible assumption))))))).mono ?_; rintro e w1 ⟨rfl, hgw1⟩; obtain ⟨hcw1, hfw1, hzw1⟩ := bcell hgw1)
      rw [rounds_succ]; go_wp2_with (go_at_call 59; refine (ac_any b B d hlb f0b f1b _ (hsb.below (by (repeat (first | with_reducible exact Below.refl _ _ | with_reducible assumption | (with_reducible refine bl_set ?_ (by simp; try omega) _) | (with_reducible refine bl_alloc ?_ _) | (with_reducible refine bl_dn ?_ _) | (with_reducible refine bl_drew ?_) | (with_reducible refine bl_then ?_ (by with_reducible assumption))))))).mono ?_; rintro e w2 ⟨rfl, hgw2⟩; obtain ⟨hcw2, hfw2, hzw2⟩ := bcell hgw2)
      go_ret
      exact ⟨rfl, by (repeat (first | with_reducible exact Below.refl _ _ | with_reducible assumption | (with_reducible refine bl_set ?_ (by simp; try omega) _) | (with_reducible refine bl_alloc ?_ _) | (with_reducible refine bl_dn ?_ _) | (with_reducible refine bl_drew ?_) | (with_reducible refine bl_then ?_ (by with_reducible assumption))))⟩
  · rw [chk2_bad h1]
    have n1 : (chk a != 0) = true := by simpa using h1
    clear h1
    go_enter Try.func65, Try.ntmps65
    go_wp2
    refine wp_loop_rounds 3 ?_
    rw [rounds_succ]; go_wp2_with (go_at_call 59; refine (ac_any a A c hla f0a f1a _ (hsa.below (by (repeat (first | with_reducible exact Below.refl _ _ | with_reducible assumption | (with_reducible refine bl_set ?_ (by simp; try omega) _) | (with_reducible refine bl_alloc ?_ _) | (with_reducible refine bl_dn ?_ _) | (with_reducible refine bl_drew ?_) | (with_reducible refine bl_then ?_ (by with_reducible assumption))))))).mono ?_; rintro e w1 ⟨rfl, hgw1⟩; obtain ⟨hcw1, hfw1, hzw1⟩ := bcell hgw1)
    go_ret
    exact ⟨rfl, by (repeat (first | with_reducible exact Below.refl _ _ | with_reducible assumption | (with_reducible refine bl_set ?_ (by simp; try omega) _) | (with_reducible refine bl_alloc ?_ _) | (with_reducible refine bl_dn ?_ _) | (with_reducible refine bl_drew ?_) | (with_reducible refine bl_then ?_ (by with_reducible assumption))))⟩

theorem spread_0 (a : Arr) (A : Option Addr) (c : Nat) (h : a.r = 0) (w : World) : Calls Try.prog 67 #[.agg #[.int .i64 a.k, .int .i64 a.r, .int .i64 a.l0, .int .i64 a.l1, .slice A a.xs.length c]] w fun e w' => e = .returned (.func (.func 102) #[] #[.pointer (some ⟨w.heap.size, 0, none⟩)]) ∧
    w' = w.alloc (.cells #[.int .i64 a.k, .int .i64 a.r, .int .i64 a.l0, .int .i64 a.l1, .slice A a.xs.length c] 25) := by
  have n1 : (a.r == 0) = true := by simpa using h
  clear h
  have hmf : ∀ (fn : Fn) (first cap : Array Value) (w : World), (Instr.makeFunc fn first cap).run Try.prog w = .ok (.func fn first cap) w := fun _ _ _ _ => rfl
  go_enter Try.func67, Try.ntmps67
  go_wp2
  go_ret
  exact ⟨rfl, rfl⟩
theorem spread_n (a : Arr) (A : Option Addr) (c : Nat) (h : a.r ≠ 0) (w : World) : Calls Try.prog 67 #[.agg #[.int .i64 a.k, .int .i64 a.r, .int .i64 a.l0, .int .i64 a.l1, .slice A a.xs.length c]] w fun e w' => e = .returned (.func (.func 103) #[] #[.pointer (some ⟨w.heap.size, 0, none⟩)]) ∧
    w' = w.alloc (.cells #[.int .i64 a.k, .int .i64 a.r, .int .i64 a.l0, .int .i64 a.l1, .slice A a.xs.length c] 25) := by
  have n1 : (a.r == 0) = false := by simpa using h
  clear h
  have hmf : ∀ (fn : Fn) (first cap : Array Value) (w : World), (Instr.makeFunc fn first cap).run Try.prog w = .ok (.func fn first cap) w := fun _ _ _ _ => rfl
  go_enter Try.func67, Try.ntmps67
  go_wp2
  go_ret
  exact ⟨rfl, rfl⟩
theorem spread1_any (xs : List Int) (A : Option Addr) (c k Q : Nat) (x : Int) (w : World) (hk : 0 < xs.length) (hl : xs.length ≤ 9223372036854775807)
    (hQ : w.cell? ⟨Q, 4, none⟩ = some (.slice A xs.length c)) (hs : Sl w A xs) (hx : xs.getD 0 0 = x) :
    Calls Try.prog 102 #[.int .i64 k, .pointer (some ⟨Q, 0, none⟩)] w fun e w' => e = .returned (.int .i64 x) ∧ w = w' := by
  obtain ⟨b, o, x', rfl, hb, hc, hx'⟩ := hs.at_ hk
  have e : x' = x := hx'.out.symm.trans hx
  subst e
  clear hx hs hx'
  have hc0 : w.cell? ⟨b, o, none⟩ = some (.int .i64 x') := hc
  clear hc
  go_enter Try.func102, Try.ntmps102
  go_wp2
  go_ret
  exact ⟨rfl, rfl⟩
theorem spread2_any (xs : List Int) (A : Option Addr) (c k Q : Nat) (x : Int) (w : World) (hk : k < xs.length) (hl : xs.length ≤ 9223372036854775807)
    (hQ : w.cell? ⟨Q, 4, none⟩ = some (.slice A xs.length c)) (hs : Sl w A xs) (hx : xs.getD k 0 = x) :
    Calls Try.prog 103 #[.int .i64 k, .pointer (some ⟨Q, 0, none⟩)] w fun e w' => e = .returned (.int .i64 x) ∧ w = w' := by
  obtain ⟨b, o, x', rfl, hb, hc, hx'⟩ := hs.at_ hk
  have e : x' = x := hx'.out.symm.trans hx
  subst e
  clear hx hs hx'
  go_enter Try.func103, Try.ntmps103
  go_wp2
  go_ret
  exact ⟨rfl, rfl⟩
def isEq (p : Int) : Bool := p == 23 || p == 24
set_option maxHeartbeats 400000 in
theorem index_eq (p : Int) (g : Nat) (w : World) (h0 : w.cell? ⟨g, 0, none⟩ = some (.int .i64 23)) (h1 : w.cell? ⟨g, 1, none⟩ = some (.int .i64 24)) :
    Calls Try.prog 101 #[.slice (some ⟨g, 0, none⟩) 2 2, .int .i64 p] w fun e w' => ∃ i : Int, e = .returned (.int .i64 i) ∧ Hid (decide (0 ≤ i) = isEq p) ∧ w = w' := by
  by_cases a : p = 23
  · have n1 : (p == 23) = true := by simpa using a
    have H : Hid (isEq p = true) := by show _ = _; unfold isEq; rw [n1]; rfl
    clear a
    go_enter Try.func101, Try.ntmps101
    go_wp2
    refine wp_loop_rounds 3 ?_
    rw [rounds_succ]; go_wp2
    go_ret
    exact ⟨_, rfl, (show _ = _ from by rw [H.out]; rfl), rfl⟩
  · have n1 : (p == 23) = false := by simpa using a
    clear a
    by_cases b : p = 24
    · have n2 : (p == 24) = true := by simpa using b
      have H : Hid (isEq p = true) := by show _ = _; unfold isEq; rw [n2]; simp
      clear b
      go_enter Try.func101, Try.ntmps101
      go_wp2
      refine wp_loop_rounds 3 ?_
      rw [rounds_succ]; go_wp2
      rw [rounds_succ]; go_wp2
      go_ret
      exact ⟨_, rfl, (show _ = _ from by rw [H.out]; rfl), rfl⟩
    · have n2 : (p == 24) = false := by simpa using b
      have H : Hid (isEq p = false) := by show _ = _; unfold isEq; rw [n1, n2]; rfl
      clear b
      go_enter Try.func101, Try.ntmps101
      go_wp2
      refine wp_loop_rounds 3 ?_
      rw [rounds_succ]; go_wp2
      rw [rounds_succ]; go_wp2
      rw [rounds_succ]; go_wp2
      go_ret
      exact ⟨_, rfl, (show _ = _ from by rw [H.out]; rfl), rfl⟩
theorem contains_eq (p : Int) (g : Nat) (w : World) (h0 : w.cell? ⟨g, 0, none⟩ = some (.int .i64 23)) (h1 : w.cell? ⟨g, 1, none⟩ = some (.int .i64 24)) :
    Calls Try.prog 66 #[.slice (some ⟨g, 0, none⟩) 2 2, .int .i64 p] w fun e w' => e = .returned (.bool (isEq p)) ∧ w = w' := by
  go_enter Try.func66, Try.ntmps66
  go_wp2_with (go_at_call 101; refine (index_eq p g _ h0 h1).mono ?_; rintro e w' ⟨i, rfl, hi, rfl⟩)
  go_ret
  exact ⟨by rw [← hi.out]; rfl, rfl⟩
end Ar
end Go.Proofs.Ytfpnafeildigaaa
