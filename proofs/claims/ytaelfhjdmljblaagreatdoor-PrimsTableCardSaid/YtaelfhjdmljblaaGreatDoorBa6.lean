/-
Contracts of extend.check, Lens, spread and of what they call (chapter 10).
-/
import Derived.Test.YtaelfhjdmljblaaGreatDoorBa5
import Derived.BigRegion
set_option linter.unusedSimpArgs false
set_option linter.unusedVariables false
namespace Go.Proofs.YtaelfhjdmljblaaGreatDoor
namespace Ar
open Go.RowKit Sc
theorem chk2_bad {a b : Arr} (h : chk a ≠ 0) : chk2 a b = chk a := if_pos h
theorem chk2_ok {a b : Arr} (h : chk a = 0) : chk2 a b = chk b := if_neg (by simpa using h)
set_option maxHeartbeats 400000 in
theorem check2_any (a : Arr) (A : Option Addr) (c : Nat) (hla : a.xs.length ≤ 9223372036854775807) (f0a : Fits a.l0) (f1a : Fits a.l1) (b : Arr) (B : Option Addr) (d : Nat) (hlb : b.xs.length ≤ 9223372036854775807) (f0b : Fits b.l0) (f1b : Fits b.l1) (w : World) (hsa : Sl w A a.xs) (hsb : Sl w B b.xs) :
    Calls Tryz.prog 61 #[.agg #[.int .i64 a.k, .int .i64 a.r, .int .i64 a.l0, .int .i64 a.l1, .slice A a.xs.length c], .agg #[.int .i64 b.k, .int .i64 b.r, .int .i64 b.l0, .int .i64 b.l1, .slice B b.xs.length d]] w fun e w' => e = .returned (.int .i64 (chk2 a b)) ∧ Below w.heap.size w w' := by
  have HL := hide hla; have HM := hide hlb
  by_cases h1 : chk a = 0
  · rw [chk2_ok h1]
    have n1 : (chk a != 0) = false := by simpa using h1
    clear h1
    by_cases h2 : chk b = 0
    · have n2 : (chk b != 0) = false := by simpa using h2
      have H2 := hide h2
      clear h2
      go_enter Tryz.func61, Tryz.ntmps61
      go_wp2
      refine wp_loop_rounds 3 ?_
      rw [rounds_succ]; go_wp2_with (go_at_call 38; refine (ac_any a A c hla f0a f1a _ (hsa.below (by (repeat (first | with_reducible exact Below.refl _ _ | with_reducible assumption | (with_reducible refine bl_set ?_ (by simp; try omega) _) | (with_reducible refine bl_alloc ?_ _) | (with_reducible refine bl_dn ?_ _) | (with_reducible refine bl_drew ?_) | (with_reducible refine bl_then ?_ (by with_reducible assumption))))))).mono ?_; rintro e w1 ⟨rfl, hgw1⟩; obtain ⟨hcw1, hfw1, hzw1⟩ := bcell hgw1)
      rw [rounds_succ]; go_wp2_with (go_at_call 38; refine (ac_any b B d hlb f0b f1b _ (hsb.below (by (repeat (first | with_reducible exact Below.refl _ _ | with_reducible assumption | (with_reducible refine bl_set ?_ (by simp; try omega) _) | (with_reducible refine bl_alloc ?_ _) | (with_reducible refine bl_dn ?_ _) | (with_reducible refine bl_drew ?_) | (with_reducible refine bl_then ?_ (by with_reducible assumption))))))).mono ?_; rintro e w2 ⟨rfl, hgw2⟩; obtain ⟨hcw2, hfw2, hzw2⟩ := bcell hgw2)
      rw [rounds_succ]; go_wp2
      go_ret
      exact ⟨by rw [H2.out]; rfl, by (repeat (first | with_reducible exact Below.refl _ _ | with_reducible assumption | (with_reducible refine bl_set ?_ (by simp; try omega) _) | (with_reducible refine bl_alloc ?_ _) | (with_reducible refine bl_dn ?_ _) | (with_reducible refine bl_drew ?_) | (with_reducible refine bl_then ?_ (by with_reducible assumption))))⟩
    · have n2 : (chk b != 0) = true := by simpa using h2
      clear h2
      go_enter Tryz.func61, Tryz.ntmps61
      go_wp2
      refine wp_loop_rounds 3 ?_
      rw [rounds_succ]; go_wp2_with (go_at_call 38; refine (ac_any a A c hla f0a f1a _ (hsa.below (by (repeat (first | with_reducible exact Below.refl _ _ | with_reducible assumption | (with_reducible refine bl_set ?_ (by simp; try omega) _) | (with_reducible refine bl_alloc ?_ _) | (with_reducible refine bl_dn ?_ _) | (with_reducible refine bl_drew ?_) | (with_reducible refine bl_then ?_ (by with_reducible assumption))))))).mono ?_; rintro e w1 ⟨rfl, hgw1⟩; obtain ⟨hcw1, hfw1, hzw1⟩ := bcell hgw1)
      rw [rounds_succ]; go_wp2_with (go_at_call 38; refine (ac_any b B d hlb f0b f1b _ (hsb.below (by (repeat (first | with_reducible exact Below.refl _ _ | with_reducible assumption | (with_reducible refine bl_set ?_ (by simp; try omega) _) | (with_reducible refine bl_alloc ?_ _) | (with_reducible refine bl_dn ?_ _) | (with_reducible refine bl_drew ?_) | (with_reducible refine bl_then ?_ (by with_reducible assumption))))))).mono ?_; rintro e w2 ⟨rfl, hgw2⟩; obtain ⟨hcw2, hfw2, hzw2⟩ := bcell hgw2)
      go_ret
      exact ⟨rfl, by (repeat (first | with_reducible exact Below.refl _ _ | with_reducible assumption | (with_reducible refine bl_set ?_ (by simp; try omega) _) | (with_reducible refine bl_alloc ?_ _) | (with_reducible refine bl_dn ?_ _) | (with_reducible refine bl_drew ?_) | (with_reducible refine bl_then ?_ (by with_reducible assumption))))⟩
  · rw [chk2_bad h1]
    have n1 : (chk a != 0) = true := by simpa using h1
    clear h1
    go_enter Tryz.func61, Tryz.ntmps61
    go_wp2
    refine wp_loop_rounds 3 ?_
    rw [rounds_succ]; go_wp2_with (go_at_call 38; refine (ac_any a A c hla f0a f1a _ (hsa.below (by (repeat (first | with_reducible exact Below.refl _ _ | with_reducible assumption | (with_reducible refine bl_set ?_ (by simp; try omega) _) | (with_reducible refine bl_alloc ?_ _) | (with_reducible refine bl_dn ?_ _) | (with_reducible refine bl_drew ?_) | (with_reducible refine bl_then ?_ (by with_reducible assumption))))))).mono ?_; rintro e w1 ⟨rfl, hgw1⟩; obtain ⟨hcw1, hfw1, hzw1⟩ := bcell hgw1)
    go_ret
    exact ⟨rfl, by (repeat (first | with_reducible exact Below.refl _ _ | with_reducible assumption | (with_reducible refine bl_set ?_ (by simp; try omega) _) | (with_reducible refine bl_alloc ?_ _) | (with_reducible refine bl_dn ?_ _) | (with_reducible refine bl_drew ?_) | (with_reducible refine bl_then ?_ (by with_reducible assumption))))⟩
theorem spread_0 (a : Arr) (A : Option Addr) (c : Nat) (h : a.r = 0) (w : World) : Calls Tryz.prog 64 #[.agg #[.int .i64 a.k, .int .i64 a.r, .int .i64 a.l0, .int .i64 a.l1, .slice A a.xs.length c]] w fun e w' => e = .returned (.func (.func 118) #[] #[.pointer (some ⟨w.heap.size, 0, none⟩)]) ∧
    w' = w.alloc (.cells #[.int .i64 a.k, .int .i64 a.r, .int .i64 a.l0, .int .i64 a.l1, .slice A a.xs.length c] 33) := by
  have n1 : (a.r == 0) = true := by simpa using h
  clear h
  have hmf : ∀ (fn : Fn) (first cap : Array Value) (w : World), (Instr.makeFunc fn first cap).run Tryz.prog w = .ok (.func fn first cap) w := fun _ _ _ _ => rfl
  go_enter Tryz.func64, Tryz.ntmps64
  go_wp2
  go_ret
  exact ⟨rfl, rfl⟩
theorem spread_n (a : Arr) (A : Option Addr) (c : Nat) (h : a.r ≠ 0) (w : World) : Calls Tryz.prog 64 #[.agg #[.int .i64 a.k, .int .i64 a.r, .int .i64 a.l0, .int .i64 a.l1, .slice A a.xs.length c]] w fun e w' => e = .returned (.func (.func 119) #[] #[.pointer (some ⟨w.heap.size, 0, none⟩)]) ∧
    w' = w.alloc (.cells #[.int .i64 a.k, .int .i64 a.r, .int .i64 a.l0, .int .i64 a.l1, .slice A a.xs.length c] 33) := by
  have n1 : (a.r == 0) = false := by simpa using h
  clear h
  have hmf : ∀ (fn : Fn) (first cap : Array Value) (w : World), (Instr.makeFunc fn first cap).run Tryz.prog w = .ok (.func fn first cap) w := fun _ _ _ _ => rfl
  go_enter Tryz.func64, Tryz.ntmps64
  go_wp2
  go_ret
  exact ⟨rfl, rfl⟩
theorem spread1_any (xs : List Int) (A : Option Addr) (c k Q : Nat) (x : Int) (w : World) (hk : 0 < xs.length) (hl : xs.length ≤ 9223372036854775807)
    (hQ : w.cell? ⟨Q, 4, none⟩ = some (.slice A xs.length c)) (hs : Sl w A xs) (hx : xs.getD 0 0 = x) :
    Calls Tryz.prog 118 #[.int .i64 k, .pointer (some ⟨Q, 0, none⟩)] w fun e w' => e = .returned (.int .i64 x) ∧ w = w' := by
  obtain ⟨b, o, x', rfl, hb, hc, hx'⟩ := hs.at_ hk
  have e : x' = x := hx'.out.symm.trans hx
  subst e
  clear hx hs hx'
  have hc0 : w.cell? ⟨b, o, none⟩ = some (.int .i64 x') := hc
  clear hc
  go_enter Tryz.func118, Tryz.ntmps118
  go_wp2
  go_ret
  exact ⟨rfl, rfl⟩
theorem spread2_any (xs : List Int) (A : Option Addr) (c k Q : Nat) (x : Int) (w : World) (hk : k < xs.length) (hl : xs.length ≤ 9223372036854775807)
    (hQ : w.cell? ⟨Q, 4, none⟩ = some (.slice A xs.length c)) (hs : Sl w A xs) (hx : xs.getD k 0 = x) :
    Calls Tryz.prog 119 #[.int .i64 k, .pointer (some ⟨Q, 0, none⟩)] w fun e w' => e = .returned (.int .i64 x) ∧ w = w' := by
  obtain ⟨b, o, x', rfl, hb, hc, hx'⟩ := hs.at_ hk
  have e : x' = x := hx'.out.symm.trans hx
  subst e
  clear hx hs hx'
  go_enter Tryz.func119, Tryz.ntmps119
  go_wp2
  go_ret
  exact ⟨rfl, rfl⟩
def isEq (p : Int) : Bool := p == 23 || p == 24
set_option maxHeartbeats 400000 in
theorem index_eq (p : Int) (g : Nat) (w : World) (h0 : w.cell? ⟨g, 0, none⟩ = some (.int .i64 23)) (h1 : w.cell? ⟨g, 1, none⟩ = some (.int .i64 24)) :
    Calls Tryz.prog 117 #[.slice (some ⟨g, 0, none⟩) 2 2, .int .i64 p] w fun e w' => ∃ i : Int, e = .returned (.int .i64 i) ∧ Hid (decide (0 ≤ i) = isEq p) ∧ w = w' := by
  by_cases a : p = 23
  · have n1 : (p == 23) = true := by simpa using a
    have H : Hid (isEq p = true) := by show _ = _; unfold isEq; rw [n1]; rfl
    clear a
    go_enter Tryz.func117, Tryz.ntmps117
    go_wp2
    refine wp_loop_rounds 3 ?_
    rw [rounds_succ]; go_wp2
    go_ret
    exact ⟨_, rfl, (show _ = _ from by rw [H.out]; rfl), rfl⟩
  · have n1 : (p == 23) = false := by simpa using a
    clear a
    by_cases b : p = 24
    · have n2 : (p == 24) = true := by simpa using b
      have H : Hid (isEq p = true) := by show _ = _; unfold isEq; rw [n2]; simp
      clear b
      go_enter Tryz.func117, Tryz.ntmps117
      go_wp2
      refine wp_loop_rounds 3 ?_
      rw [rounds_succ]; go_wp2
      rw [rounds_succ]; go_wp2
      go_ret
      exact ⟨_, rfl, (show _ = _ from by rw [H.out]; rfl), rfl⟩
    · have n2 : (p == 24) = false := by simpa using b
      have H : Hid (isEq p = false) := by show _ = _; unfold isEq; rw [n1, n2]; rfl
      clear b
      go_enter Tryz.func117, Tryz.ntmps117
      go_wp2
      refine wp_loop_rounds 3 ?_
      rw [rounds_succ]; go_wp2
      rw [rounds_succ]; go_wp2
      rw [rounds_succ]; go_wp2
      go_ret
      exact ⟨_, rfl, (show _ = _ from by rw [H.out]; rfl), rfl⟩
theorem contains_eq (p : Int) (g : Nat) (w : World) (h0 : w.cell? ⟨g, 0, none⟩ = some (.int .i64 23)) (h1 : w.cell? ⟨g, 1, none⟩ = some (.int .i64 24)) :
    Calls Tryz.prog 62 #[.slice (some ⟨g, 0, none⟩) 2 2, .int .i64 p] w fun e w' => e = .returned (.bool (isEq p)) ∧ w = w' := by
  go_enter Tryz.func62, Tryz.ntmps62
  go_wp2_with (go_at_call 117; refine (index_eq p g _ h0 h1).mono ?_; rintro e w' ⟨i, rfl, hi, rfl⟩)
  go_ret
  exact ⟨by rw [← hi.out]; rfl, rfl⟩
end Ar
end Go.Proofs.YtaelfhjdmljblaaGreatDoor
/-
Contracts of extend.Lens, of the program and of the reference (chapter 10).
-/
set_option linter.unusedSimpArgs false
set_option linter.unusedVariables false
namespace Go.Proofs.YtaelfhjdmljblaaGreatDoor
namespace Ar
open Go.RowKit Sc
abbrev lensRet (r : Int × Int × Int × Int) : Ending := .returned (.tuple #[.int .i64 r.2.1, .agg #[.int .i64 r.2.2.1, .int .i64 r.2.2.2], .int .i64 r.1])
theorem neq_lens (a b c d : Int) (w : World) : (binOp .neq 30 (.agg #[.int .i64 a, .int .i64 b]) (.agg #[.int .i64 c, .int .i64 d])).run Tryz.prog w = .ok (.bool (!(a == c && b == d))) w := by
  obtain ⟨i0, hi, _, hz, _⟩ := info_parts info_int
  rw [run_neq_struct, run_eql_arr2 _ _ Tryz.underlying30 Tryz.underlying3 hi hz, Result.andThen_ok]
set_option maxHeartbeats 1000000 in
theorem lens_bad (a : Arr) (A : Option Addr) (c : Nat) (hla : a.xs.length ≤ 9223372036854775807) (f0a : Fits a.l0) (f1a : Fits a.l1) (b : Arr) (B : Option Addr) (d : Nat) (hlb : b.xs.length ≤ 9223372036854775807) (f0b : Fits b.l0) (f1b : Fits b.l1) (h : chk2 a b ≠ 0) (w : World) (hsa : Sl w A a.xs) (hsb : Sl w B b.xs) :
    Calls Tryz.prog 63 #[.agg #[.int .i64 a.k, .int .i64 a.r, .int .i64 a.l0, .int .i64 a.l1, .slice A a.xs.length c], .agg #[.int .i64 b.k, .int .i64 b.r, .int .i64 b.l0, .int .i64 b.l1, .slice B b.xs.length d]] w fun e w' => e = lensRet (chk2 a b, 0, 0, 0) ∧ Below w.heap.size w w' := by
  have n1 : (chk2 a b != 0) = true := by simpa using h
  clear h
  go_enter Tryz.func63, Tryz.ntmps63
  go_wp2_with (go_at_call 61; refine (check2_any a A c hla f0a f1a b B d hlb f0b f1b _ (hsa.below (by (repeat (first | with_reducible exact Below.refl _ _ | with_reducible assumption | (with_reducible refine bl_set ?_ (by simp; try omega) _) | (with_reducible refine bl_alloc ?_ _) | (with_reducible refine bl_dn ?_ _) | (with_reducible refine bl_drew ?_) | (with_reducible refine bl_then ?_ (by with_reducible assumption)))))) (hsb.below (by (repeat (first | with_reducible exact Below.refl _ _ | with_reducible assumption | (with_reducible refine bl_set ?_ (by simp; try omega) _) | (with_reducible refine bl_alloc ?_ _) | (with_reducible refine bl_dn ?_ _) | (with_reducible refine bl_drew ?_) | (with_reducible refine bl_then ?_ (by with_reducible assumption))))))).mono ?_; rintro e w1 ⟨rfl, hg⟩; obtain ⟨hc, hf, hz⟩ := bcell hg; (have zw2 : w.heap.size + 1 + 1 < w1.heap.size := by have := hg.size; simp at this; omega))
  exact bodyPost_ret (v := .tuple #[.int .i64 0, .agg #[.int .i64 0, .int .i64 0], .int .i64 (chk2 a b)]) (by simp [results, Tryz.results63, go_sem, hc, hf, hz, zw2]) rfl ⟨rfl, by (repeat (first | with_reducible exact Below.refl _ _ | with_reducible assumption | (with_reducible refine bl_set ?_ (by simp; try omega) _) | (with_reducible refine bl_alloc ?_ _) | (with_reducible refine bl_dn ?_ _) | (with_reducible refine bl_drew ?_) | (with_reducible refine bl_then ?_ (by with_reducible assumption))))⟩
set_option maxHeartbeats 1000000 in
theorem lens_a0 (a : Arr) (A : Option Addr) (c : Nat) (hla : a.xs.length ≤ 9223372036854775807) (f0a : Fits a.l0) (f1a : Fits a.l1) (b : Arr) (B : Option Addr) (d : Nat) (hlb : b.xs.length ≤ 9223372036854775807) (f0b : Fits b.l0) (f1b : Fits b.l1) (h : chk2 a b = 0) (h0 : a.r = 0) (w : World) (hsa : Sl w A a.xs) (hsb : Sl w B b.xs) :
    Calls Tryz.prog 63 #[.agg #[.int .i64 a.k, .int .i64 a.r, .int .i64 a.l0, .int .i64 a.l1, .slice A a.xs.length c], .agg #[.int .i64 b.k, .int .i64 b.r, .int .i64 b.l0, .int .i64 b.l1, .slice B b.xs.length d]] w fun e w' => e = lensRet (0, b.r, b.l0, b.l1) ∧ Below w.heap.size w w' := by
  have n1 : (chk2 a b != 0) = false := by simpa using h
  have n2 : (a.r == 0) = true := by simpa using h0
  clear h0
  have neqs := fun (p q r s : Int) (w : World) => neq_lens p q r s w
  clear h
  go_enter Tryz.func63, Tryz.ntmps63
  go_wp2_with (go_at_call 61; refine (check2_any a A c hla f0a f1a b B d hlb f0b f1b _ (hsa.below (by (repeat (first | with_reducible exact Below.refl _ _ | with_reducible assumption | (with_reducible refine bl_set ?_ (by simp; try omega) _) | (with_reducible refine bl_alloc ?_ _) | (with_reducible refine bl_dn ?_ _) | (with_reducible refine bl_drew ?_) | (with_reducible refine bl_then ?_ (by with_reducible assumption)))))) (hsb.below (by (repeat (first | with_reducible exact Below.refl _ _ | with_reducible assumption | (with_reducible refine bl_set ?_ (by simp; try omega) _) | (with_reducible refine bl_alloc ?_ _) | (with_reducible refine bl_dn ?_ _) | (with_reducible refine bl_drew ?_) | (with_reducible refine bl_then ?_ (by with_reducible assumption))))))).mono ?_; rintro e w1 ⟨rfl, hg⟩; obtain ⟨hc, hf, hz⟩ := bcell hg; (have zw0 : w.heap.size < w1.heap.size := by have := hg.size; simp at this; omega); (have zw1 : w.heap.size + 1 < w1.heap.size := by have := hg.size; simp at this; omega); (have zw2 : w.heap.size + 1 + 1 < w1.heap.size := by have := hg.size; simp at this; omega))
  go_region_held3 (fun w' => w'.cell? ⟨w.heap.size + 1, 1, none⟩ = some (.int .i64 b.r) ∧ w'.cell? ⟨w.heap.size + 1, 2, none⟩ = some (.int .i64 b.l0) ∧ w'.cell? ⟨w.heap.size + 1, 3, none⟩ = some (.int .i64 b.l1)) (simp [go_sem, *]) (fail)
  go_wp2
  exact bodyPost_ret (v := .tuple #[.int .i64 b.r, .agg #[.int .i64 b.l0, .int .i64 b.l1], .int .i64 0]) (by simp [results, Tryz.results63, go_sem, hc, hf, hz, zw0, zw1, zw2]) rfl ⟨rfl, by (repeat (first | with_reducible exact Below.refl _ _ | with_reducible assumption | (with_reducible refine bl_set ?_ (by simp; try omega) _) | (with_reducible refine bl_alloc ?_ _) | (with_reducible refine bl_dn ?_ _) | (with_reducible refine bl_drew ?_) | (with_reducible refine bl_then ?_ (by with_reducible assumption))))⟩
set_option maxHeartbeats 1000000 in
theorem lens_b0 (a : Arr) (A : Option Addr) (c : Nat) (hla : a.xs.length ≤ 9223372036854775807) (f0a : Fits a.l0) (f1a : Fits a.l1) (b : Arr) (B : Option Addr) (d : Nat) (hlb : b.xs.length ≤ 9223372036854775807) (f0b : Fits b.l0) (f1b : Fits b.l1) (h : chk2 a b = 0) (h0 : a.r ≠ 0) (h1 : b.r = 0) (w : World) (hsa : Sl w A a.xs) (hsb : Sl w B b.xs) :
    Calls Tryz.prog 63 #[.agg #[.int .i64 a.k, .int .i64 a.r, .int .i64 a.l0, .int .i64 a.l1, .slice A a.xs.length c], .agg #[.int .i64 b.k, .int .i64 b.r, .int .i64 b.l0, .int .i64 b.l1, .slice B b.xs.length d]] w fun e w' => e = lensRet (0, a.r, a.l0, a.l1) ∧ Below w.heap.size w w' := by
  have n1 : (chk2 a b != 0) = false := by simpa using h
  have n2 : (a.r == 0) = false := by simpa using h0
  have n3 : (b.r == 0) = true := by simpa using h1
  clear h0 h1
  have neqs := fun (p q r s : Int) (w : World) => neq_lens p q r s w
  clear h
  go_enter Tryz.func63, Tryz.ntmps63
  go_wp2_with (go_at_call 61; refine (check2_any a A c hla f0a f1a b B d hlb f0b f1b _ (hsa.below (by (repeat (first | with_reducible exact Below.refl _ _ | with_reducible assumption | (with_reducible refine bl_set ?_ (by simp; try omega) _) | (with_reducible refine bl_alloc ?_ _) | (with_reducible refine bl_dn ?_ _) | (with_reducible refine bl_drew ?_) | (with_reducible refine bl_then ?_ (by with_reducible assumption)))))) (hsb.below (by (repeat (first | with_reducible exact Below.refl _ _ | with_reducible assumption | (with_reducible refine bl_set ?_ (by simp; try omega) _) | (with_reducible refine bl_alloc ?_ _) | (with_reducible refine bl_dn ?_ _) | (with_reducible refine bl_drew ?_) | (with_reducible refine bl_then ?_ (by with_reducible assumption))))))).mono ?_; rintro e w1 ⟨rfl, hg⟩; obtain ⟨hc, hf, hz⟩ := bcell hg; (have zw0 : w.heap.size < w1.heap.size := by have := hg.size; simp at this; omega); (have zw1 : w.heap.size + 1 < w1.heap.size := by have := hg.size; simp at this; omega); (have zw2 : w.heap.size + 1 + 1 < w1.heap.size := by have := hg.size; simp at this; omega))
  go_region_held3 (fun w' => w'.cell? ⟨w.heap.size, 1, none⟩ = some (.int .i64 a.r) ∧ w'.cell? ⟨w.heap.size, 2, none⟩ = some (.int .i64 a.l0) ∧ w'.cell? ⟨w.heap.size, 3, none⟩ = some (.int .i64 a.l1)) (simp [go_sem, *]) (fail)
  go_wp2
  exact bodyPost_ret (v := .tuple #[.int .i64 a.r, .agg #[.int .i64 a.l0, .int .i64 a.l1], .int .i64 0]) (by simp [results, Tryz.results63, go_sem, hc, hf, hz, zw0, zw1, zw2]) rfl ⟨rfl, by (repeat (first | with_reducible exact Below.refl _ _ | with_reducible assumption | (with_reducible refine bl_set ?_ (by simp; try omega) _) | (with_reducible refine bl_alloc ?_ _) | (with_reducible refine bl_dn ?_ _) | (with_reducible refine bl_drew ?_) | (with_reducible refine bl_then ?_ (by with_reducible assumption))))⟩
set_option maxHeartbeats 1000000 in
theorem lens_r (a : Arr) (A : Option Addr) (c : Nat) (hla : a.xs.length ≤ 9223372036854775807) (f0a : Fits a.l0) (f1a : Fits a.l1) (b : Arr) (B : Option Addr) (d : Nat) (hlb : b.xs.length ≤ 9223372036854775807) (f0b : Fits b.l0) (f1b : Fits b.l1) (h : chk2 a b = 0) (h0 : a.r ≠ 0) (h1 : b.r ≠ 0) (h2 : a.r ≠ b.r) (w : World) (hsa : Sl w A a.xs) (hsb : Sl w B b.xs) :
    Calls Tryz.prog 63 #[.agg #[.int .i64 a.k, .int .i64 a.r, .int .i64 a.l0, .int .i64 a.l1, .slice A a.xs.length c], .agg #[.int .i64 b.k, .int .i64 b.r, .int .i64 b.l0, .int .i64 b.l1, .slice B b.xs.length d]] w fun e w' => e = lensRet (22, 0, 0, 0) ∧ Below w.heap.size w w' := by
  have n1 : (chk2 a b != 0) = false := by simpa using h
  have n2 : (a.r == 0) = false := by simpa using h0
  have n3 : (b.r == 0) = false := by simpa using h1
  have n4 : (a.r != b.r) = true := by simpa using h2
  clear h0 h1 h2
  have neqs := fun (p q r s : Int) (w : World) => neq_lens p q r s w
  clear h
  go_enter Tryz.func63, Tryz.ntmps63
  go_wp2_with (go_at_call 61; refine (check2_any a A c hla f0a f1a b B d hlb f0b f1b _ (hsa.below (by (repeat (first | with_reducible exact Below.refl _ _ | with_reducible assumption | (with_reducible refine bl_set ?_ (by simp; try omega) _) | (with_reducible refine bl_alloc ?_ _) | (with_reducible refine bl_dn ?_ _) | (with_reducible refine bl_drew ?_) | (with_reducible refine bl_then ?_ (by with_reducible assumption)))))) (hsb.below (by (repeat (first | with_reducible exact Below.refl _ _ | with_reducible assumption | (with_reducible refine bl_set ?_ (by simp; try omega) _) | (with_reducible refine bl_alloc ?_ _) | (with_reducible refine bl_dn ?_ _) | (with_reducible refine bl_drew ?_) | (with_reducible refine bl_then ?_ (by with_reducible assumption))))))).mono ?_; rintro e w1 ⟨rfl, hg⟩; obtain ⟨hc, hf, hz⟩ := bcell hg; (have zw0 : w.heap.size < w1.heap.size := by have := hg.size; simp at this; omega); (have zw1 : w.heap.size + 1 < w1.heap.size := by have := hg.size; simp at this; omega); (have zw2 : w.heap.size + 1 + 1 < w1.heap.size := by have := hg.size; simp at this; omega))
  exact bodyPost_ret (v := .tuple #[.int .i64 0, .agg #[.int .i64 0, .int .i64 0], .int .i64 22]) (by simp [results, Tryz.results63, go_sem, hc, hf, hz, zw2]) rfl ⟨rfl, by (repeat (first | with_reducible exact Below.refl _ _ | with_reducible assumption | (with_reducible refine bl_set ?_ (by simp; try omega) _) | (with_reducible refine bl_alloc ?_ _) | (with_reducible refine bl_dn ?_ _) | (with_reducible refine bl_drew ?_) | (with_reducible refine bl_then ?_ (by with_reducible assumption))))⟩
set_option maxHeartbeats 1000000 in
theorem lens_l (a : Arr) (A : Option Addr) (c : Nat) (hla : a.xs.length ≤ 9223372036854775807) (f0a : Fits a.l0) (f1a : Fits a.l1) (b : Arr) (B : Option Addr) (d : Nat) (hlb : b.xs.length ≤ 9223372036854775807) (f0b : Fits b.l0) (f1b : Fits b.l1) (h : chk2 a b = 0) (h0 : a.r ≠ 0) (h1 : b.r ≠ 0) (h2 : a.r = b.r) (h3 : (a.l0 == b.l0 && a.l1 == b.l1) = false) (w : World) (hsa : Sl w A a.xs) (hsb : Sl w B b.xs) :
    Calls Tryz.prog 63 #[.agg #[.int .i64 a.k, .int .i64 a.r, .int .i64 a.l0, .int .i64 a.l1, .slice A a.xs.length c], .agg #[.int .i64 b.k, .int .i64 b.r, .int .i64 b.l0, .int .i64 b.l1, .slice B b.xs.length d]] w fun e w' => e = lensRet (11, 0, 0, 0) ∧ Below w.heap.size w w' := by
  have n1 : (chk2 a b != 0) = false := by simpa using h
  have n2 : (a.r == 0) = false := by simpa using h0
  have n3 : (b.r == 0) = false := by simpa using h1
  have n4 : (a.r != b.r) = false := by simpa using h2
  have n5 : (!(a.l0 == b.l0 && a.l1 == b.l1)) = true := by rw [h3]; rfl
  clear h0 h1 h2 h3
  have neqs := fun (p q r s : Int) (w : World) => neq_lens p q r s w
  clear h
  go_enter Tryz.func63, Tryz.ntmps63
  go_wp2_with (go_at_call 61; refine (check2_any a A c hla f0a f1a b B d hlb f0b f1b _ (hsa.below (by (repeat (first | with_reducible exact Below.refl _ _ | with_reducible assumption | (with_reducible refine bl_set ?_ (by simp; try omega) _) | (with_reducible refine bl_alloc ?_ _) | (with_reducible refine bl_dn ?_ _) | (with_reducible refine bl_drew ?_) | (with_reducible refine bl_then ?_ (by with_reducible assumption)))))) (hsb.below (by (repeat (first | with_reducible exact Below.refl _ _ | with_reducible assumption | (with_reducible refine bl_set ?_ (by simp; try omega) _) | (with_reducible refine bl_alloc ?_ _) | (with_reducible refine bl_dn ?_ _) | (with_reducible refine bl_drew ?_) | (with_reducible refine bl_then ?_ (by with_reducible assumption))))))).mono ?_; rintro e w1 ⟨rfl, hg⟩; obtain ⟨hc, hf, hz⟩ := bcell hg; (have zw0 : w.heap.size < w1.heap.size := by have := hg.size; simp at this; omega); (have zw1 : w.heap.size + 1 < w1.heap.size := by have := hg.size; simp at this; omega); (have zw2 : w.heap.size + 1 + 1 < w1.heap.size := by have := hg.size; simp at this; omega))
  exact bodyPost_ret (v := .tuple #[.int .i64 0, .agg #[.int .i64 0, .int .i64 0], .int .i64 11]) (by simp [results, Tryz.results63, go_sem, hc, hf, hz, zw2]) rfl ⟨rfl, by (repeat (first | with_reducible exact Below.refl _ _ | with_reducible assumption | (with_reducible refine bl_set ?_ (by simp; try omega) _) | (with_reducible refine bl_alloc ?_ _) | (with_reducible refine bl_dn ?_ _) | (with_reducible refine bl_drew ?_) | (with_reducible refine bl_then ?_ (by with_reducible assumption))))⟩
set_option maxHeartbeats 1000000 in
theorem lens_ok (a : Arr) (A : Option Addr) (c : Nat) (hla : a.xs.length ≤ 9223372036854775807) (f0a : Fits a.l0) (f1a : Fits a.l1) (b : Arr) (B : Option Addr) (d : Nat) (hlb : b.xs.length ≤ 9223372036854775807) (f0b : Fits b.l0) (f1b : Fits b.l1) (h : chk2 a b = 0) (h0 : a.r ≠ 0) (h1 : b.r ≠ 0) (h2 : a.r = b.r) (h3 : (a.l0 == b.l0 && a.l1 == b.l1) = true) (w : World) (hsa : Sl w A a.xs) (hsb : Sl w B b.xs) :
    Calls Tryz.prog 63 #[.agg #[.int .i64 a.k, .int .i64 a.r, .int .i64 a.l0, .int .i64 a.l1, .slice A a.xs.length c], .agg #[.int .i64 b.k, .int .i64 b.r, .int .i64 b.l0, .int .i64 b.l1, .slice B b.xs.length d]] w fun e w' => e = lensRet (0, a.r, a.l0, a.l1) ∧ Below w.heap.size w w' := by
  have n1 : (chk2 a b != 0) = false := by simpa using h
  have n2 : (a.r == 0) = false := by simpa using h0
  have n3 : (b.r == 0) = false := by simpa using h1
  have n4 : (a.r != b.r) = false := by simpa using h2
  have n5 : (!(a.l0 == b.l0 && a.l1 == b.l1)) = false := by rw [h3]; rfl
  clear h0 h1 h2 h3
  have neqs := fun (p q r s : Int) (w : World) => neq_lens p q r s w
  clear h
  go_enter Tryz.func63, Tryz.ntmps63
  go_wp2_with (go_at_call 61; refine (check2_any a A c hla f0a f1a b B d hlb f0b f1b _ (hsa.below (by (repeat (first | with_reducible exact Below.refl _ _ | with_reducible assumption | (with_reducible refine bl_set ?_ (by simp; try omega) _) | (with_reducible refine bl_alloc ?_ _) | (with_reducible refine bl_dn ?_ _) | (with_reducible refine bl_drew ?_) | (with_reducible refine bl_then ?_ (by with_reducible assumption)))))) (hsb.below (by (repeat (first | with_reducible exact Below.refl _ _ | with_reducible assumption | (with_reducible refine bl_set ?_ (by simp; try omega) _) | (with_reducible refine bl_alloc ?_ _) | (with_reducible refine bl_dn ?_ _) | (with_reducible refine bl_drew ?_) | (with_reducible refine bl_then ?_ (by with_reducible assumption))))))).mono ?_; rintro e w1 ⟨rfl, hg⟩; obtain ⟨hc, hf, hz⟩ := bcell hg; (have zw0 : w.heap.size < w1.heap.size := by have := hg.size; simp at this; omega); (have zw1 : w.heap.size + 1 < w1.heap.size := by have := hg.size; simp at this; omega); (have zw2 : w.heap.size + 1 + 1 < w1.heap.size := by have := hg.size; simp at this; omega))
  go_region_held3 (fun w' => w'.cell? ⟨w.heap.size, 1, none⟩ = some (.int .i64 a.r) ∧ w'.cell? ⟨w.heap.size, 2, none⟩ = some (.int .i64 a.l0) ∧ w'.cell? ⟨w.heap.size, 3, none⟩ = some (.int .i64 a.l1)) (simp [go_sem, *]) (fail)
  go_wp2
  exact bodyPost_ret (v := .tuple #[.int .i64 a.r, .agg #[.int .i64 a.l0, .int .i64 a.l1], .int .i64 0]) (by simp [results, Tryz.results63, go_sem, hc, hf, hz, zw0, zw1, zw2]) rfl ⟨rfl, by (repeat (first | with_reducible exact Below.refl _ _ | with_reducible assumption | (with_reducible refine bl_set ?_ (by simp; try omega) _) | (with_reducible refine bl_alloc ?_ _) | (with_reducible refine bl_dn ?_ _) | (with_reducible refine bl_drew ?_) | (with_reducible refine bl_then ?_ (by with_reducible assumption))))⟩
end Ar
end Go.Proofs.YtaelfhjdmljblaaGreatDoor
/-
Contract of invigilatorref10.Lens, and both Lens whole (chapter 10).
-/
set_option linter.unusedSimpArgs false
set_option linter.unusedVariables false
namespace Go.Proofs.YtaelfhjdmljblaaGreatDoor
namespace Ar
open Go.RowKit Sc
theorem chk_sh {a : Arr} (h : chk a = 0) : shCheck a.r a.l0 a.l1 = 0 ∧ (a.xs.length : Int) = prod a.r a.l0 a.l1 := by
  unfold chk at h
  by_cases h1 : a.k ≠ 1 ∧ a.k ≠ 2
  · rw [if_pos h1] at h; cases h
  rw [if_neg h1] at h
  by_cases h2 : shCheck a.r a.l0 a.l1 = 0
  · rw [if_neg (by simpa using h2)] at h
    refine ⟨h2, ?_⟩
    by_cases h3 : (a.xs.length : Int) = prod a.r a.l0 a.l1
    · exact h3
    · rw [if_pos h3] at h; cases h
  · rw [if_pos h2] at h; exact absurd h h2
theorem chk_zero {a : Arr} (h : chk a = 0) (hr : a.r = 0) : a.l0 = 0 ∧ a.l1 = 0 ∧ a.xs.length = 1 := by
  obtain ⟨h1, h2⟩ := chk_sh h
  rw [hr] at h1 h2
  rw [prod_0] at h2
  by_cases h3 : a.l0 ≠ 0 ∨ a.l1 ≠ 0
  · rw [sh_0f h3] at h1; cases h1
  · exact ⟨by omega, by omega, by omega⟩
theorem lens_eqB {a b : Arr} : (a.l0 == b.l0 && a.l1 == b.l1) = false ↔ (a.l0 ≠ b.l0 ∨ a.l1 ≠ b.l1) := by
  by_cases h1 : a.l0 = b.l0 <;> by_cases h2 : a.l1 = b.l1 <;> simp [h1, h2]
theorem lens_any (a : Arr) (A : Option Addr) (c : Nat) (hla : a.xs.length ≤ 9223372036854775807) (f0a : Fits a.l0) (f1a : Fits a.l1) (b : Arr) (B : Option Addr) (d : Nat) (hlb : b.xs.length ≤ 9223372036854775807) (f0b : Fits b.l0) (f1b : Fits b.l1) (w : World) (hsa : Sl w A a.xs) (hsb : Sl w B b.xs) :
    Calls Tryz.prog 63 #[.agg #[.int .i64 a.k, .int .i64 a.r, .int .i64 a.l0, .int .i64 a.l1, .slice A a.xs.length c], .agg #[.int .i64 b.k, .int .i64 b.r, .int .i64 b.l0, .int .i64 b.l1, .slice B b.xs.length d]] w fun e w' => e = lensRet (extLens a b) ∧ Below w.heap.size w w' := by
  unfold extLens
  by_cases h : chk2 a b = 0
  · rw [if_neg (by simpa using h)]
    by_cases h0 : a.r = 0
    · rw [if_pos h0]; exact lens_a0 a A c hla f0a f1a b B d hlb f0b f1b h h0 w hsa hsb
    rw [if_neg h0]
    by_cases h1 : b.r = 0
    · rw [if_pos h1]; exact lens_b0 a A c hla f0a f1a b B d hlb f0b f1b h h0 h1 w hsa hsb
    rw [if_neg h1]
    by_cases h2 : a.r = b.r
    · rw [if_neg (by simpa using h2)]
      cases h3 : (a.l0 == b.l0 && a.l1 == b.l1)
      · rw [if_pos (lens_eqB.1 h3)]; exact lens_l a A c hla f0a f1a b B d hlb f0b f1b h h0 h1 h2 h3 w hsa hsb
      · rw [if_neg (fun e => by rw [lens_eqB.2 e] at h3; cases h3)]; exact lens_ok a A c hla f0a f1a b B d hlb f0b f1b h h0 h1 h2 h3 w hsa hsb
    · rw [if_pos h2]; exact lens_r a A c hla f0a f1a b B d hlb f0b f1b h h0 h1 h2 w hsa hsb
  · rw [if_pos h]; exact lens_bad a A c hla f0a f1a b B d hlb f0b f1b h w hsa hsb
end Ar
end Go.Proofs.YtaelfhjdmljblaaGreatDoor
