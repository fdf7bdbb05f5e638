/-
The walks of ExtendOnes and ExtendTwos (chapter 10).
-/
import Derived.Test.YtfpnafeildigaaaArAx
import Derived.Test.YtfpnafeildigaaaArX2
set_option linter.unusedSimpArgs false
set_option linter.unusedVariables false
namespace Go.Proofs.Ytfpnafeildigaaa
namespace Ar
open Go.RowKit Sc
theorem same_refl (a : Arr) : same a a = true := by unfold same like; simp
theorem same_yes (e : Int) (a : Arr) : (e == e && same a a) = true := by rw [same_refl]; simp
theorem extOne_len (p : Int) (a : Arr) : (extOne p a).2.xs.length ≤ a.xs.length := by
  unfold extOne
  split
  · exact Nat.zero_le _
  split
  · exact Nat.zero_le _
  split
  · exact Nat.zero_le _
  split
  · exact Nat.zero_le _
  · rename_i h
    have h' : (mapE (one p) a.xs).1 = 0 := by simpa using h
    rw [mapE_len (show mapE (one p) a.xs = (0, (mapE (one p) a.xs).2) by rw [← h'])]
    exact Nat.le_refl _
theorem extTwo_len (p : Int) (a b : Arr) : (extTwo p a b).2.xs.length ≤ a.xs.length + b.xs.length := by
  unfold extTwo
  split
  · exact Nat.zero_le _
  split
  · exact Nat.zero_le _
  split
  · exact Nat.zero_le _
  split
  · exact Nat.zero_le _
  split
  · exact Nat.zero_le _
  · rename_i h4 h
    have h' : (mapP (fun q : Int × Int => two p q.1 q.2) (pairs a b)).1 = 0 := by simpa using h
    show (mapP _ _).2.length ≤ _
    rw [mapP_len (show mapP (fun q : Int × Int => two p q.1 q.2) (pairs a b) = (0, (mapP (fun q : Int × Int => two p q.1 q.2) (pairs a b)).2) by rw [← h']), pairs_len (by simpa using h4)]
    unfold many
    split <;> omega
theorem far_yes {a : Arr} (h : 405 < a.xs.length) : decide (405 < (a.xs.length : Int)) = true := by simp; omega
theorem far_no {a : Arr} (h : ¬ 405 < a.xs.length) : decide (405 < (a.xs.length : Int)) = false := by simp; omega
set_option maxHeartbeats 1000000 in
theorem ones_walk (p : Int) (a : Arr) (A : Option Addr) (c : Nat) (f0 : Fits a.l0) (f1 : Fits a.l1) (hx : ∀ x ∈ a.xs, Fits x) (w : World) (hs : Sl w A a.xs) :
    Calls Try.prog 3 #[.int .i64 p, .agg #[.int .i64 a.k, .int .i64 a.r, .int .i64 a.l0, .int .i64 a.l1, .slice A a.xs.length c]] w fun e w' => e = .returned (.bool true) ∧ Below w.heap.size w w' := by
  by_cases h : 405 < a.xs.length
  · have HF := hide (far_yes h)
    clear h hx
    go_enter Try.func3, Try.ntmps3
    go_wp2_with fail
    refine (far_any a A c _).mono ?_
    rw [HF.out]
    rintro e w1 ⟨rfl, hg1⟩
    go_wp2_with fail
    refine (awake10 _).mono ?_
    rintro e w2 ⟨rfl, hg2⟩
    go_wp2
    go_ret
    exact ⟨rfl, by (repeat (first | with_reducible exact Below.refl _ _ | with_reducible assumption | (with_reducible refine bl_set ?_ (by simp; try omega) _) | (with_reducible refine bl_alloc ?_ _) | (with_reducible refine bl_dn ?_ _) | (with_reducible refine bl_drew ?_) | (with_reducible refine bl_then ?_ (by with_reducible assumption))))⟩
  · have HF := hide (far_no h)
    have HL : Hid (a.xs.length ≤ 405) := by show _ ≤ _; omega
    have HX := hide hx
    obtain ⟨er, R, hR⟩ : ∃ er R, extOne p a = (er, R) := ⟨_, _, rfl⟩
    have HR : Hid (R.xs.length ≤ 405) := by show _ ≤ _; have := extOne_len p a; rw [hR] at this; exact Nat.le_trans this HL.out
    have HE := hide hR
    clear h hx hR
    go_enter Try.func3, Try.ntmps3
    go_wp2_with fail
    refine (far_any a A c _).mono ?_
    rw [HF.out]
    rintro e w1 ⟨rfl, hg1⟩
    obtain ⟨hc1, hf1, hz1⟩ := bcell hg1
    (have zw1 : w.heap.size < w1.heap.size := by have := hg1.size; simp at this; omega)
    go_wp2_with fail
    refine (one_any p a A c (by have := HL.out; omega) f0 f1 HX.out _ (hs.below (by (repeat (first | with_reducible exact Below.refl _ _ | with_reducible assumption | (with_reducible refine bl_set ?_ (by simp; try omega) _) | (with_reducible refine bl_alloc ?_ _) | (with_reducible refine bl_dn ?_ _) | (with_reducible refine bl_drew ?_) | (with_reducible refine bl_then ?_ (by with_reducible assumption))))))).mono ?_
    rw [HE.out]
    rintro e w2 ⟨hg2, B, cb, rfl, hsB, hgeB⟩
    have hsB := hide hsB
    obtain ⟨hc2, hf2, hz2⟩ := bcell hg2
    (have zw2 : w.heap.size < w2.heap.size := by have := hg2.size; omega)
    go_wp2_with fail
    refine (rone_any p a A c (by have := HL.out; omega) f0 f1 HX.out _ (hs.below (by (repeat (first | with_reducible exact Below.refl _ _ | with_reducible assumption | (with_reducible refine bl_set ?_ (by simp; try omega) _) | (with_reducible refine bl_alloc ?_ _) | (with_reducible refine bl_dn ?_ _) | (with_reducible refine bl_drew ?_) | (with_reducible refine bl_then ?_ (by with_reducible assumption))))))).mono ?_
    rw [HE.out]
    rintro e w3 ⟨hg3, C, cc, rfl, hsC, hgeC⟩
    have hsC := hide hsC
    obtain ⟨hc3, hf3, hz3⟩ := bcell hg3
    (have zw3 : w2.heap.size < w3.heap.size := by have := hg3.size; simp at this; omega)
    go_wp2_with fail
    refine (alike_any R R B C cb cc er er (by have := HR.out; omega) (by have := HR.out; omega) _ (hsB.out.below (by (repeat (first | with_reducible exact Below.refl _ _ | with_reducible assumption | (with_reducible refine bl_set ?_ (by simp; try omega) _) | (with_reducible refine bl_alloc ?_ _) | (with_reducible refine bl_dn ?_ _) | (with_reducible refine bl_drew ?_) | (with_reducible refine bl_then ?_ (by with_reducible assumption)))))) (hsC.out.below (by (repeat (first | with_reducible exact Below.refl _ _ | with_reducible assumption | (with_reducible refine bl_set ?_ (by simp; try omega) _) | (with_reducible refine bl_alloc ?_ _) | (with_reducible refine bl_dn ?_ _) | (with_reducible refine bl_drew ?_) | (with_reducible refine bl_then ?_ (by with_reducible assumption))))))).mono ?_
    rw [same_yes]
    rintro e w4 ⟨rfl, hg4⟩
    go_wp2_with fail
    refine (awake10 _).mono ?_
    rintro e w5 ⟨rfl, hg5⟩
    go_wp2
    go_ret
    exact ⟨rfl, by (repeat (first | with_reducible exact Below.refl _ _ | with_reducible assumption | (with_reducible refine bl_set ?_ (by simp; try omega) _) | (with_reducible refine bl_alloc ?_ _) | (with_reducible refine bl_dn ?_ _) | (with_reducible refine bl_drew ?_) | (with_reducible refine bl_then ?_ (by with_reducible assumption))))⟩
end Ar
end Go.Proofs.Ytfpnafeildigaaa
