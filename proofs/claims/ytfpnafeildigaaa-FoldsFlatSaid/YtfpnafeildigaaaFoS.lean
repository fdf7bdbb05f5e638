/-
good and width of chapter 11's laws; the plain law of FoldsScans.
-/
import Derived.Test.YtfpnafeildigaaaFoR
set_option linter.unusedSimpArgs false
set_option linter.unusedVariables false
namespace Go.Proofs.Ytfpnafeildigaaa
namespace Ar
open Go.RowKit Sc
def goodB (a : Arr) : Bool := !decide (405 < (a.xs.length : Int)) && (chk a == 0 && (a.k == 1 && decide (0 < a.r)))
theorem goodB_yes {a : Arr} (h : goodB a = true) : a.xs.length ≤ 405 ∧ chk a = 0 ∧ a.k = 1 ∧ 0 < a.r := by
  unfold goodB at h
  simp only [Bool.and_eq_true, beq_iff_eq, decide_eq_true_eq, Bool.not_eq_true', decide_eq_false_iff_not] at h
  obtain ⟨h1, h2, h3, h4⟩ := h
  exact ⟨by omega, h2, h3, h4⟩
set_option maxHeartbeats 1000000 in
theorem good_any (a : Arr) (A : Option Addr) (c : Nat) (hla : a.xs.length ≤ 9223372036854775807) (f0 : Fits a.l0) (f1 : Fits a.l1) (w : World) (hs : Sl w A a.xs) :
    Calls Try.prog 52 #[.agg #[.int .i64 a.k, .int .i64 a.r, .int .i64 a.l0, .int .i64 a.l1, .slice A a.xs.length c]] w fun e w' => e = .returned (.bool (goodB a)) ∧ Below w.heap.size w w' := by
  cases t1 : decide (405 < (a.xs.length : Int))
  rotate_left
  · have HK : Hid (goodB a = false) := by show _ = _; unfold goodB; rw [t1]; rfl
    have T1 := hide t1
    clear t1
    go_enter Try.func52, Try.ntmps52
    go_wp2_with fail
    refine (far_any a A c _).mono ?_
    rw [T1.out]
    rintro e w1 ⟨rfl, hg1⟩
    go_wp2
    go_ret
    exact ⟨by rw [HK.out]; rfl, by (repeat (first | with_reducible exact Below.refl _ _ | with_reducible assumption | (with_reducible refine bl_set ?_ (by simp; try omega) _) | (with_reducible refine bl_alloc ?_ _) | (with_reducible refine bl_dn ?_ _) | (with_reducible refine bl_drew ?_) | (with_reducible refine bl_then ?_ (by with_reducible assumption))))⟩
  cases t2 : (chk a == 0)
  · have HK : Hid (goodB a = false) := by show _ = _; unfold goodB; rw [t1, t2]; rfl
    have T1 := hide t1
    clear t1
    go_enter Try.func52, Try.ntmps52
    go_wp2_with fail
    refine (far_any a A c _).mono ?_
    rw [T1.out]
    rintro e w1 ⟨rfl, hg1⟩
    have st1 := hide (((St.init w).box c hs).below hg1)
    obtain ⟨hbw, ⟨⟨a0, a1, a2, a3, a4⟩, sa, za⟩, _⟩ := st1.out
    go_wp2_with fail
    refine (Ref.ac_any a A c hla f0 f1 _ (sa.below (by (repeat (first | with_reducible exact Below.refl _ _ | with_reducible assumption | (with_reducible refine bl_set ?_ (by simp; try omega) _) | (with_reducible refine bl_alloc ?_ _) | (with_reducible refine bl_dn ?_ _) | (with_reducible refine bl_drew ?_) | (with_reducible refine bl_then ?_ (by with_reducible assumption))))))).mono ?_
    rintro e w2 ⟨rfl, hg2⟩
    go_wp2
    go_ret
    exact ⟨by rw [HK.out]; rfl, by (repeat (first | with_reducible exact Below.refl _ _ | with_reducible assumption | (with_reducible refine bl_set ?_ (by simp; try omega) _) | (with_reducible refine bl_alloc ?_ _) | (with_reducible refine bl_dn ?_ _) | (with_reducible refine bl_drew ?_) | (with_reducible refine bl_then ?_ (by with_reducible assumption))))⟩
  cases t3 : (a.k == 1)
  · have HK : Hid (goodB a = false) := by show _ = _; unfold goodB; rw [t1, t2, t3]; rfl
    (have T1 := hide t1; have T2 : Hid (chk a = 0) := (by show _ = _; simpa using t2); clear t1 t2; go_enter Try.func52, Try.ntmps52; go_wp2_with fail; refine (far_any a A c _).mono ?_; rw [T1.out]; rintro e w1 ⟨rfl, hg1⟩; have st1 := hide (((St.init w).box c hs).below hg1); obtain ⟨hbw, ⟨⟨a0, a1, a2, a3, a4⟩, sa, za⟩, _⟩ := st1.out; go_wp2_with fail; refine (Ref.ac_any a A c hla f0 f1 _ (sa.below (by (repeat (first | with_reducible exact Below.refl _ _ | with_reducible assumption | (with_reducible refine bl_set ?_ (by simp; try omega) _) | (with_reducible refine bl_alloc ?_ _) | (with_reducible refine bl_dn ?_ _) | (with_reducible refine bl_drew ?_) | (with_reducible refine bl_then ?_ (by with_reducible assumption))))))).mono ?_; rw [T2.out]; rintro e w2 ⟨rfl, hg2⟩; have st2 := hide (st1.out.below hg2); clear hbw; clear a0 a1 a2 a3 a4 sa za; obtain ⟨hbw, ⟨⟨a0, a1, a2, a3, a4⟩, sa, za⟩, _⟩ := st2.out)
    go_wp2
    go_ret
    exact ⟨by rw [HK.out]; rfl, by (repeat (first | with_reducible exact Below.refl _ _ | with_reducible assumption | (with_reducible refine bl_set ?_ (by simp; try omega) _) | (with_reducible refine bl_alloc ?_ _) | (with_reducible refine bl_dn ?_ _) | (with_reducible refine bl_drew ?_) | (with_reducible refine bl_then ?_ (by with_reducible assumption))))⟩
  · cases t4 : decide (0 < a.r)
    · have HK : Hid (goodB a = false) := by show _ = _; unfold goodB; rw [t1, t2, t3, t4]; rfl
      (have T1 := hide t1; have T2 : Hid (chk a = 0) := (by show _ = _; simpa using t2); clear t1 t2; go_enter Try.func52, Try.ntmps52; go_wp2_with fail; refine (far_any a A c _).mono ?_; rw [T1.out]; rintro e w1 ⟨rfl, hg1⟩; have st1 := hide (((St.init w).box c hs).below hg1); obtain ⟨hbw, ⟨⟨a0, a1, a2, a3, a4⟩, sa, za⟩, _⟩ := st1.out; go_wp2_with fail; refine (Ref.ac_any a A c hla f0 f1 _ (sa.below (by (repeat (first | with_reducible exact Below.refl _ _ | with_reducible assumption | (with_reducible refine bl_set ?_ (by simp; try omega) _) | (with_reducible refine bl_alloc ?_ _) | (with_reducible refine bl_dn ?_ _) | (with_reducible refine bl_drew ?_) | (with_reducible refine bl_then ?_ (by with_reducible assumption))))))).mono ?_; rw [T2.out]; rintro e w2 ⟨rfl, hg2⟩; have st2 := hide (st1.out.below hg2); clear hbw; clear a0 a1 a2 a3 a4 sa za; obtain ⟨hbw, ⟨⟨a0, a1, a2, a3, a4⟩, sa, za⟩, _⟩ := st2.out)
      go_wp2
      go_ret
      exact ⟨by rw [HK.out]; rfl, by (repeat (first | with_reducible exact Below.refl _ _ | with_reducible assumption | (with_reducible refine bl_set ?_ (by simp; try omega) _) | (with_reducible refine bl_alloc ?_ _) | (with_reducible refine bl_dn ?_ _) | (with_reducible refine bl_drew ?_) | (with_reducible refine bl_then ?_ (by with_reducible assumption))))⟩
    · have HK : Hid (goodB a = true) := by show _ = _; unfold goodB; rw [t1, t2, t3, t4]; rfl
      (have T1 := hide t1; have T2 : Hid (chk a = 0) := (by show _ = _; simpa using t2); clear t1 t2; go_enter Try.func52, Try.ntmps52; go_wp2_with fail; refine (far_any a A c _).mono ?_; rw [T1.out]; rintro e w1 ⟨rfl, hg1⟩; have st1 := hide (((St.init w).box c hs).below hg1); obtain ⟨hbw, ⟨⟨a0, a1, a2, a3, a4⟩, sa, za⟩, _⟩ := st1.out; go_wp2_with fail; refine (Ref.ac_any a A c hla f0 f1 _ (sa.below (by (repeat (first | with_reducible exact Below.refl _ _ | with_reducible assumption | (with_reducible refine bl_set ?_ (by simp; try omega) _) | (with_reducible refine bl_alloc ?_ _) | (with_reducible refine bl_dn ?_ _) | (with_reducible refine bl_drew ?_) | (with_reducible refine bl_then ?_ (by with_reducible assumption))))))).mono ?_; rw [T2.out]; rintro e w2 ⟨rfl, hg2⟩; have st2 := hide (st1.out.below hg2); clear hbw; clear a0 a1 a2 a3 a4 sa za; obtain ⟨hbw, ⟨⟨a0, a1, a2, a3, a4⟩, sa, za⟩, _⟩ := st2.out)
      go_wp2
      go_ret
      exact ⟨by rw [HK.out]; rfl, by (repeat (first | with_reducible exact Below.refl _ _ | with_reducible assumption | (with_reducible refine bl_set ?_ (by simp; try omega) _) | (with_reducible refine bl_alloc ?_ _) | (with_reducible refine bl_dn ?_ _) | (with_reducible refine bl_drew ?_) | (with_reducible refine bl_then ?_ (by with_reducible assumption))))⟩
theorem two15_val {x y : Int} (h : (two 15 x y).2 = 0) : (two 15 x y).1 = x + y := by
  have e : two 15 x y = Sc.chk (x + y) := rfl
  rw [e] at h ⊢
  unfold Sc.chk at h ⊢
  split
  · rfl
  · rename_i h1; rw [if_neg h1] at h; cases h
end Ar
end Go.Proofs.Ytfpnafeildigaaa
