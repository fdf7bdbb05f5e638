/-
The walk of ExtendScalars (chapter 10).
-/
import Derived.Test.YtfpnafeildigaaaBb3
set_option linter.unusedSimpArgs false
set_option linter.unusedVariables false
namespace Go.Proofs.Ytfpnafeildigaaa
namespace Ar
open Go.RowKit Sc
/-- what a walk asks of an array -/
def Fine (a : Arr) : Prop := a.xs.length ≤ 100000 ∧ Fits a.l0 ∧ Fits a.l1 ∧ ∀ x ∈ a.xs, Fits x
theorem two_go (p : Int) (a b : Arr) (A B : Option Addr) (c d : Nat) (ha : Hid (Fine a)) (hb : Hid (Fine b)) {er : Int} {R : Arr} (hE : Hid (extTwo p a b = (er, R))) (w : World) (hs : Sl w A a.xs) (ht : Sl w B b.xs) :
    Calls Try.prog 24 #[.int .i64 p, .agg #[.int .i64 a.k, .int .i64 a.r, .int .i64 a.l0, .int .i64 a.l1, .slice A a.xs.length c], .agg #[.int .i64 b.k, .int .i64 b.r, .int .i64 b.l0, .int .i64 b.l1, .slice B b.xs.length d]] w fun e w' => Below w.heap.size w w' ∧ ∃ (C : Option Addr) (n : Nat), e = .returned (.tuple #[.agg #[.int .i64 R.k, .int .i64 R.r, .int .i64 R.l0, .int .i64 R.l1, .slice C R.xs.length n], .int .i64 er]) ∧ Sl w' C R.xs ∧ (∀ g o, C = some ⟨g, o, none⟩ → w.heap.size ≤ g) ∧ R.xs.length ≤ n := by
  have h := two_any p a b A B c d ha.out.1 ha.out.2.1 ha.out.2.2.1 hb.out.1 hb.out.2.1 hb.out.2.2.1 ha.out.2.2.2 hb.out.2.2.2 w hs ht
  rw [hE.out] at h
  exact h
theorem acc_blank (w : World) (n : Nat) (hn : n ≤ 100000) (t : TypeId) (h : t = 2) : Acc (w.alloc (.cells (blank n) t)) w.heap.size (.slice (some ⟨w.heap.size, 0, none⟩) n n) (List.replicate n 0) := by
  subst h
  have := World.ownsRow_lit (base := w.heap.size) (e := 2) (size := 1) w (blank n) n (Nat.le_refl _) (by unfold maxLen; omega) (by unfold blank; rw [size_madeCells]; simp)
  unfold Acc
  rw [List.length_replicate, List.map_replicate]
  rw [show (blank n).toList = List.replicate n (.int .i64 0) from toList_madeCells_one _ _] at this
  exact this
theorem scal_far (p x : Int) (a : Arr) (A : Option Addr) (c : Nat) (w : World) (h : 405 < a.xs.length) :
    Calls Try.prog 6 #[.int .i64 p, .agg #[.int .i64 a.k, .int .i64 a.r, .int .i64 a.l0, .int .i64 a.l1, .slice A a.xs.length c], .int .i64 x] w fun e w' => e = .returned (.bool true) ∧ Below w.heap.size w w' := by
  have HF := hide (far_yes h)
  clear h
  go_enter Try.func6, Try.ntmps6
  go_wp2_with fail
  refine (far_any a A c _).mono ?_
  rw [HF.out]
  rintro e w1 ⟨rfl, hg1⟩
  go_wp2_with fail
  refine (awake10 _).mono ?_
  rintro e w2 ⟨rfl, hg2⟩
  go_wp2
  go_ret
  exact ⟨rfl, by (repeat (first | with_reducible exact Below.refl _ _ | with_reducible assumption | (with_reducible refine bl_set ?_ (by simp; try omega) _) | (with_reducible refine bl_alloc ?_ _) | (with_reducible refine bl_dn ?_ _) | (with_reducible refine bl_drew ?_) | (with_reducible refine bl_then ?_ (by with_reducible assumption))))⟩
theorem scal_bad (p x : Int) (a : Arr) (A : Option Addr) (c : Nat) (hla : a.xs.length ≤ 9223372036854775807) (f0 : Fits a.l0) (f1 : Fits a.l1) (w : World) (hs : Sl w A a.xs) (h : ¬ 405 < a.xs.length) (h2 : chk a ≠ 0) :
    Calls Try.prog 6 #[.int .i64 p, .agg #[.int .i64 a.k, .int .i64 a.r, .int .i64 a.l0, .int .i64 a.l1, .slice A a.xs.length c], .int .i64 x] w fun e w' => e = .returned (.bool true) ∧ Below w.heap.size w w' := by
  have HF := hide (far_no h)
  have n1 : (chk a != 0) = true := by simpa using h2
  clear h h2
  go_enter Try.func6, Try.ntmps6
  go_wp2_with fail
  refine (far_any a A c _).mono ?_
  rw [HF.out]
  rintro e w1 ⟨rfl, hg1⟩
  have st1 := hide (((St.init w).box c hs).below hg1)
  obtain ⟨hbw, ⟨⟨a0, a1, a2, a3, a4⟩, sa, za⟩, _⟩ := st1.out
  go_wp2_with fail
  refine (Ref.ac_any a A c hla f0 f1 _ (sa.below (by (repeat (first | with_reducible exact Below.refl _ _ | with_reducible assumption | (with_reducible refine bl_set ?_ (by simp; try omega) _) | (with_reducible refine bl_alloc ?_ _) | (with_reducible refine bl_dn ?_ _) | (with_reducible refine bl_drew ?_) | (with_reducible refine bl_then ?_ (by with_reducible assumption))))))).mono ?_
  rintro e w2 ⟨rfl, hg2⟩
  go_wp2_with fail
  refine (awake10 _).mono ?_
  rintro e w3 ⟨rfl, hg3⟩
  go_wp2
  go_ret
  exact ⟨rfl, by (repeat (first | with_reducible exact Below.refl _ _ | with_reducible assumption | (with_reducible refine bl_set ?_ (by simp; try omega) _) | (with_reducible refine bl_alloc ?_ _) | (with_reducible refine bl_dn ?_ _) | (with_reducible refine bl_drew ?_) | (with_reducible refine bl_then ?_ (by with_reducible assumption))))⟩
theorem scal_rune (p x : Int) (a : Arr) (A : Option Addr) (c : Nat) (hla : a.xs.length ≤ 9223372036854775807) (f0 : Fits a.l0) (f1 : Fits a.l1) (w : World) (hs : Sl w A a.xs) (h : ¬ 405 < a.xs.length) (h2 : chk a = 0) (h3 : chk (scalar a.k x) ≠ 0) :
    Calls Try.prog 6 #[.int .i64 p, .agg #[.int .i64 a.k, .int .i64 a.r, .int .i64 a.l0, .int .i64 a.l1, .slice A a.xs.length c], .int .i64 x] w fun e w' => e = .returned (.bool true) ∧ Below w.heap.size w w' := by
  have HF := hide (far_no h)
  have n1 : (chk a != 0) = false := by simpa using h2
  have n2 : (chk (scalar a.k x) != 0) = true := by simpa using h3
  clear h h2 h3
  go_enter Try.func6, Try.ntmps6
  go_wp2_with fail
  refine (far_any a A c _).mono ?_
  rw [HF.out]
  rintro e w1 ⟨rfl, hg1⟩
  have st1 := hide (((St.init w).box c hs).below hg1)
  obtain ⟨hbw, ⟨⟨a0, a1, a2, a3, a4⟩, sa, za⟩, _⟩ := st1.out
  go_wp2_with fail
  refine (Ref.ac_any a A c hla f0 f1 _ (sa.below (by (repeat (first | with_reducible exact Below.refl _ _ | with_reducible assumption | (with_reducible refine bl_set ?_ (by simp; try omega) _) | (with_reducible refine bl_alloc ?_ _) | (with_reducible refine bl_dn ?_ _) | (with_reducible refine bl_drew ?_) | (with_reducible refine bl_then ?_ (by with_reducible assumption))))))).mono ?_
  rintro e w2 ⟨rfl, hg2⟩
  have st2 := hide (st1.out.below hg2)
  clear hbw sa za a0 a1 a2 a3 a4
  obtain ⟨hbw, ⟨⟨a0, a1, a2, a3, a4⟩, sa, za⟩, _⟩ := st2.out
  go_wp2_with fail
  refine (scalar_any a.k x _).mono ?_
  rintro e w3 ⟨hg3, V, cv, rfl, hsV, hgeV, hcpV⟩
  go_wp2_with fail
  refine (Ref.ac_any (scalar a.k x) V cv (show 1 ≤ 9223372036854775807 by decide) (show Fits 0 by decide) (show Fits 0 by decide) _ (Sl.below hsV (by (repeat (first | with_reducible exact Below.refl _ _ | with_reducible assumption | (with_reducible refine bl_set ?_ (by simp; try omega) _) | (with_reducible refine bl_alloc ?_ _) | (with_reducible refine bl_dn ?_ _) | (with_reducible refine bl_drew ?_) | (with_reducible refine bl_then ?_ (by with_reducible assumption))))))).mono ?_
  rintro e w4 ⟨rfl, hg4⟩
  go_wp2_with fail
  refine (awake10 _).mono ?_
  rintro e w5 ⟨rfl, hg5⟩
  go_wp2
  go_ret
  exact ⟨rfl, by (repeat (first | with_reducible exact Below.refl _ _ | with_reducible assumption | (with_reducible refine bl_set ?_ (by simp; try omega) _) | (with_reducible refine bl_alloc ?_ _) | (with_reducible refine bl_dn ?_ _) | (with_reducible refine bl_drew ?_) | (with_reducible refine bl_then ?_ (by with_reducible assumption))))⟩
set_option maxRecDepth 100000 in
set_option maxHeartbeats 4000000 in
theorem scal_main (p x : Int) (a : Arr) (A : Option Addr) (c : Nat) (hfx : Fits x) (f0 : Fits a.l0) (f1 : Fits a.l1) (hx : ∀ x ∈ a.xs, Fits x) (w : World) (hs : Sl w A a.xs) (h : ¬ 405 < a.xs.length) (h2 : chk a = 0) (h3 : chk (scalar a.k x) = 0) :
    Calls Try.prog 6 #[.int .i64 p, .agg #[.int .i64 a.k, .int .i64 a.r, .int .i64 a.l0, .int .i64 a.l1, .slice A a.xs.length c], .int .i64 x] w fun e w' => e = .returned (.bool true) ∧ Below w.heap.size w w' := by
  have HF := hide (far_no h)
  have HL : Hid (a.xs.length ≤ 405) := by show _ ≤ _; omega
  have HA : Hid (Fine a) := ⟨by omega, f0, f1, hx⟩
  have HS : Hid (Fine (scalar a.k x)) := ⟨show 1 ≤ 100000 by decide, show Fits 0 by decide, show Fits 0 by decide, by intro y hy; rw [List.mem_singleton.1 hy]; exact hfx⟩
  have n1 : (chk a != 0) = false := by simpa using h2
  have n2 : (chk (scalar a.k x) != 0) = false := by simpa using h3
  obtain ⟨er, R, hR⟩ : ∃ er R, extTwo p a (scalar a.k x) = (er, R) := ⟨_, _, rfl⟩
  obtain ⟨es, U, hU⟩ : ∃ er R, extTwo p (scalar a.k x) a = (er, R) := ⟨_, _, rfl⟩
  have HRL : Hid (R.xs.length ≤ 9223372036854775807) := by show _ ≤ _; have hh := extTwo_len p a (scalar a.k x); rw [hR] at hh; have e1 : (scalar a.k x).xs.length = 1 := rfl; rw [e1] at hh; simp only at hh; omega
  have HUL : Hid (U.xs.length ≤ 9223372036854775807) := by show _ ≤ _; have hh := extTwo_len p (scalar a.k x) a; rw [hU] at hh; have e1 : (scalar a.k x).xs.length = 1 := rfl; rw [e1] at hh; simp only at hh; omega
  have HR := hide hR; have HU := hide hU
  have HR2 : Hid (extTwo p a (copies a x) = (er, R)) := (scal_right h2 h3).trans hR
  have HU2 : Hid (extTwo p (copies a x) a = (es, U)) := (scal_left h2 h3).trans hU
  have hmk := fun W => make_i64 a.xs.length (by omega) W
  have hnn : a.xs.length ≤ 9223372036854775807 := by omega
  clear h h2 h3 hx hR hU
  go_enter Try.func6, Try.ntmps6
  go_wp2_with fail
  refine (far_any a A c _).mono ?_
  rw [HF.out]
  rintro e w1 ⟨rfl, hg1⟩
  have st1 := hide (((St.init w).box c hs).below hg1)
  obtain ⟨hbw, ⟨⟨a0, a1, a2, a3, a4⟩, sa, za⟩, _⟩ := st1.out
  go_wp2_with fail
  refine (Ref.ac_any a A c hnn f0 f1 _ (sa.below (by (repeat (first | with_reducible exact Below.refl _ _ | with_reducible assumption | (with_reducible refine bl_set ?_ (by simp; try omega) _) | (with_reducible refine bl_alloc ?_ _) | (with_reducible refine bl_dn ?_ _) | (with_reducible refine bl_drew ?_) | (with_reducible refine bl_then ?_ (by with_reducible assumption))))))).mono ?_
  rintro e w2 ⟨rfl, hg2⟩
  have st2 := hide (st1.out.below hg2)
  clear hbw sa za a0 a1 a2 a3 a4 st1
  obtain ⟨hbw, ⟨⟨a0, a1, a2, a3, a4⟩, sa, za⟩, _⟩ := st2.out
  go_wp2_with fail
  refine (scalar_any a.k x _).mono ?_
  rintro e w3 ⟨hg3, V, cv, rfl, hsV, hgeV, hcpV⟩
  have st3 := hide (st2.out.below hg3)
  clear hbw sa za a0 a1 a2 a3 a4 st2
  obtain ⟨hbw, ⟨⟨a0, a1, a2, a3, a4⟩, sa, za⟩, _⟩ := st3.out
  go_wp2_with fail
  refine (Ref.ac_any (scalar a.k x) V cv (show 1 ≤ 9223372036854775807 by decide) (show Fits 0 by decide) (show Fits 0 by decide) _ (Sl.below hsV (by (repeat (first | with_reducible exact Below.refl _ _ | with_reducible assumption | (with_reducible refine bl_set ?_ (by simp; try omega) _) | (with_reducible refine bl_alloc ?_ _) | (with_reducible refine bl_dn ?_ _) | (with_reducible refine bl_drew ?_) | (with_reducible refine bl_then ?_ (by with_reducible assumption))))))).mono ?_
  rintro e w4 ⟨rfl, hg4⟩
  have st4 := hide (st3.out.push (a := scalar a.k x) hsV hg4)
  clear hbw sa za a0 a1 a2 a3 a4 st3 hsV
  obtain ⟨hbw, ⟨⟨b0, b1, b2, b3, b4⟩, sb, zb⟩, ⟨⟨a0, a1, a2, a3, a4⟩, sa, za⟩, _⟩ := st4.out
  go_wp2
  have HO : Hid (Arr5 ((w4.alloc (.cells #[.int .i64 a.k, .int .i64 a.r, .int .i64 a.l0, .int .i64 a.l1, .slice (some ⟨w4.heap.size + 1, 0, none⟩) a.xs.length a.xs.length] 25)).alloc (.cells (blank a.xs.length) 2)) w4.heap.size (.int .i64 a.k) (.int .i64 a.r) (.int .i64 a.l0) (.int .i64 a.l1) (.slice (some ⟨w4.heap.size + 1, 0, none⟩) a.xs.length a.xs.length)) := (arr5_new _ _ _ _ _ _ _ _ _).below (bl_new _ _)
  have HC : Hid (Acc ((w4.alloc (.cells #[.int .i64 a.k, .int .i64 a.r, .int .i64 a.l0, .int .i64 a.l1, .slice (some ⟨w4.heap.size + 1, 0, none⟩) a.xs.length a.xs.length] 25)).alloc (.cells (blank a.xs.length) 2)) (w4.heap.size + 1) (.slice (some ⟨w4.heap.size + 1, 0, none⟩) a.xs.length a.xs.length) (List.replicate a.xs.length 0)) := by
    have := acc_blank (w4.alloc (.cells #[.int .i64 a.k, .int .i64 a.r, .int .i64 a.l0, .int .i64 a.l1, .slice (some ⟨w4.heap.size + 1, 0, none⟩) a.xs.length a.xs.length] 25)) a.xs.length (by have := HL.out; omega) 2 rfl
    show Acc _ _ _ _
    simpa using this
  have hb5 : Hid (Below w4.heap.size w4 ((w4.alloc (.cells #[.int .i64 a.k, .int .i64 a.r, .int .i64 a.l0, .int .i64 a.l1, .slice (some ⟨w4.heap.size + 1, 0, none⟩) a.xs.length a.xs.length] 25)).alloc (.cells (blank a.xs.length) 2))) := by show Below _ _ _; (repeat (first | with_reducible exact Below.refl _ _ | with_reducible assumption | (with_reducible refine bl_set ?_ (by simp; try omega) _) | (with_reducible refine bl_alloc ?_ _) | (with_reducible refine bl_dn ?_ _) | (with_reducible refine bl_drew ?_) | (with_reducible refine bl_then ?_ (by with_reducible assumption))))
  have hz5 : w4.heap.size + 2 = ((w4.alloc (.cells #[.int .i64 a.k, .int .i64 a.r, .int .i64 a.l0, .int .i64 a.l1, .slice (some ⟨w4.heap.size + 1, 0, none⟩) a.xs.length a.xs.length] 25)).alloc (.cells (blank a.xs.length) 2)).heap.size := by simp
  change Code.wp _ _ _ _ ((w4.alloc (.cells #[.int .i64 a.k, .int .i64 a.r, .int .i64 a.l0, .int .i64 a.l1, .slice (some ⟨w4.heap.size + 1, 0, none⟩) a.xs.length a.xs.length] 25)).alloc (.cells (blank a.xs.length) 2))
  generalize ((w4.alloc (.cells #[.int .i64 a.k, .int .i64 a.r, .int .i64 a.l0, .int .i64 a.l1, .slice (some ⟨w4.heap.size + 1, 0, none⟩) a.xs.length a.xs.length] 25)).alloc (.cells (blank a.xs.length) 2)) = w5 at *
  clear a0 a1 a2 a3 a4 b0 b1 b2 b3 b4 sa sb za zb hbw
  go_loopw [9] (fun i wr => ∃ (k : Nat) (ys : List Int), k ≤ a.xs.length ∧ i = .int .i64 k ∧ Hid (ys.length = a.xs.length) ∧ Hid (∀ j, j < k → ys.getD j 0 = x) ∧ Hid (Acc wr (w4.heap.size + 1) (.slice (some ⟨w4.heap.size + 1, 0, none⟩) a.xs.length a.xs.length) ys) ∧ Hid (Off (w4.heap.size + 1) (w4.heap.size + 2) w5 wr)) (fun i _ => a.xs.length - (intOf i).toNat)
  case atStart => exact ⟨0, List.replicate a.xs.length 0, Nat.zero_le _, rfl, by show _ = _; simp, (by intro j hj; omega), HC, Off.refl _ _ _⟩
  case round =>
    obtain ⟨k, ys, hk, rfl, hy, hv, hac, hof⟩ := hrel
    have hb4 := hof.out.base hb5.out (by omega) (by omega)
    have zs : w5.heap.size ≤ wr.heap.size := hof.out.2.2.2.1
    obtain ⟨o0, o1, o2, o3, o4⟩ := hof.out.arr HO.out (.inl (by omega))
    have zo : w4.heap.size < wr.heap.size := by omega
    have st5 := hide (st4.out.below hb4)
    obtain ⟨hbw, ⟨⟨b0, b1, b2, b3, b4⟩, sb, zb⟩, ⟨⟨a0, a1, a2, a3, a4⟩, sa, za⟩, _⟩ := st5.out
    by_cases hlt : k < a.xs.length
    · obtain ⟨g, y, eg, hg1, hg2, hck, hgy, hfr, hput⟩ := hac.out.place hy.out hlt
      injection eg with eg; injection eg with eg
      subst eg
      go_wp2
      go_roundw
      case rel => exact ⟨k + 1, ys.set k x, by omega, by go_num, (by show _ = _; rw [List.length_set]; exact hy.out), (by
          intro j hj
          by_cases e : j = k
          · subst e; rw [List.getD_eq_getElem?_getD, List.getElem?_set_self (by rw [hy.out]; exact hlt)]; rfl
          · rw [List.getD_eq_getElem?_getD, List.getElem?_set_ne (Ne.symm e), ← List.getD_eq_getElem?_getD]; exact hv.out j (by omega)), hput _, hof.out.set (by simp) (by simp) _⟩
      case measure => simp [intOf]; omega
    · have HY : Hid (ys = List.replicate a.xs.length x) := by
        show _ = _
        refine List.ext_getElem (by rw [hy.out, List.length_replicate]) fun j hj hj' => ?_
        rw [List.getElem_replicate]
        have := hv.out j (by rw [hy.out] at hj; omega)
        rw [List.getD_eq_getElem?_getD, List.getElem?_eq_getElem hj] at this
        exact this
      have HK : Hid (copies a x = ⟨a.k, a.r, a.l0, a.l1, ys⟩) := by show _ = _; rw [HY.out]; rfl
      have hyl := hy.out
      have HKF : Hid (Fine (copies a x)) := by
        rw [HK.out]
        exact ⟨by show ys.length ≤ _; rw [hyl]; exact HA.out.1, f0, f1, by
          intro y hm
          have hm : y ∈ ys := hm
          rw [HY.out] at hm
          rw [(List.mem_replicate.1 hm).2]; exact hfx⟩
      have sk : Sl wr (some ⟨w4.heap.size + 1, 0, none⟩) (copies a x).xs := by rw [HK.out]; exact acc_sl hac.out
      have hkl : Hid ((copies a x).xs.length = a.xs.length) := by show _ = _; rw [HK.out]; exact hyl
      have st6 : Hid (St w wr ((w4.heap.size, copies a x, some ⟨w4.heap.size + 1, 0, none⟩, a.xs.length) :: [(w3.heap.size, scalar a.k x, V, cv), (w.heap.size, a, A, c)])) := ⟨hbw, ⟨by rw [hkl.out]; exact ⟨o0, o1, o2, o3, o4⟩, sk, zo⟩, st5.out.2⟩
      clear o0 o1 o2 o3 o4 zo sk hac hof hv hyl hb4 HC HO hb5 hmk st5 hg4 hg3
      clear b0 b1 b2 b3 b4 sb zb
      obtain ⟨hbw, ⟨⟨q0, q1, q2, q3, q4⟩, sq, zq⟩, ⟨⟨b0, b1, b2, b3, b4⟩, sb, zb⟩, _⟩ := st6.out
      go_wp2_with fail; refine (two_go p a (scalar a.k x) _ _ _ _ HA HS HR _ (sa.below (by (repeat (first | with_reducible exact Below.refl _ _ | with_reducible assumption | (with_reducible refine bl_set ?_ (by simp; try omega) _) | (with_reducible refine bl_alloc ?_ _) | (with_reducible refine bl_dn ?_ _) | (with_reducible refine bl_drew ?_) | (with_reducible refine bl_then ?_ (by with_reducible assumption)))))) (sb.below (by (repeat (first | with_reducible exact Below.refl _ _ | with_reducible assumption | (with_reducible refine bl_set ?_ (by simp; try omega) _) | (with_reducible refine bl_alloc ?_ _) | (with_reducible refine bl_dn ?_ _) | (with_reducible refine bl_drew ?_) | (with_reducible refine bl_then ?_ (by with_reducible assumption))))))).mono ?_; rintro e w7 ⟨hgw7, Cw7, cw7, rfl, hsw7, hgew7, hcpw7⟩
      have st7 := hide (st6.out.below hgw7)
      clear hbw; clear q0 q1 q2 q3 q4 sq zq; clear b0 b1 b2 b3 b4 sb zb; clear a0 a1 a2 a3 a4 sa za
      obtain ⟨hbw, ⟨⟨q0, q1, q2, q3, q4⟩, sq, zq⟩, ⟨⟨b0, b1, b2, b3, b4⟩, sb, zb⟩, ⟨⟨a0, a1, a2, a3, a4⟩, sa, za⟩, _⟩ := st7.out
      go_wp2_with fail; refine (two_go p a (copies a x) _ _ _ _ HA HKF HR2 _ (sa.below (by (repeat (first | with_reducible exact Below.refl _ _ | with_reducible assumption | (with_reducible refine bl_set ?_ (by simp; try omega) _) | (with_reducible refine bl_alloc ?_ _) | (with_reducible refine bl_dn ?_ _) | (with_reducible refine bl_drew ?_) | (with_reducible refine bl_then ?_ (by with_reducible assumption)))))) (sq.below (by (repeat (first | with_reducible exact Below.refl _ _ | with_reducible assumption | (with_reducible refine bl_set ?_ (by simp; try omega) _) | (with_reducible refine bl_alloc ?_ _) | (with_reducible refine bl_dn ?_ _) | (with_reducible refine bl_drew ?_) | (with_reducible refine bl_then ?_ (by with_reducible assumption))))))).mono ?_; rintro e w8 ⟨hgw8, Cw8, cw8, rfl, hsw8, hgew8, hcpw8⟩
      have st8 := hide (st7.out.push hsw7 hgw8)
      clear hbw; clear q0 q1 q2 q3 q4 sq zq; clear b0 b1 b2 b3 b4 sb zb; clear a0 a1 a2 a3 a4 sa za
      obtain ⟨hbw, _, ⟨⟨q0, q1, q2, q3, q4⟩, sq, zq⟩, ⟨⟨b0, b1, b2, b3, b4⟩, sb, zb⟩, ⟨⟨a0, a1, a2, a3, a4⟩, sa, za⟩, _⟩ := st8.out
      go_wp2_with fail; refine (two_go p (scalar a.k x) a _ _ _ _ HS HA HU _ (sb.below (by (repeat (first | with_reducible exact Below.refl _ _ | with_reducible assumption | (with_reducible refine bl_set ?_ (by simp; try omega) _) | (with_reducible refine bl_alloc ?_ _) | (with_reducible refine bl_dn ?_ _) | (with_reducible refine bl_drew ?_) | (with_reducible refine bl_then ?_ (by with_reducible assumption)))))) (sa.below (by (repeat (first | with_reducible exact Below.refl _ _ | with_reducible assumption | (with_reducible refine bl_set ?_ (by simp; try omega) _) | (with_reducible refine bl_alloc ?_ _) | (with_reducible refine bl_dn ?_ _) | (with_reducible refine bl_drew ?_) | (with_reducible refine bl_then ?_ (by with_reducible assumption))))))).mono ?_; rintro e w9 ⟨hgw9, Cw9, cw9, rfl, hsw9, hgew9, hcpw9⟩
      have st9 := hide (st8.out.push hsw8 hgw9)
      clear hbw; clear q0 q1 q2 q3 q4 sq zq; clear b0 b1 b2 b3 b4 sb zb; clear a0 a1 a2 a3 a4 sa za
      obtain ⟨hbw, _, _, ⟨⟨q0, q1, q2, q3, q4⟩, sq, zq⟩, ⟨⟨b0, b1, b2, b3, b4⟩, sb, zb⟩, ⟨⟨a0, a1, a2, a3, a4⟩, sa, za⟩, _⟩ := st9.out
      go_wp2_with fail; refine (two_go p (copies a x) a _ _ _ _ HKF HA HU2 _ (sq.below (by (repeat (first | with_reducible exact Below.refl _ _ | with_reducible assumption | (with_reducible refine bl_set ?_ (by simp; try omega) _) | (with_reducible refine bl_alloc ?_ _) | (with_reducible refine bl_dn ?_ _) | (with_reducible refine bl_drew ?_) | (with_reducible refine bl_then ?_ (by with_reducible assumption)))))) (sa.below (by (repeat (first | with_reducible exact Below.refl _ _ | with_reducible assumption | (with_reducible refine bl_set ?_ (by simp; try omega) _) | (with_reducible refine bl_alloc ?_ _) | (with_reducible refine bl_dn ?_ _) | (with_reducible refine bl_drew ?_) | (with_reducible refine bl_then ?_ (by with_reducible assumption))))))).mono ?_; rintro e w10 ⟨hgw10, Cw10, cw10, rfl, hsw10, hgew10, hcpw10⟩
      have st10 := hide (st9.out.push hsw9 hgw10)
      clear hbw; clear q0 q1 q2 q3 q4 sq zq; clear b0 b1 b2 b3 b4 sb zb; clear a0 a1 a2 a3 a4 sa za
      obtain ⟨hbw, _, ⟨⟨f0, f1, f2, f3, f4⟩, sf, zf⟩, ⟨⟨e0, e1, e2, e3, e4⟩, se, ze⟩, _, _, _, _⟩ := st10.out
      go_wp2_with fail
      refine (alike_any R R _ _ _ _ er er HRL.out HRL.out _ (se.below (by (repeat (first | with_reducible exact Below.refl _ _ | with_reducible assumption | (with_reducible refine bl_set ?_ (by simp; try omega) _) | (with_reducible refine bl_alloc ?_ _) | (with_reducible refine bl_dn ?_ _) | (with_reducible refine bl_drew ?_) | (with_reducible refine bl_then ?_ (by with_reducible assumption)))))) (sf.below (by (repeat (first | with_reducible exact Below.refl _ _ | with_reducible assumption | (with_reducible refine bl_set ?_ (by simp; try omega) _) | (with_reducible refine bl_alloc ?_ _) | (with_reducible refine bl_dn ?_ _) | (with_reducible refine bl_drew ?_) | (with_reducible refine bl_then ?_ (by with_reducible assumption))))))).mono ?_
      rw [same_yes]
      rintro e w11 ⟨rfl, hg11⟩
      have st11 := hide (st10.out.push hsw10 hg11)
      clear hbw; clear f0 f1 f2 f3 f4 sf zf; clear e0 e1 e2 e3 e4 se ze
      obtain ⟨hbw, ⟨⟨f0, f1, f2, f3, f4⟩, sf, zf⟩, ⟨⟨e0, e1, e2, e3, e4⟩, se, ze⟩, _⟩ := st11.out
      go_wp2_with fail
      refine (alike_any U U _ _ _ _ es es HUL.out HUL.out _ (se.below (by (repeat (first | with_reducible exact Below.refl _ _ | with_reducible assumption | (with_reducible refine bl_set ?_ (by simp; try omega) _) | (with_reducible refine bl_alloc ?_ _) | (with_reducible refine bl_dn ?_ _) | (with_reducible refine bl_drew ?_) | (with_reducible refine bl_then ?_ (by with_reducible assumption)))))) (sf.below (by (repeat (first | with_reducible exact Below.refl _ _ | with_reducible assumption | (with_reducible refine bl_set ?_ (by simp; try omega) _) | (with_reducible refine bl_alloc ?_ _) | (with_reducible refine bl_dn ?_ _) | (with_reducible refine bl_drew ?_) | (with_reducible refine bl_then ?_ (by with_reducible assumption))))))).mono ?_
      rw [same_yes]
      rintro e w12 ⟨rfl, hg12⟩
      go_wp2_with fail
      refine (awake10 _).mono ?_
      rintro e w13 ⟨rfl, hg13⟩
      go_wp2
      go_ret
      exact ⟨rfl, by (repeat (first | with_reducible exact Below.refl _ _ | with_reducible assumption | (with_reducible refine bl_set ?_ (by simp; try omega) _) | (with_reducible refine bl_alloc ?_ _) | (with_reducible refine bl_dn ?_ _) | (with_reducible refine bl_drew ?_) | (with_reducible refine bl_then ?_ (by with_reducible assumption))))⟩
theorem scal_walk (p x : Int) (a : Arr) (A : Option Addr) (c : Nat) (hfx : Fits x) (f0 : Fits a.l0) (f1 : Fits a.l1) (hx : ∀ x ∈ a.xs, Fits x) (w : World) (hs : Sl w A a.xs) :
    Calls Try.prog 6 #[.int .i64 p, .agg #[.int .i64 a.k, .int .i64 a.r, .int .i64 a.l0, .int .i64 a.l1, .slice A a.xs.length c], .int .i64 x] w fun e w' => e = .returned (.bool true) ∧ Below w.heap.size w w' := by
  by_cases h : 405 < a.xs.length
  · exact scal_far p x a A c w h
  by_cases h2 : chk a = 0
  · by_cases h3 : chk (scalar a.k x) = 0
    · exact scal_main p x a A c hfx f0 f1 hx w hs h h2 h3
    · exact scal_rune p x a A c (by omega) f0 f1 w hs h h2 h3
  · exact scal_bad p x a A c (by omega) f0 f1 w hs h h2
end Ar
end Go.Proofs.Ytfpnafeildigaaa
