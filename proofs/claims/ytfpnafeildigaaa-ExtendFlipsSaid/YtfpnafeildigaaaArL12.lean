/-
The walk of ExtendFlips (chapter 10).
-/
import Derived.Test.YtfpnafeildigaaaArL10
import Derived.Test.YtfpnafeildigaaaArFl
set_option linter.unusedSimpArgs false
set_option linter.unusedVariables false
namespace Go.Proofs.Ytfpnafeildigaaa
namespace Ar
open Go.RowKit Sc
theorem flip_go (a : Arr) (A : Option Addr) (c : Nat) (ha : Hid (chk a = 0)) {er : Int} {R : Arr} (hE : Hid (extFlip a = (er, R))) (w : World) (hs : Sl w A a.xs) :
    Calls Try.prog 39 #[.agg #[.int .i64 a.k, .int .i64 a.r, .int .i64 a.l0, .int .i64 a.l1, .slice A a.xs.length c]] w fun e w' => Below w.heap.size w w' ∧ ∃ (C : Option Addr) (n : Nat), e = .returned (.tuple #[.agg #[.int .i64 R.k, .int .i64 R.r, .int .i64 R.l0, .int .i64 R.l1, .slice C R.xs.length n], .int .i64 er]) ∧ Sl w' C R.xs ∧ (∀ g o, C = some ⟨g, o, none⟩ → w.heap.size ≤ g) ∧ R.xs.length ≤ n := by
  obtain ⟨h1, h2, h3⟩ := chk_fit ha.out
  have h := flip_any a A c (by omega) h2 h3 w hs
  rw [hE.out] at h
  exact h
theorem ravel_go (a : Arr) (A : Option Addr) (c : Nat) (ha : Hid (a.xs.length ≤ 100000 ∧ Fits a.l0 ∧ Fits a.l1)) {er : Int} {R : Arr} (hE : Hid (extRavel a = (er, R))) (w : World) (hs : Sl w A a.xs) :
    Calls Try.prog 40 #[.agg #[.int .i64 a.k, .int .i64 a.r, .int .i64 a.l0, .int .i64 a.l1, .slice A a.xs.length c]] w fun e w' => Below w.heap.size w w' ∧ ∃ (C : Option Addr) (n : Nat), e = .returned (.tuple #[.agg #[.int .i64 R.k, .int .i64 R.r, .int .i64 R.l0, .int .i64 R.l1, .slice C R.xs.length n], .int .i64 er]) ∧ Sl w' C R.xs ∧ (∀ g o, C = some ⟨g, o, none⟩ → w.heap.size ≤ g) ∧ R.xs.length ≤ n := by
  obtain ⟨h1, h2, h3⟩ := ha.out
  have h := ravel_any a A c h1 h2 h3 w hs
  rw [hE.out] at h
  exact h
theorem extOne_fit {p : Int} {a : Arr} (f0 : Fits a.l0) (f1 : Fits a.l1) : Fits (extOne p a).2.l0 ∧ Fits (extOne p a).2.l1 := by
  have z : Fits Arr.zero.l0 ∧ Fits Arr.zero.l1 := by decide
  unfold extOne
  split
  · exact z
  split
  · exact z
  split
  · exact z
  split
  · exact z
  · exact ⟨f0, f1⟩
theorem fine_flipped {a : Arr} (ca : chk a = 0) (hr : a.r = 2) (h : Fine a) : Fine (flipped a) := by
  obtain ⟨h1, h2, h3, h4⟩ := h
  exact ⟨by unfold flipped; rw [reix_len]; exact h1, h3, h2, reix_all (move_mat ca hr) h4⟩
theorem fine_ravel {a : Arr} (h : Fine a) : Fine (vec' a.k a.xs) :=
  ⟨h.1, by have := h.1; show -9223372036854775808 ≤ (a.xs.length : Int) ∧ (a.xs.length : Int) ≤ 9223372036854775807; omega, (by show Fits 0; decide), h.2.2.2⟩
set_option maxRecDepth 100000 in
set_option maxHeartbeats 8000000 in
theorem flips_walk (p : Int) (a b : Arr) (A B : Option Addr) (c d : Nat) (f0 : Fits a.l0) (f1 : Fits a.l1) (hx : ∀ x ∈ a.xs, Fits x) (g0 : Fits b.l0) (g1 : Fits b.l1) (hy : ∀ x ∈ b.xs, Fits x) (w : World) (hs : Sl w A a.xs) (ht : Sl w B b.xs) :
    Calls Try.prog 9 #[.int .i64 p, .agg #[.int .i64 a.k, .int .i64 a.r, .int .i64 a.l0, .int .i64 a.l1, .slice A a.xs.length c], .agg #[.int .i64 b.k, .int .i64 b.r, .int .i64 b.l0, .int .i64 b.l1, .slice B b.xs.length d]] w fun e w' => e = .returned (.bool true) ∧ Below w.heap.size w w' := by
  have HX := hide hx; have HY := hide hy
  have neqs := fun (p q r s : Int) (w : World) => neq_lens p q r s w
  clear hx hy
  go_enter Try.func9, Try.ntmps9
  go_wp2_with fail
  have st0 := hide (((St.init w).box c hs).box d (ht.below (bl_new _ _)))
  simp only [World.size_alloc] at st0
  obtain ⟨hbw, ⟨⟨b0, b1, b2, b3, b4⟩, sb, zb⟩, ⟨⟨a0, a1, a2, a3, a4⟩, sa, za⟩, _⟩ := st0.out
  go_wp2_with fail
  refine (far_any a A c _).mono ?_
  cases hFa : decide (405 < (a.xs.length : Int))
  rotate_left
  · rintro e w98 ⟨rfl, hg98⟩
    have st98 := hide (st0.out.below hg98)
    clear hbw; clear a0 a1 a2 a3 a4 sa za; clear b0 b1 b2 b3 b4 sb zb
    obtain ⟨hbw, ⟨⟨b0, b1, b2, b3, b4⟩, sb, zb⟩, ⟨⟨a0, a1, a2, a3, a4⟩, sa, za⟩, _⟩ := st98.out
    go_wp2_with fail
    refine (awake10 _).mono ?_
    rintro e w99 ⟨rfl, hg99⟩
    go_wp2
    go_ret
    exact ⟨rfl, by (repeat (first | with_reducible exact Below.refl _ _ | with_reducible assumption | (with_reducible refine bl_set ?_ (by simp; try omega) _) | (with_reducible refine bl_alloc ?_ _) | (with_reducible refine bl_dn ?_ _) | (with_reducible refine bl_drew ?_) | (with_reducible refine bl_then ?_ (by with_reducible assumption))))⟩
  have hFa := hide hFa
  rintro e w1 ⟨rfl, hg1⟩
  have st1 := hide (st0.out.below hg1)
  clear hbw st0 hg1; clear a0 a1 a2 a3 a4 sa za; clear b0 b1 b2 b3 b4 sb zb
  obtain ⟨hbw, ⟨⟨b0, b1, b2, b3, b4⟩, sb, zb⟩, ⟨⟨a0, a1, a2, a3, a4⟩, sa, za⟩, _⟩ := st1.out
  go_wp2_with fail
  refine (far_any b B d _).mono ?_
  cases hFb : decide (405 < (b.xs.length : Int))
  rotate_left
  · rintro e w98 ⟨rfl, hg98⟩
    have st98 := hide (st1.out.below hg98)
    clear hbw; clear a0 a1 a2 a3 a4 sa za; clear b0 b1 b2 b3 b4 sb zb
    obtain ⟨hbw, ⟨⟨b0, b1, b2, b3, b4⟩, sb, zb⟩, ⟨⟨a0, a1, a2, a3, a4⟩, sa, za⟩, _⟩ := st98.out
    go_wp2_with fail
    refine (awake10 _).mono ?_
    rintro e w99 ⟨rfl, hg99⟩
    go_wp2
    go_ret
    exact ⟨rfl, by (repeat (first | with_reducible exact Below.refl _ _ | with_reducible assumption | (with_reducible refine bl_set ?_ (by simp; try omega) _) | (with_reducible refine bl_alloc ?_ _) | (with_reducible refine bl_dn ?_ _) | (with_reducible refine bl_drew ?_) | (with_reducible refine bl_then ?_ (by with_reducible assumption))))⟩
  have hFb := hide hFb
  rintro e w2 ⟨rfl, hg2⟩
  have st2 := hide (st1.out.below hg2)
  clear hbw st1 hg2; clear a0 a1 a2 a3 a4 sa za; clear b0 b1 b2 b3 b4 sb zb
  obtain ⟨hbw, ⟨⟨b0, b1, b2, b3, b4⟩, sb, zb⟩, ⟨⟨a0, a1, a2, a3, a4⟩, sa, za⟩, _⟩ := st2.out
  go_wp2_with fail
  refine (Ref.ac_any a A c (by have := decide_eq_false_iff_not.1 hFa.out; omega) f0 f1 _ (sa.below (by (repeat (first | with_reducible exact Below.refl _ _ | with_reducible assumption | (with_reducible refine bl_set ?_ (by simp; try omega) _) | (with_reducible refine bl_alloc ?_ _) | (with_reducible refine bl_dn ?_ _) | (with_reducible refine bl_drew ?_) | (with_reducible refine bl_then ?_ (by with_reducible assumption))))))).mono ?_
  cases hNa : (chk a != 0)
  rotate_left
  · rintro e w98 ⟨rfl, hg98⟩
    have st98 := hide (st2.out.below hg98)
    clear hbw; clear a0 a1 a2 a3 a4 sa za; clear b0 b1 b2 b3 b4 sb zb
    obtain ⟨hbw, ⟨⟨b0, b1, b2, b3, b4⟩, sb, zb⟩, ⟨⟨a0, a1, a2, a3, a4⟩, sa, za⟩, _⟩ := st98.out
    go_wp2_with fail
    refine (awake10 _).mono ?_
    rintro e w99 ⟨rfl, hg99⟩
    go_wp2
    go_ret
    exact ⟨rfl, by (repeat (first | with_reducible exact Below.refl _ _ | with_reducible assumption | (with_reducible refine bl_set ?_ (by simp; try omega) _) | (with_reducible refine bl_alloc ?_ _) | (with_reducible refine bl_dn ?_ _) | (with_reducible refine bl_drew ?_) | (with_reducible refine bl_then ?_ (by with_reducible assumption))))⟩
  have ca : Hid (chk a = 0) := by show _ = _; simpa using hNa
  rw [ca.out]
  clear hNa
  rintro e w3 ⟨rfl, hg3⟩
  have st3 := hide (st2.out.below hg3)
  clear hbw st2 hg3; clear a0 a1 a2 a3 a4 sa za; clear b0 b1 b2 b3 b4 sb zb
  obtain ⟨hbw, ⟨⟨b0, b1, b2, b3, b4⟩, sb, zb⟩, ⟨⟨a0, a1, a2, a3, a4⟩, sa, za⟩, _⟩ := st3.out
  go_wp2_with fail
  refine (Ref.ac_any b B d (by have := decide_eq_false_iff_not.1 hFb.out; omega) g0 g1 _ (sb.below (by (repeat (first | with_reducible exact Below.refl _ _ | with_reducible assumption | (with_reducible refine bl_set ?_ (by simp; try omega) _) | (with_reducible refine bl_alloc ?_ _) | (with_reducible refine bl_dn ?_ _) | (with_reducible refine bl_drew ?_) | (with_reducible refine bl_then ?_ (by with_reducible assumption))))))).mono ?_
  cases hNb : (chk b != 0)
  rotate_left
  · rintro e w98 ⟨rfl, hg98⟩
    have st98 := hide (st3.out.below hg98)
    clear hbw; clear a0 a1 a2 a3 a4 sa za; clear b0 b1 b2 b3 b4 sb zb
    obtain ⟨hbw, ⟨⟨b0, b1, b2, b3, b4⟩, sb, zb⟩, ⟨⟨a0, a1, a2, a3, a4⟩, sa, za⟩, _⟩ := st98.out
    go_wp2_with fail
    refine (awake10 _).mono ?_
    rintro e w99 ⟨rfl, hg99⟩
    go_wp2
    go_ret
    exact ⟨rfl, by (repeat (first | with_reducible exact Below.refl _ _ | with_reducible assumption | (with_reducible refine bl_set ?_ (by simp; try omega) _) | (with_reducible refine bl_alloc ?_ _) | (with_reducible refine bl_dn ?_ _) | (with_reducible refine bl_drew ?_) | (with_reducible refine bl_then ?_ (by with_reducible assumption))))⟩
  have cb : Hid (chk b = 0) := by show _ = _; simpa using hNb
  rw [cb.out]
  clear hNb
  rintro e w4 ⟨rfl, hg4⟩
  have st4 := hide (st3.out.below hg4)
  clear hbw st3 hg4; clear a0 a1 a2 a3 a4 sa za; clear b0 b1 b2 b3 b4 sb zb
  obtain ⟨hbw, ⟨⟨b0, b1, b2, b3, b4⟩, sb, zb⟩, ⟨⟨a0, a1, a2, a3, a4⟩, sa, za⟩, _⟩ := st4.out
  have HA : Hid (Fine a) := ⟨by have := decide_eq_false_iff_not.1 hFa.out; omega, f0, f1, HX.out⟩
  have HB : Hid (Fine b) := ⟨by have := decide_eq_false_iff_not.1 hFb.out; omega, g0, g1, HY.out⟩
  clear hFa hFb HX HY hs ht f0 f1 g0 g1
  cases hra : (a.r != 2)
  rotate_left
  · (go_wp2_with fail; refine (awake10 _).mono ?_; rintro e w99 ⟨rfl, hg99⟩; go_wp2; go_ret; exact ⟨rfl, by (repeat (first | with_reducible exact Below.refl _ _ | with_reducible assumption | (with_reducible refine bl_set ?_ (by simp; try omega) _) | (with_reducible refine bl_alloc ?_ _) | (with_reducible refine bl_dn ?_ _) | (with_reducible refine bl_drew ?_) | (with_reducible refine bl_then ?_ (by with_reducible assumption))))⟩)
  cases hrb : (b.r != 2)
  rotate_left
  · (go_wp2_with fail; refine (awake10 _).mono ?_; rintro e w99 ⟨rfl, hg99⟩; go_wp2; go_ret; exact ⟨rfl, by (repeat (first | with_reducible exact Below.refl _ _ | with_reducible assumption | (with_reducible refine bl_set ?_ (by simp; try omega) _) | (with_reducible refine bl_alloc ?_ _) | (with_reducible refine bl_dn ?_ _) | (with_reducible refine bl_drew ?_) | (with_reducible refine bl_then ?_ (by with_reducible assumption))))⟩)
  have ra : Hid (a.r = 2) := by show _ = _; simpa using hra
  have rb : Hid (b.r = 2) := by show _ = _; simpa using hrb
  cases hll : (a.l0 == b.l0 && a.l1 == b.l1)
  · have hl2 : (!(a.l0 == b.l0 && a.l1 == b.l1)) = true := by rw [hll]; rfl
    (go_wp2_with fail; refine (awake10 _).mono ?_; rintro e w99 ⟨rfl, hg99⟩; go_wp2; go_ret; exact ⟨rfl, by (repeat (first | with_reducible exact Below.refl _ _ | with_reducible assumption | (with_reducible refine bl_set ?_ (by simp; try omega) _) | (with_reducible refine bl_alloc ?_ _) | (with_reducible refine bl_dn ?_ _) | (with_reducible refine bl_drew ?_) | (with_reducible refine bl_then ?_ (by with_reducible assumption))))⟩)
  have hl2 : (!(a.l0 == b.l0 && a.l1 == b.l1)) = false := by rw [hll]; rfl
  have el : Hid (a.l0 = b.l0 ∧ a.l1 = b.l1) := by show _ ∧ _; simpa using hll
  obtain ⟨er, R, hR⟩ : ∃ er R, extTwo p a b = (er, R) := ⟨_, _, rfl⟩
  obtain ⟨eg, G, hG⟩ : ∃ er R, extTwo p (flipped a) (flipped b) = (er, R) := ⟨_, _, rfl⟩
  obtain ⟨eh, H, hH⟩ : ∃ er R, extTwo p (vec' a.k a.xs) (vec' b.k b.xs) = (er, R) := ⟨_, _, rfl⟩
  obtain ⟨ei, M, hM⟩ : ∃ er R, extOne p a = (er, R) := ⟨_, _, rfl⟩
  obtain ⟨ej, N, hN⟩ : ∃ er R, extOne p (vec' a.k a.xs) = (er, R) := ⟨_, _, rfl⟩
  obtain ⟨ek, K, hK⟩ : ∃ er R, extRavel M = (er, R) := ⟨_, _, rfl⟩
  have T1 := flips (p := p) ca.out cb.out ra.out rb.out el.out.1 el.out.2
  have T2 := ravels (p := p) ca.out cb.out ra.out rb.out el.out.1 el.out.2
  have T3 := ravel_one (p := p) ca.out
  rw [hR, hG] at T1
  rw [hR, hH] at T2
  rw [hM, hN] at T3
  obtain ⟨t2, T2'⟩ := T2
  obtain ⟨t3, T3'⟩ := T3
  simp only at t2 t3
  subst t2 t3
  have hcR : Hid (er = 0 → chk R = 0) := by
    intro e; have h := two_chk (p := p) ca.out cb.out (by rw [hR]; exact e); rw [hR] at h; exact h
  have LG : Hid (G.xs.length ≤ 9223372036854775807) := by show _ ≤ _; have hh := extTwo_len p (flipped a) (flipped b); rw [hG] at hh; have := (fine_flipped ca.out ra.out HA.out).1; have := (fine_flipped cb.out rb.out HB.out).1; exact Nat.le_trans hh (by omega)
  have LH : Hid (H.xs.length ≤ 9223372036854775807) := by show _ ≤ _; have hh := extTwo_len p (vec' a.k a.xs) (vec' b.k b.xs); rw [hH] at hh; have := (fine_ravel HA.out).1; have := (fine_ravel HB.out).1; exact Nat.le_trans hh (by omega)
  have LN : Hid (N.xs.length ≤ 9223372036854775807) := by show _ ≤ _; have hh := extOne_len p (vec' a.k a.xs); rw [hN] at hh; have := (fine_ravel HA.out).1; exact Nat.le_trans hh (by omega)
  have HMF : Hid (M.xs.length ≤ 100000 ∧ Fits M.l0 ∧ Fits M.l1) := by
    have hh := extOne_len p a; rw [hM] at hh
    have h2 := extOne_fit (p := p) HA.out.2.1 HA.out.2.2.1; rw [hM] at h2
    exact ⟨Nat.le_trans hh HA.out.1, h2⟩
  have T1 := hide T1; have T2 := hide T2'; have T3 := hide T3'
  have HR := hide hR; have HG := hide hG; have HH := hide hH; have HM := hide hM; have HN := hide hN; have HK := hide hK
  have HFA := hide (fine_flipped ca.out ra.out HA.out); have HFB := hide (fine_flipped cb.out rb.out HB.out)
  have HVA := hide (fine_ravel HA.out); have HVB := hide (fine_ravel HB.out)
  have HEA := hide (flip_yes ca.out ra.out); have HEB := hide (flip_yes cb.out rb.out)
  have HZA := hide (ravel_yes ca.out); have HZB := hide (ravel_yes cb.out)
  have HLA : Hid (a.xs.length ≤ 100000 ∧ Fits a.l0 ∧ Fits a.l1) := ⟨HA.out.1, HA.out.2.1, HA.out.2.2.1⟩
  have HLB : Hid (b.xs.length ≤ 100000 ∧ Fits b.l0 ∧ Fits b.l1) := ⟨HB.out.1, HB.out.2.1, HB.out.2.2.1⟩
  clear hR hG hH hM hN hK T2' T3' ra rb el
  go_wp2_with fail; refine (two_go p a b _ _ _ _ HA HB HR _ (sa.below (by (repeat (first | with_reducible exact Below.refl _ _ | with_reducible assumption | (with_reducible refine bl_set ?_ (by simp; try omega) _) | (with_reducible refine bl_alloc ?_ _) | (with_reducible refine bl_dn ?_ _) | (with_reducible refine bl_drew ?_) | (with_reducible refine bl_then ?_ (by with_reducible assumption)))))) (sb.below (by (repeat (first | with_reducible exact Below.refl _ _ | with_reducible assumption | (with_reducible refine bl_set ?_ (by simp; try omega) _) | (with_reducible refine bl_alloc ?_ _) | (with_reducible refine bl_dn ?_ _) | (with_reducible refine bl_drew ?_) | (with_reducible refine bl_then ?_ (by with_reducible assumption))))))).mono ?_; rintro e v5 ⟨hgv5, Cv5, cv5, rfl, hsv5, hgev5, hcpv5⟩
  clear hra hrb hll hl2 neqs; clear a0 a1 a2 a3 a4 sa za; clear b0 b1 b2 b3 b4 sb zb
  have st6x := hide (st4.out.below hgv5)
  clear hbw hgv5 hgev5 st4
  go_upto_region 4 with fail
  have st6 := hide (st6x.out.box cv5 hsv5 25)
  change Code.wp _ _ _ _ (v5.alloc (.cells #[.int .i64 R.k, .int .i64 R.r, .int .i64 R.l0, .int .i64 R.l1, .slice Cv5 R.xs.length cv5] 25))
  generalize (v5.alloc (.cells #[.int .i64 R.k, .int .i64 R.r, .int .i64 R.l0, .int .i64 R.l1, .slice Cv5 R.xs.length cv5] 25)) = w6 at *
  generalize v5.heap.size = P5 at *
  clear st6x
  obtain ⟨hbw, _, ⟨⟨b0, b1, b2, b3, b4⟩, sb, zb⟩, ⟨⟨a0, a1, a2, a3, a4⟩, sa, za⟩, _⟩ := st6.out
  go_wp2_with fail; refine (flip_go a _ _ ca HEA _ (sa.below (by (repeat (first | with_reducible exact Below.refl _ _ | with_reducible assumption | (with_reducible refine bl_set ?_ (by simp; try omega) _) | (with_reducible refine bl_alloc ?_ _) | (with_reducible refine bl_dn ?_ _) | (with_reducible refine bl_drew ?_) | (with_reducible refine bl_then ?_ (by with_reducible assumption))))))).mono ?_; rintro e v6 ⟨hgv6, Cv6, cv6, rfl, hsv6, hgev6, hcpv6⟩
  clear a0 a1 a2 a3 a4 sa za; clear b0 b1 b2 b3 b4 sb zb
  have st7x := hide (st6.out.below hgv6)
  clear hbw hgv6 hgev6 st6
  go_upto_region 5 with fail
  have st7 := hide (st7x.out.box cv6 hsv6 25)
  change Code.wp _ _ _ _ (v6.alloc (.cells #[.int .i64 (flipped a).k, .int .i64 (flipped a).r, .int .i64 (flipped a).l0, .int .i64 (flipped a).l1, .slice Cv6 (flipped a).xs.length cv6] 25))
  generalize (v6.alloc (.cells #[.int .i64 (flipped a).k, .int .i64 (flipped a).r, .int .i64 (flipped a).l0, .int .i64 (flipped a).l1, .slice Cv6 (flipped a).xs.length cv6] 25)) = w7 at *
  generalize v6.heap.size = P6 at *
  clear st7x
  obtain ⟨hbw, _, _, ⟨⟨b0, b1, b2, b3, b4⟩, sb, zb⟩, ⟨⟨a0, a1, a2, a3, a4⟩, sa, za⟩, _⟩ := st7.out
  go_wp2_with fail; refine (flip_go b _ _ cb HEB _ (sb.below (by (repeat (first | with_reducible exact Below.refl _ _ | with_reducible assumption | (with_reducible refine bl_set ?_ (by simp; try omega) _) | (with_reducible refine bl_alloc ?_ _) | (with_reducible refine bl_dn ?_ _) | (with_reducible refine bl_drew ?_) | (with_reducible refine bl_then ?_ (by with_reducible assumption))))))).mono ?_; rintro e v7 ⟨hgv7, Cv7, cv7, rfl, hsv7, hgev7, hcpv7⟩
  clear a0 a1 a2 a3 a4 sa za; clear b0 b1 b2 b3 b4 sb zb
  have st8x := hide (st7.out.below hgv7)
  clear hbw hgv7 hgev7 st7
  go_upto_region 6 with fail
  have st8 := hide (st8x.out.box cv7 hsv7 25)
  change Code.wp _ _ _ _ (v7.alloc (.cells #[.int .i64 (flipped b).k, .int .i64 (flipped b).r, .int .i64 (flipped b).l0, .int .i64 (flipped b).l1, .slice Cv7 (flipped b).xs.length cv7] 25))
  generalize (v7.alloc (.cells #[.int .i64 (flipped b).k, .int .i64 (flipped b).r, .int .i64 (flipped b).l0, .int .i64 (flipped b).l1, .slice Cv7 (flipped b).xs.length cv7] 25)) = w8 at *
  generalize v7.heap.size = P7 at *
  clear st8x
  obtain ⟨hbw, ⟨⟨y0, y1, y2, y3, y4⟩, sy, zy⟩, ⟨⟨x0, x1, x2, x3, x4⟩, sx, zx⟩, _⟩ := st8.out
  go_wp2_with fail; refine (two_go p (flipped a) (flipped b) _ _ _ _ HFA HFB HG _ (sx.below (by (repeat (first | with_reducible exact Below.refl _ _ | with_reducible assumption | (with_reducible refine bl_set ?_ (by simp; try omega) _) | (with_reducible refine bl_alloc ?_ _) | (with_reducible refine bl_dn ?_ _) | (with_reducible refine bl_drew ?_) | (with_reducible refine bl_then ?_ (by with_reducible assumption)))))) (sy.below (by (repeat (first | with_reducible exact Below.refl _ _ | with_reducible assumption | (with_reducible refine bl_set ?_ (by simp; try omega) _) | (with_reducible refine bl_alloc ?_ _) | (with_reducible refine bl_dn ?_ _) | (with_reducible refine bl_drew ?_) | (with_reducible refine bl_then ?_ (by with_reducible assumption))))))).mono ?_; rintro e v8 ⟨hgv8, Cv8, cv8, rfl, hsv8, hgev8, hcpv8⟩
  clear x0 x1 x2 x3 x4 sx zx; clear y0 y1 y2 y3 y4 sy zy
  have st9x := hide (st8.out.below hgv8)
  clear hbw hgv8 hgev8 st8
  go_upto_region 7 with fail
  have st9 := hide (st9x.out.box cv8 hsv8 25)
  change Code.wp _ _ _ _ (v8.alloc (.cells #[.int .i64 G.k, .int .i64 G.r, .int .i64 G.l0, .int .i64 G.l1, .slice Cv8 G.xs.length cv8] 25))
  generalize (v8.alloc (.cells #[.int .i64 G.k, .int .i64 G.r, .int .i64 G.l0, .int .i64 G.l1, .slice Cv8 G.xs.length cv8] 25)) = w9 at *
  generalize v8.heap.size = P8 at *
  clear st9x
  obtain ⟨hbw, _, _, _, _, ⟨⟨b0, b1, b2, b3, b4⟩, sb, zb⟩, ⟨⟨a0, a1, a2, a3, a4⟩, sa, za⟩, _⟩ := st9.out
  go_wp2_with fail; refine (ravel_go a _ _ HLA HZA _ (sa.below (by (repeat (first | with_reducible exact Below.refl _ _ | with_reducible assumption | (with_reducible refine bl_set ?_ (by simp; try omega) _) | (with_reducible refine bl_alloc ?_ _) | (with_reducible refine bl_dn ?_ _) | (with_reducible refine bl_drew ?_) | (with_reducible refine bl_then ?_ (by with_reducible assumption))))))).mono ?_; rintro e v9 ⟨hgv9, Cv9, cv9, rfl, hsv9, hgev9, hcpv9⟩
  clear a0 a1 a2 a3 a4 sa za; clear b0 b1 b2 b3 b4 sb zb
  have st10x := hide (st9.out.below hgv9)
  clear hbw hgv9 hgev9 st9
  go_upto_region 8 with fail
  have st10 := hide (st10x.out.box cv9 hsv9 25)
  change Code.wp _ _ _ _ (v9.alloc (.cells #[.int .i64 (vec' a.k a.xs).k, .int .i64 (vec' a.k a.xs).r, .int .i64 (vec' a.k a.xs).l0, .int .i64 (vec' a.k a.xs).l1, .slice Cv9 (vec' a.k a.xs).xs.length cv9] 25))
  generalize (v9.alloc (.cells #[.int .i64 (vec' a.k a.xs).k, .int .i64 (vec' a.k a.xs).r, .int .i64 (vec' a.k a.xs).l0, .int .i64 (vec' a.k a.xs).l1, .slice Cv9 (vec' a.k a.xs).xs.length cv9] 25)) = w10 at *
  generalize v9.heap.size = P9 at *
  clear st10x
  obtain ⟨hbw, _, _, _, _, _, ⟨⟨b0, b1, b2, b3, b4⟩, sb, zb⟩, ⟨⟨a0, a1, a2, a3, a4⟩, sa, za⟩, _⟩ := st10.out
  go_wp2_with fail; refine (ravel_go b _ _ HLB HZB _ (sb.below (by (repeat (first | with_reducible exact Below.refl _ _ | with_reducible assumption | (with_reducible refine bl_set ?_ (by simp; try omega) _) | (with_reducible refine bl_alloc ?_ _) | (with_reducible refine bl_dn ?_ _) | (with_reducible refine bl_drew ?_) | (with_reducible refine bl_then ?_ (by with_reducible assumption))))))).mono ?_; rintro e v10 ⟨hgv10, Cv10, cv10, rfl, hsv10, hgev10, hcpv10⟩
  clear a0 a1 a2 a3 a4 sa za; clear b0 b1 b2 b3 b4 sb zb
  have st11x := hide (st10.out.below hgv10)
  clear hbw hgv10 hgev10 st10
  go_upto_region 9 with fail
  have st11 := hide (st11x.out.box cv10 hsv10 25)
  change Code.wp _ _ _ _ (v10.alloc (.cells #[.int .i64 (vec' b.k b.xs).k, .int .i64 (vec' b.k b.xs).r, .int .i64 (vec' b.k b.xs).l0, .int .i64 (vec' b.k b.xs).l1, .slice Cv10 (vec' b.k b.xs).xs.length cv10] 25))
  generalize (v10.alloc (.cells #[.int .i64 (vec' b.k b.xs).k, .int .i64 (vec' b.k b.xs).r, .int .i64 (vec' b.k b.xs).l0, .int .i64 (vec' b.k b.xs).l1, .slice Cv10 (vec' b.k b.xs).xs.length cv10] 25)) = w11 at *
  generalize v10.heap.size = P10 at *
  clear st11x
  obtain ⟨hbw, ⟨⟨y0, y1, y2, y3, y4⟩, sy, zy⟩, ⟨⟨x0, x1, x2, x3, x4⟩, sx, zx⟩, _⟩ := st11.out
  go_wp2_with fail; refine (two_go p (vec' a.k a.xs) (vec' b.k b.xs) _ _ _ _ HVA HVB HH _ (sx.below (by (repeat (first | with_reducible exact Below.refl _ _ | with_reducible assumption | (with_reducible refine bl_set ?_ (by simp; try omega) _) | (with_reducible refine bl_alloc ?_ _) | (with_reducible refine bl_dn ?_ _) | (with_reducible refine bl_drew ?_) | (with_reducible refine bl_then ?_ (by with_reducible assumption)))))) (sy.below (by (repeat (first | with_reducible exact Below.refl _ _ | with_reducible assumption | (with_reducible refine bl_set ?_ (by simp; try omega) _) | (with_reducible refine bl_alloc ?_ _) | (with_reducible refine bl_dn ?_ _) | (with_reducible refine bl_drew ?_) | (with_reducible refine bl_then ?_ (by with_reducible assumption))))))).mono ?_; rintro e v11 ⟨hgv11, Cv11, cv11, rfl, hsv11, hgev11, hcpv11⟩
  clear x0 x1 x2 x3 x4 sx zx; clear y0 y1 y2 y3 y4 sy zy
  have st12x := hide (st11.out.below hgv11)
  clear hbw hgv11 hgev11 st11
  go_upto_region 10 with fail
  have st12 := hide (st12x.out.box cv11 hsv11 25)
  change Code.wp _ _ _ _ (v11.alloc (.cells #[.int .i64 H.k, .int .i64 H.r, .int .i64 H.l0, .int .i64 H.l1, .slice Cv11 H.xs.length cv11] 25))
  generalize (v11.alloc (.cells #[.int .i64 H.k, .int .i64 H.r, .int .i64 H.l0, .int .i64 H.l1, .slice Cv11 H.xs.length cv11] 25)) = w12 at *
  generalize v11.heap.size = P11 at *
  clear st12x
  obtain ⟨hbw, _, _, _, _, _, _, ⟨⟨r0, r1, r2, r3, r4⟩, sr, zr⟩, _⟩ := st12.out
  obtain ⟨v, hv⟩ : ∃ v, (er == 0) = v := ⟨_, rfl⟩
  have hv2 : (eg == 0) = v := by rw [← hv, Bool.eq_iff_iff, beq_iff_eq, beq_iff_eq]; exact T1.out.1.symm
  go_upto_if 117 with fail
  go_cut [21, 22, 23, 24] from 31 (fun s21 s22 s23 s24 wx => Below w12.heap.size w12 wx)
  case first =>
    cases v
    · go_wp2_with fail
      go_meet
      exact Below.refl _ _
    · have q1 : er = 0 := by simpa using hv
      have HE1 : Hid (extFlip R = (0, G)) := T1.out.2 q1
      have HE2 : Hid (extRavel R = (0, H)) := T2.out q1
      have cR : Hid (chk R = 0) := hcR.out q1
      have HLR : Hid (R.xs.length ≤ 100000 ∧ Fits R.l0 ∧ Fits R.l1) := by obtain ⟨h1, h2, h3⟩ := chk_fit cR.out; exact ⟨by omega, h2, h3⟩
      clear q1
      go_wp2_with fail; refine (flip_go R _ _ cR HE1 _ (sr.below (by (repeat (first | with_reducible exact Below.refl _ _ | with_reducible assumption | (with_reducible refine bl_set ?_ (by simp; try omega) _) | (with_reducible refine bl_alloc ?_ _) | (with_reducible refine bl_dn ?_ _) | (with_reducible refine bl_drew ?_) | (with_reducible refine bl_then ?_ (by with_reducible assumption))))))).mono ?_; rintro e v13 ⟨hgv13, Cv13, cv13, rfl, hsv13, hgev13, hcpv13⟩
      have st13 := hide (st12.out.below hgv13)
      clear hbw; clear r0 r1 r2 r3 r4 sr zr
      obtain ⟨hbw, _, _, _, _, _, _, ⟨⟨r0, r1, r2, r3, r4⟩, sr, zr⟩, _⟩ := st13.out
      go_wp2_with fail; refine (ravel_go R _ _ HLR HE2 _ (sr.below (by (repeat (first | with_reducible exact Below.refl _ _ | with_reducible assumption | (with_reducible refine bl_set ?_ (by simp; try omega) _) | (with_reducible refine bl_alloc ?_ _) | (with_reducible refine bl_dn ?_ _) | (with_reducible refine bl_drew ?_) | (with_reducible refine bl_then ?_ (by with_reducible assumption))))))).mono ?_; rintro e v14 ⟨hgv14, Cv14, cv14, rfl, hsv14, hgev14, hcpv14⟩
      have st14 := hide (st13.out.push hsv13 hgv14)
      clear hbw; clear r0 r1 r2 r3 r4 sr zr
      obtain ⟨hbw, ⟨⟨u0, u1, u2, u3, u4⟩, su, zu⟩, _, _, _, ⟨⟨g0, g1, g2, g3, g4⟩, sg, zg⟩, _⟩ := st14.out
      go_wp2_with fail
      refine (same_any G G _ _ _ _ LG.out LG.out _ (sg.below (by (repeat (first | with_reducible exact Below.refl _ _ | with_reducible assumption | (with_reducible refine bl_set ?_ (by simp; try omega) _) | (with_reducible refine bl_alloc ?_ _) | (with_reducible refine bl_dn ?_ _) | (with_reducible refine bl_drew ?_) | (with_reducible refine bl_then ?_ (by with_reducible assumption)))))) (su.below (by (repeat (first | with_reducible exact Below.refl _ _ | with_reducible assumption | (with_reducible refine bl_set ?_ (by simp; try omega) _) | (with_reducible refine bl_alloc ?_ _) | (with_reducible refine bl_dn ?_ _) | (with_reducible refine bl_drew ?_) | (with_reducible refine bl_then ?_ (by with_reducible assumption))))))).mono ?_
      rw [same_refl]
      rintro e v15 ⟨rfl, hg15⟩
      have st15 := hide (st14.out.push hsv14 hg15)
      clear hbw; clear u0 u1 u2 u3 u4 su zu; clear g0 g1 g2 g3 g4 sg zg
      obtain ⟨hbw, ⟨⟨y0, y1, y2, y3, y4⟩, sy, zy⟩, _, ⟨⟨h0, h1, h2, h3, h4⟩, sh, zh⟩, _⟩ := st15.out
      go_wp2_with fail
      refine (same_any H H _ _ _ _ LH.out LH.out _ (sh.below (by (repeat (first | with_reducible exact Below.refl _ _ | with_reducible assumption | (with_reducible refine bl_set ?_ (by simp; try omega) _) | (with_reducible refine bl_alloc ?_ _) | (with_reducible refine bl_dn ?_ _) | (with_reducible refine bl_drew ?_) | (with_reducible refine bl_then ?_ (by with_reducible assumption)))))) (sy.below (by (repeat (first | with_reducible exact Below.refl _ _ | with_reducible assumption | (with_reducible refine bl_set ?_ (by simp; try omega) _) | (with_reducible refine bl_alloc ?_ _) | (with_reducible refine bl_dn ?_ _) | (with_reducible refine bl_drew ?_) | (with_reducible refine bl_then ?_ (by with_reducible assumption))))))).mono ?_
      rw [same_refl]
      rintro e v16 ⟨rfl, hg16⟩
      go_wp2_with fail
      go_meet
      show Below _ _ _
      clear hbw
      (repeat (first | with_reducible exact Below.refl _ _ | with_reducible assumption | (with_reducible refine bl_set ?_ (by simp; try omega) _) | (with_reducible refine bl_alloc ?_ _) | (with_reducible refine bl_dn ?_ _) | (with_reducible refine bl_drew ?_) | (with_reducible refine bl_then ?_ (by with_reducible assumption))))
  case rest =>
    have hg13 : Below w12.heap.size w12 wc := hcut
    obtain ⟨w13, rfl⟩ : ∃ w13 : World, w13 = wc := ⟨_, rfl⟩
    have st13 := hide (st12.out.below hg13)
    clear hbw hcut hg13 st12; clear r0 r1 r2 r3 r4 sr zr
    obtain ⟨hbw, _, _, _, _, _, _, _, _, ⟨⟨a0, a1, a2, a3, a4⟩, sa, za⟩, _⟩ := st13.out
    go_wp2_with fail; refine (one_go p a _ _ HA HM _ (sa.below (by (repeat (first | with_reducible exact Below.refl _ _ | with_reducible assumption | (with_reducible refine bl_set ?_ (by simp; try omega) _) | (with_reducible refine bl_alloc ?_ _) | (with_reducible refine bl_dn ?_ _) | (with_reducible refine bl_drew ?_) | (with_reducible refine bl_then ?_ (by with_reducible assumption))))))).mono ?_; rintro e v17 ⟨hgv17, Cv17, cv17, rfl, hsv17, hgev17, hcpv17⟩
    clear a0 a1 a2 a3 a4 sa za
    have st14x := hide (st13.out.below hgv17)
    clear hbw hgv17 hgev17 st13
    go_upto_region 18 with fail
    have st14 := hide (st14x.out.box cv17 hsv17 25)
    change Code.wp _ _ _ _ (v17.alloc (.cells #[.int .i64 M.k, .int .i64 M.r, .int .i64 M.l0, .int .i64 M.l1, .slice Cv17 M.xs.length cv17] 25))
    generalize (v17.alloc (.cells #[.int .i64 M.k, .int .i64 M.r, .int .i64 M.l0, .int .i64 M.l1, .slice Cv17 M.xs.length cv17] 25)) = w14 at *
    generalize v17.heap.size = P17 at *
    clear st14x
    obtain ⟨hbw, _, _, _, ⟨⟨x0, x1, x2, x3, x4⟩, sx, zx⟩, _⟩ := st14.out
    go_wp2_with fail; refine (one_go p (vec' a.k a.xs) _ _ HVA HN _ (sx.below (by (repeat (first | with_reducible exact Below.refl _ _ | with_reducible assumption | (with_reducible refine bl_set ?_ (by simp; try omega) _) | (with_reducible refine bl_alloc ?_ _) | (with_reducible refine bl_dn ?_ _) | (with_reducible refine bl_drew ?_) | (with_reducible refine bl_then ?_ (by with_reducible assumption))))))).mono ?_; rintro e v18 ⟨hgv18, Cv18, cv18, rfl, hsv18, hgev18, hcpv18⟩
    clear x0 x1 x2 x3 x4 sx zx
    have st15x := hide (st14.out.below hgv18)
    clear hbw hgv18 hgev18 st14
    go_upto_region 19 with fail
    have st15 := hide (st15x.out.box cv18 hsv18 25)
    change Code.wp _ _ _ _ (v18.alloc (.cells #[.int .i64 N.k, .int .i64 N.r, .int .i64 N.l0, .int .i64 N.l1, .slice Cv18 N.xs.length cv18] 25))
    generalize (v18.alloc (.cells #[.int .i64 N.k, .int .i64 N.r, .int .i64 N.l0, .int .i64 N.l1, .slice Cv18 N.xs.length cv18] 25)) = w15 at *
    generalize v18.heap.size = P18 at *
    clear st15x
    obtain ⟨hbw, ⟨⟨n0, n1, n2, n3, n4⟩, sn, zn⟩, ⟨⟨m0, m1, m2, m3, m4⟩, sm, zm⟩, _⟩ := st15.out
    by_cases q : ei = 0
    · have HK' : Hid (extRavel M = (0, N)) := T3.out q
      have hq1 : (ei != 0) = false := by simpa using q
      clear q
      go_wp2_with fail; refine (ravel_go M _ _ HMF HK' _ (sm.below (by (repeat (first | with_reducible exact Below.refl _ _ | with_reducible assumption | (with_reducible refine bl_set ?_ (by simp; try omega) _) | (with_reducible refine bl_alloc ?_ _) | (with_reducible refine bl_dn ?_ _) | (with_reducible refine bl_drew ?_) | (with_reducible refine bl_then ?_ (by with_reducible assumption))))))).mono ?_; rintro e v19 ⟨hgv19, Cv19, cv19, rfl, hsv19, hgev19, hcpv19⟩
      have st19 := hide (st15.out.below hgv19)
      clear hbw; clear n0 n1 n2 n3 n4 sn zn; clear m0 m1 m2 m3 m4 sm zm
      obtain ⟨hbw, ⟨⟨n0, n1, n2, n3, n4⟩, sn, zn⟩, _⟩ := st19.out
      go_wp2_with fail
      refine (is10_yes N N _ _ _ _ (same_refl N) LN.out LN.out _ (sn.below (by (repeat (first | with_reducible exact Below.refl _ _ | with_reducible assumption | (with_reducible refine bl_set ?_ (by simp; try omega) _) | (with_reducible refine bl_alloc ?_ _) | (with_reducible refine bl_dn ?_ _) | (with_reducible refine bl_drew ?_) | (with_reducible refine bl_then ?_ (by with_reducible assumption)))))) (Sl.below hsv19 (by (repeat (first | with_reducible exact Below.refl _ _ | with_reducible assumption | (with_reducible refine bl_set ?_ (by simp; try omega) _) | (with_reducible refine bl_alloc ?_ _) | (with_reducible refine bl_dn ?_ _) | (with_reducible refine bl_drew ?_) | (with_reducible refine bl_then ?_ (by with_reducible assumption))))))).mono ?_
      rintro e v20 ⟨rfl, hg20⟩
      (go_wp2_with fail; refine (awake10 _).mono ?_; rintro e w99 ⟨rfl, hg99⟩; go_wp2; go_ret; exact ⟨rfl, by (repeat (first | with_reducible exact Below.refl _ _ | with_reducible assumption | (with_reducible refine bl_set ?_ (by simp; try omega) _) | (with_reducible refine bl_alloc ?_ _) | (with_reducible refine bl_dn ?_ _) | (with_reducible refine bl_drew ?_) | (with_reducible refine bl_then ?_ (by with_reducible assumption))))⟩)
    · have hq1 : (ei != 0) = true := by simpa using q
      clear q
      go_wp2_with fail; refine (ravel_go M _ _ HMF HK _ (sm.below (by (repeat (first | with_reducible exact Below.refl _ _ | with_reducible assumption | (with_reducible refine bl_set ?_ (by simp; try omega) _) | (with_reducible refine bl_alloc ?_ _) | (with_reducible refine bl_dn ?_ _) | (with_reducible refine bl_drew ?_) | (with_reducible refine bl_then ?_ (by with_reducible assumption))))))).mono ?_; rintro e v19 ⟨hgv19, Cv19, cv19, rfl, hsv19, hgev19, hcpv19⟩
      (go_wp2_with fail; refine (awake10 _).mono ?_; rintro e w99 ⟨rfl, hg99⟩; go_wp2; go_ret; exact ⟨rfl, by (repeat (first | with_reducible exact Below.refl _ _ | with_reducible assumption | (with_reducible refine bl_set ?_ (by simp; try omega) _) | (with_reducible refine bl_alloc ?_ _) | (with_reducible refine bl_dn ?_ _) | (with_reducible refine bl_drew ?_) | (with_reducible refine bl_then ?_ (by with_reducible assumption))))⟩)
end Ar
end Go.Proofs.Ytfpnafeildigaaa
