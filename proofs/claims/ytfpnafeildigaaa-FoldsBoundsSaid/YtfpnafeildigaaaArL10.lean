/-
The walk of ExtendTurns (chapter 10).
-/
import Derived.Test.YtfpnafeildigaaaBb4
set_option linter.unusedSimpArgs false
set_option linter.unusedVariables false
namespace Go.Proofs.Ytfpnafeildigaaa
namespace Ar
open Go.RowKit Sc
theorem Arr5.far {w : World} {g h : Nat} {u0 u1 u2 u3 u4 : Value} (h5 : Arr5 w h u0 u1 u2 u3 u4) (hne : h ≠ g) (o : Nat) (v : Value) : Arr5 (w.setCell ⟨g, o, none⟩ v) h u0 u1 u2 u3 u4 := by
  obtain ⟨h0, h1, h2, h3, h4⟩ := h5
  have k : ∀ q, (⟨g, o, none⟩ : Addr) ≠ ⟨h, q, none⟩ := fun q e => hne (congrArg Addr.block e).symm
  exact ⟨(World.cell?_setCell_other _ _ _ _ (k _)).trans h0, (World.cell?_setCell_other _ _ _ _ (k _)).trans h1, (World.cell?_setCell_other _ _ _ _ (k _)).trans h2, (World.cell?_setCell_other _ _ _ _ (k _)).trans h3, (World.cell?_setCell_other _ _ _ _ (k _)).trans h4⟩
theorem Sl.far {w : World} {A : Option Addr} {xs : List Int} {g : Nat} (h : Sl w A xs) (hne : xs ≠ [] → ∀ b o, A = some ⟨b, o, none⟩ → b ≠ g) (o : Nat) (v : Value) : Sl (w.setCell ⟨g, o, none⟩ v) A xs := fun hn => by
  obtain ⟨b, q, e, hl, hc⟩ := h hn
  have := hne hn b q e
  exact ⟨b, q, e, by simpa [World.setCell] using hl, fun j hj => (World.cell?_setCell_other w _ _ v (fun e => this (congrArg Addr.block e).symm)).trans (hc j hj)⟩
/-- an array is put into a box; the other box stays -/
theorem put_boxes {w8 w : World} {g h : Nat} {y T : Arr} {B C : Option Addr} {d n : Nat} {u0 u1 u2 u3 u4 : Value} (hb : Below w8.heap.size w8 w) (hX : Arr5 w g u0 u1 u2 u3 u4) (hY : BoxAt w h y B d) (hne : g ≠ h) (hg : w8.heap.size ≤ g) (hgw : g < w.heap.size) (hs : Sl w C T.xs)
    (hC : ∀ b o, C = some ⟨b, o, none⟩ → g < b) (hB : y.xs ≠ [] → ∀ b o, B = some ⟨b, o, none⟩ → b ≠ g) :
    BoxAt (((((w.setCell ⟨g, 0, none⟩ (.int .i64 T.k)).setCell ⟨g, 1, none⟩ (.int .i64 T.r)).setCell ⟨g, 2, none⟩ (.int .i64 T.l0)).setCell ⟨g, 3, none⟩ (.int .i64 T.l1)).setCell ⟨g, 4, none⟩ (.slice C T.xs.length n)) g T C n ∧
    BoxAt (((((w.setCell ⟨g, 0, none⟩ (.int .i64 T.k)).setCell ⟨g, 1, none⟩ (.int .i64 T.r)).setCell ⟨g, 2, none⟩ (.int .i64 T.l0)).setCell ⟨g, 3, none⟩ (.int .i64 T.l1)).setCell ⟨g, 4, none⟩ (.slice C T.xs.length n)) h y B d ∧
    Below w8.heap.size w8 (((((w.setCell ⟨g, 0, none⟩ (.int .i64 T.k)).setCell ⟨g, 1, none⟩ (.int .i64 T.r)).setCell ⟨g, 2, none⟩ (.int .i64 T.l0)).setCell ⟨g, 3, none⟩ (.int .i64 T.l1)).setCell ⟨g, 4, none⟩ (.slice C T.xs.length n)) := by
  have k : T.xs ≠ [] → ∀ b o, C = some ⟨b, o, none⟩ → b ≠ g := fun _ b o e => by have := hC b o e; omega
  exact ⟨⟨hX.put _ _ _ _ _, ((((hs.far k _ _).far k _ _).far k _ _).far k _ _).far k _ _, by simpa [World.setCell] using hgw⟩,
    ⟨((((hY.1.far hne.symm _ _).far hne.symm _ _).far hne.symm _ _).far hne.symm _ _).far hne.symm _ _, ((((hY.2.1.far hB _ _).far hB _ _).far hB _ _).far hB _ _).far hB _ _, by simpa [World.setCell] using hY.2.2⟩,
    ((((hb.setCell hg _).setCell hg _).setCell hg _).setCell hg _).setCell hg _⟩
theorem sl_ne {w : World} {A : Option Addr} {xs : List Int} {g : Nat} (h : Sl w A xs) (hg : w.heap.size ≤ g) : xs ≠ [] → ∀ b o, A = some ⟨b, o, none⟩ → b ≠ g := fun hn b o e => by
  obtain ⟨b', o', e', hl, _⟩ := h hn
  rw [e'] at e; injection e with e; injection e with e1 e2; omega
set_option maxRecDepth 100000 in
set_option maxHeartbeats 4000000 in
theorem turns_walk (p : Int) (a b : Arr) (A B : Option Addr) (c d : Nat) (f0 : Fits a.l0) (f1 : Fits a.l1) (hx : ∀ x ∈ a.xs, Fits x) (g0 : Fits b.l0) (g1 : Fits b.l1) (hy : ∀ x ∈ b.xs, Fits x) (w : World) (hs : Sl w A a.xs) (ht : Sl w B b.xs) :
    Calls Try.prog 7 #[.int .i64 p, .agg #[.int .i64 a.k, .int .i64 a.r, .int .i64 a.l0, .int .i64 a.l1, .slice A a.xs.length c], .agg #[.int .i64 b.k, .int .i64 b.r, .int .i64 b.l0, .int .i64 b.l1, .slice B b.xs.length d]] w fun e w' => e = .returned (.bool true) ∧ Below w.heap.size w w' := by
  have HX := hide hx; have HY := hide hy
  clear hx hy
  go_enter Try.func7, Try.ntmps7
  go_wp2_with fail
  have st0 := hide (((St.init w).box c hs).box d (ht.below (bl_new _ _)))
  simp only [World.size_alloc] at st0
  obtain ⟨hbw, ⟨⟨b0, b1, b2, b3, b4⟩, sb, zb⟩, ⟨⟨a0, a1, a2, a3, a4⟩, sa, za⟩, _⟩ := st0.out
  go_wp2_with fail
  refine (far_any a A c _).mono ?_
  cases hFa : decide (405 < (a.xs.length : Int))
  rotate_left
  · rintro e w98 ⟨rfl, hg98⟩
    have st98 := hide (st0.out.below hg98)
    clear hbw; clear a0 a1 a2 a3 a4 sa za; clear b0 b1 b2 b3 b4 sb zb
    obtain ⟨hbw, ⟨⟨b0, b1, b2, b3, b4⟩, sb, zb⟩, ⟨⟨a0, a1, a2, a3, a4⟩, sa, za⟩, _⟩ := st98.out
    go_wp2_with fail
    refine (awake10 _).mono ?_
    rintro e w99 ⟨rfl, hg99⟩
    go_wp2
    go_ret
    exact ⟨rfl, by (repeat (first | with_reducible exact Below.refl _ _ | with_reducible assumption | (with_reducible refine bl_set ?_ (by simp; try omega) _) | (with_reducible refine bl_alloc ?_ _) | (with_reducible refine bl_dn ?_ _) | (with_reducible refine bl_drew ?_) | (with_reducible refine bl_then ?_ (by with_reducible assumption))))⟩
  have hFa := hide hFa
  rintro e w1 ⟨rfl, hg1⟩
  have st1 := hide (st0.out.below hg1)
  clear hbw st0 hg1; clear a0 a1 a2 a3 a4 sa za; clear b0 b1 b2 b3 b4 sb zb
  obtain ⟨hbw, ⟨⟨b0, b1, b2, b3, b4⟩, sb, zb⟩, ⟨⟨a0, a1, a2, a3, a4⟩, sa, za⟩, _⟩ := st1.out
  go_wp2_with fail
  refine (far_any b B d _).mono ?_
  cases hFb : decide (405 < (b.xs.length : Int))
  rotate_left
  · rintro e w98 ⟨rfl, hg98⟩
    have st98 := hide (st1.out.below hg98)
    clear hbw; clear a0 a1 a2 a3 a4 sa za; clear b0 b1 b2 b3 b4 sb zb
    obtain ⟨hbw, ⟨⟨b0, b1, b2, b3, b4⟩, sb, zb⟩, ⟨⟨a0, a1, a2, a3, a4⟩, sa, za⟩, _⟩ := st98.out
    go_wp2_with fail
    refine (awake10 _).mono ?_
    rintro e w99 ⟨rfl, hg99⟩
    go_wp2
    go_ret
    exact ⟨rfl, by (repeat (first | with_reducible exact Below.refl _ _ | with_reducible assumption | (with_reducible refine bl_set ?_ (by simp; try omega) _) | (with_reducible refine bl_alloc ?_ _) | (with_reducible refine bl_dn ?_ _) | (with_reducible refine bl_drew ?_) | (with_reducible refine bl_then ?_ (by with_reducible assumption))))⟩
  have hFb := hide hFb
  rintro e w2 ⟨rfl, hg2⟩
  have st2 := hide (st1.out.below hg2)
  clear hbw st1 hg2; clear a0 a1 a2 a3 a4 sa za; clear b0 b1 b2 b3 b4 sb zb
  obtain ⟨hbw, ⟨⟨b0, b1, b2, b3, b4⟩, sb, zb⟩, ⟨⟨a0, a1, a2, a3, a4⟩, sa, za⟩, _⟩ := st2.out
  go_wp2_with fail
  refine (Ref.ac_any a A c (by have := decide_eq_false_iff_not.1 hFa.out; omega) f0 f1 _ (sa.below (by (repeat (first | with_reducible exact Below.refl _ _ | with_reducible assumption | (with_reducible refine bl_set ?_ (by simp; try omega) _) | (with_reducible refine bl_alloc ?_ _) | (with_reducible refine bl_dn ?_ _) | (with_reducible refine bl_drew ?_) | (with_reducible refine bl_then ?_ (by with_reducible assumption))))))).mono ?_
  cases hNa : (chk a != 0)
  rotate_left
  · rintro e w98 ⟨rfl, hg98⟩
    have st98 := hide (st2.out.below hg98)
    clear hbw; clear a0 a1 a2 a3 a4 sa za; clear b0 b1 b2 b3 b4 sb zb
    obtain ⟨hbw, ⟨⟨b0, b1, b2, b3, b4⟩, sb, zb⟩, ⟨⟨a0, a1, a2, a3, a4⟩, sa, za⟩, _⟩ := st98.out
    go_wp2_with fail
    refine (awake10 _).mono ?_
    rintro e w99 ⟨rfl, hg99⟩
    go_wp2
    go_ret
    exact ⟨rfl, by (repeat (first | with_reducible exact Below.refl _ _ | with_reducible assumption | (with_reducible refine bl_set ?_ (by simp; try omega) _) | (with_reducible refine bl_alloc ?_ _) | (with_reducible refine bl_dn ?_ _) | (with_reducible refine bl_drew ?_) | (with_reducible refine bl_then ?_ (by with_reducible assumption))))⟩
  have ca : Hid (chk a = 0) := by show _ = _; simpa using hNa
  rw [ca.out]
  clear hNa
  rintro e w3 ⟨rfl, hg3⟩
  have st3 := hide (st2.out.below hg3)
  clear hbw st2 hg3; clear a0 a1 a2 a3 a4 sa za; clear b0 b1 b2 b3 b4 sb zb
  obtain ⟨hbw, ⟨⟨b0, b1, b2, b3, b4⟩, sb, zb⟩, ⟨⟨a0, a1, a2, a3, a4⟩, sa, za⟩, _⟩ := st3.out
  go_wp2_with fail
  refine (Ref.ac_any b B d (by have := decide_eq_false_iff_not.1 hFb.out; omega) g0 g1 _ (sb.below (by (repeat (first | with_reducible exact Below.refl _ _ | with_reducible assumption | (with_reducible refine bl_set ?_ (by simp; try omega) _) | (with_reducible refine bl_alloc ?_ _) | (with_reducible refine bl_dn ?_ _) | (with_reducible refine bl_drew ?_) | (with_reducible refine bl_then ?_ (by with_reducible assumption))))))).mono ?_
  cases hNb : (chk b != 0)
  rotate_left
  · rintro e w98 ⟨rfl, hg98⟩
    have st98 := hide (st3.out.below hg98)
    clear hbw; clear a0 a1 a2 a3 a4 sa za; clear b0 b1 b2 b3 b4 sb zb
    obtain ⟨hbw, ⟨⟨b0, b1, b2, b3, b4⟩, sb, zb⟩, ⟨⟨a0, a1, a2, a3, a4⟩, sa, za⟩, _⟩ := st98.out
    go_wp2_with fail
    refine (awake10 _).mono ?_
    rintro e w99 ⟨rfl, hg99⟩
    go_wp2
    go_ret
    exact ⟨rfl, by (repeat (first | with_reducible exact Below.refl _ _ | with_reducible assumption | (with_reducible refine bl_set ?_ (by simp; try omega) _) | (with_reducible refine bl_alloc ?_ _) | (with_reducible refine bl_dn ?_ _) | (with_reducible refine bl_drew ?_) | (with_reducible refine bl_then ?_ (by with_reducible assumption))))⟩
  have cb : Hid (chk b = 0) := by show _ = _; simpa using hNb
  rw [cb.out]
  clear hNb
  rintro e w4 ⟨rfl, hg4⟩
  have st4 := hide (st3.out.below hg4)
  clear hbw st3 hg4; clear a0 a1 a2 a3 a4 sa za; clear b0 b1 b2 b3 b4 sb zb
  obtain ⟨hbw, ⟨⟨b0, b1, b2, b3, b4⟩, sb, zb⟩, ⟨⟨a0, a1, a2, a3, a4⟩, sa, za⟩, _⟩ := st4.out
  have HA : Hid (Fine a) := ⟨by have := decide_eq_false_iff_not.1 hFa.out; omega, f0, f1, HX.out⟩
  have HB : Hid (Fine b) := ⟨by have := decide_eq_false_iff_not.1 hFb.out; omega, g0, g1, HY.out⟩
  clear hFa hFb HX HY hs ht
  obtain ⟨er, R, hR⟩ : ∃ er R, extTwo p a b = (er, R) := ⟨_, _, rfl⟩
  obtain ⟨es, U, hU⟩ : ∃ er R, extTwo p b a = (er, R) := ⟨_, _, rfl⟩
  obtain ⟨eg, G, hG⟩ : ∃ er R, extTwo p (turned a) (turned b) = (er, R) := ⟨_, _, rfl⟩
  obtain ⟨ei, M, hM⟩ : ∃ er R, extOne p a = (er, R) := ⟨_, _, rfl⟩
  obtain ⟨ej, N, hN⟩ : ∃ er R, extOne p (turned a) = (er, R) := ⟨_, _, rfl⟩
  have T := turned_two (p := p) ca.out cb.out
  rw [hR, hG] at T
  have T := hide T
  have V := turned_one (p := p) ca.out
  rw [hM, hN] at V
  have V := hide V
  have LR : Hid (R.xs.length ≤ 9223372036854775807) := by show _ ≤ _; have hh := extTwo_len p a b; rw [hR] at hh; have := HA.out.1; have := HB.out.1; exact Nat.le_trans hh (by omega)
  have LU : Hid (U.xs.length ≤ 9223372036854775807) := by show _ ≤ _; have hh := extTwo_len p b a; rw [hU] at hh; have := HA.out.1; have := HB.out.1; exact Nat.le_trans hh (by omega)
  have LG : Hid (G.xs.length ≤ 9223372036854775807) := by show _ ≤ _; have hh := extTwo_len p (turned a) (turned b); rw [hG, turned_len, turned_len] at hh; have := HA.out.1; have := HB.out.1; exact Nat.le_trans hh (by omega)
  have LN : Hid (N.xs.length ≤ 9223372036854775807) := by show _ ≤ _; have hh := extOne_len p (turned a); rw [hN, turned_len] at hh; have := HA.out.1; exact Nat.le_trans hh (by omega)
  have HR := hide hR; have HU := hide hU; have HG := hide hG; have HM := hide hM; have HN := hide hN
  clear hR hU hG hM hN
  go_wp2_with fail; refine (two_go p a b _ _ _ _ HA HB HR _ (sa.below (by (repeat (first | with_reducible exact Below.refl _ _ | with_reducible assumption | (with_reducible refine bl_set ?_ (by simp; try omega) _) | (with_reducible refine bl_alloc ?_ _) | (with_reducible refine bl_dn ?_ _) | (with_reducible refine bl_drew ?_) | (with_reducible refine bl_then ?_ (by with_reducible assumption)))))) (sb.below (by (repeat (first | with_reducible exact Below.refl _ _ | with_reducible assumption | (with_reducible refine bl_set ?_ (by simp; try omega) _) | (with_reducible refine bl_alloc ?_ _) | (with_reducible refine bl_dn ?_ _) | (with_reducible refine bl_drew ?_) | (with_reducible refine bl_then ?_ (by with_reducible assumption))))))).mono ?_; rintro e w5 ⟨hgw5, Cw5, cw5, rfl, hsw5, hgew5, hcpw5⟩
  have st5 := hide (st4.out.below hgw5)
  clear hbw; clear a0 a1 a2 a3 a4 sa za; clear b0 b1 b2 b3 b4 sb zb
  obtain ⟨hbw, ⟨⟨b0, b1, b2, b3, b4⟩, sb, zb⟩, ⟨⟨a0, a1, a2, a3, a4⟩, sa, za⟩, _⟩ := st5.out
  go_wp2_with fail; refine (two_go p b a _ _ _ _ HB HA HU _ (sb.below (by (repeat (first | with_reducible exact Below.refl _ _ | with_reducible assumption | (with_reducible refine bl_set ?_ (by simp; try omega) _) | (with_reducible refine bl_alloc ?_ _) | (with_reducible refine bl_dn ?_ _) | (with_reducible refine bl_drew ?_) | (with_reducible refine bl_then ?_ (by with_reducible assumption)))))) (sa.below (by (repeat (first | with_reducible exact Below.refl _ _ | with_reducible assumption | (with_reducible refine bl_set ?_ (by simp; try omega) _) | (with_reducible refine bl_alloc ?_ _) | (with_reducible refine bl_dn ?_ _) | (with_reducible refine bl_drew ?_) | (with_reducible refine bl_then ?_ (by with_reducible assumption))))))).mono ?_; rintro e w6 ⟨hgw6, Cw6, cw6, rfl, hsw6, hgew6, hcpw6⟩
  have st6 := hide (st5.out.push hsw5 hgw6)
  clear hbw; clear a0 a1 a2 a3 a4 sa za; clear b0 b1 b2 b3 b4 sb zb
  obtain ⟨hbw, ⟨⟨r0, r1, r2, r3, r4⟩, sr, zr⟩, ⟨⟨b0, b1, b2, b3, b4⟩, sb, zb⟩, ⟨⟨a0, a1, a2, a3, a4⟩, sa, za⟩, _⟩ := st6.out
  go_upto_region 5 with fail
  have st7 := hide (st6.out.box cw6 hsw6 25)
  clear hbw; clear a0 a1 a2 a3 a4 sa za; clear b0 b1 b2 b3 b4 sb zb; clear r0 r1 r2 r3 r4 sr zr
  change Code.wp _ _ _ _ (w6.alloc (.cells #[.int .i64 U.k, .int .i64 U.r, .int .i64 U.l0, .int .i64 U.l1, .slice Cw6 U.xs.length cw6] 25))
  generalize (w6.alloc (.cells #[.int .i64 U.k, .int .i64 U.r, .int .i64 U.l0, .int .i64 U.l1, .slice Cw6 U.xs.length cw6] 25)) = w7 at *
  generalize w6.heap.size = P9 at *
  generalize w5.heap.size = P7 at *
  obtain ⟨hbw, ⟨⟨u0, u1, u2, u3, u4⟩, su, zu⟩, ⟨⟨r0, r1, r2, r3, r4⟩, sr, zr⟩, _⟩ := st7.out
  go_cut [63] from 54 (fun s63 wx => s63 = .bool false ∧ Below w7.heap.size w7 wx)
  case first =>
    go_wp2_with fail
    refine (turns_any p _).mono ?_
    cases hT : turns p
    · rintro e w8 ⟨rfl, rfl⟩
      go_wp2_with fail
      go_meet
      exact ⟨rfl, Below.refl _ _⟩
    · have e := turns_same (p := p) hT ca.out cb.out
      rw [HR.out, HU.out] at e
      obtain ⟨rfl, rfl⟩ : es = er ∧ U = R := ⟨congrArg Prod.fst e, congrArg Prod.snd e⟩
      rintro e w8 ⟨rfl, rfl⟩
      go_wp2_with fail
      refine (alike_any U U _ _ _ _ es es LU.out LU.out _ (sr.below (by (repeat (first | with_reducible exact Below.refl _ _ | with_reducible assumption | (with_reducible refine bl_set ?_ (by simp; try omega) _) | (with_reducible refine bl_alloc ?_ _) | (with_reducible refine bl_dn ?_ _) | (with_reducible refine bl_drew ?_) | (with_reducible refine bl_then ?_ (by with_reducible assumption)))))) (su.below (by (repeat (first | with_reducible exact Below.refl _ _ | with_reducible assumption | (with_reducible refine bl_set ?_ (by simp; try omega) _) | (with_reducible refine bl_alloc ?_ _) | (with_reducible refine bl_dn ?_ _) | (with_reducible refine bl_drew ?_) | (with_reducible refine bl_then ?_ (by with_reducible assumption))))))).mono ?_
      rw [same_yes]
      rintro e w9 ⟨rfl, hg9⟩
      go_wp2_with fail
      go_meet
      exact ⟨rfl, hg9⟩
  case rest =>
    obtain ⟨rfl, hg8⟩ := hcut
    obtain ⟨w8, rfl⟩ : ∃ w8 : World, w8 = wc := ⟨_, rfl⟩
    have st8 := hide (st7.out.below hg8)
    clear hbw hg8 st7; clear r0 r1 r2 r3 r4 sr zr; clear u0 u1 u2 u3 u4 su zu
    obtain ⟨hbw, _, ⟨⟨r0, r1, r2, r3, r4⟩, sr, zr⟩, ⟨⟨b0, b1, b2, b3, b4⟩, sb, zb⟩, ⟨⟨a0, a1, a2, a3, a4⟩, sa, za⟩, _⟩ := st8.out
    go_upto_region 7 with fail
    go_cut [11, 12] from 64 (fun s11 s12 wx => ∃ g h, s11 = .pointer (some ⟨g, 0, none⟩) ∧ s12 = .pointer (some ⟨h, 0, none⟩) ∧ g ≠ h ∧ w8.heap.size ≤ g ∧ w8.heap.size ≤ h ∧ BoxAt wx g a A c ∧ BoxAt wx h b B d ∧ Below w8.heap.size w8 wx ∧ (∀ i, wx.frozen? ⟨g, i, none⟩ = false) ∧ ∀ i, wx.frozen? ⟨h, i, none⟩ = false)
    case first =>
      go_region
      all_goals
        go_wp2
        go_meet
        refine ⟨_, _, rfl, rfl, by omega, by omega, by omega, ⟨⟨by simp [go_sem, *], by simp [go_sem, *], by simp [go_sem, *], by simp [go_sem, *], by simp [go_sem, *]⟩, sa.below (by (repeat (first | with_reducible exact Below.refl _ _ | with_reducible assumption | (with_reducible refine bl_set ?_ (by simp; try omega) _) | (with_reducible refine bl_alloc ?_ _) | (with_reducible refine bl_dn ?_ _) | (with_reducible refine bl_drew ?_) | (with_reducible refine bl_then ?_ (by with_reducible assumption))))), by first | (simp; done) | (simp; omega)⟩, ⟨⟨by simp [go_sem, *], by simp [go_sem, *], by simp [go_sem, *], by simp [go_sem, *], by simp [go_sem, *]⟩, sb.below (by (repeat (first | with_reducible exact Below.refl _ _ | with_reducible assumption | (with_reducible refine bl_set ?_ (by simp; try omega) _) | (with_reducible refine bl_alloc ?_ _) | (with_reducible refine bl_dn ?_ _) | (with_reducible refine bl_drew ?_) | (with_reducible refine bl_then ?_ (by with_reducible assumption))))), by first | (simp; done) | (simp; omega)⟩, by (repeat (first | with_reducible exact Below.refl _ _ | with_reducible assumption | (with_reducible refine bl_set ?_ (by simp; try omega) _) | (with_reducible refine bl_alloc ?_ _) | (with_reducible refine bl_dn ?_ _) | (with_reducible refine bl_drew ?_) | (with_reducible refine bl_then ?_ (by with_reducible assumption)))), fun i => by simp [go_sem], fun i => by simp [go_sem]⟩
    case rest =>
      obtain ⟨g, h, rfl, rfl, hgh, hg1, hh1, hX, hY, hg9, frg, frh⟩ := hcut
      obtain ⟨w9, rfl⟩ : ∃ w9 : World, w9 = wc := ⟨_, rfl⟩
      have hX := hide hX; have hY := hide hY; have nB := hide (sl_ne (g := g) sb hg1); have nA := hide (sl_ne (g := h) sa hh1)
      have st9 := hide (st8.out.below hg9)
      clear hbw; clear r0 r1 r2 r3 r4 sr zr; clear b0 b1 b2 b3 b4 sb zb; clear a0 a1 a2 a3 a4 sa za
      obtain ⟨hbw, _, _, ⟨⟨b0, b1, b2, b3, b4⟩, sb, zb⟩, ⟨⟨a0, a1, a2, a3, a4⟩, sa, za⟩, _⟩ := st9.out
      go_upto_if 68 with fail
      go_cut [8] from 66 (fun s8 wx => s8 = .int .i64 er ∧ ∃ A' c', BoxAt wx g (turned a) A' c' ∧ BoxAt wx h b B d ∧ Below w8.heap.size w8 wx ∧ (∀ i, wx.frozen? ⟨h, i, none⟩ = false) ∧ ((turned a).xs ≠ [] → ∀ b o, A' = some ⟨b, o, none⟩ → b ≠ h))
      case first =>
        by_cases hr : 0 < a.r
        · have HE : Hid (extRev a = (0, turned a)) := turned_rev ca.out hr
          go_wp2_with fail; refine (rev_go a _ _ ca HE _ (sa.below (by (repeat (first | with_reducible exact Below.refl _ _ | with_reducible assumption | (with_reducible refine bl_set ?_ (by simp; try omega) _) | (with_reducible refine bl_alloc ?_ _) | (with_reducible refine bl_dn ?_ _) | (with_reducible refine bl_drew ?_) | (with_reducible refine bl_then ?_ (by with_reducible assumption))))))).mono ?_; rintro e w10 ⟨hgw10, Cw10, cw10, rfl, hsw10, hgew10, hcpw10⟩
          have hX10 := hX.out.1.below hgw10
          have hY10 := hY.out.below hgw10
          obtain ⟨x0, x1, x2, x3, x4⟩ := hX10
          have frx : ∀ i, w10.frozen? ⟨g, i, none⟩ = false := fun i => (hgw10.frozen (p := ⟨g, i, none⟩) hX.out.2.2).trans (frg i)
          have zg : g < w10.heap.size := Nat.lt_of_lt_of_le hX.out.2.2 hgw10.size
          go_wp2_with fail
          go_meet
          obtain ⟨p1, p2, p3⟩ := put_boxes (n := cw10) (hg9.trans (hgw10.mono hg9.size)) ⟨x0, x1, x2, x3, x4⟩ hY10 hgh hg1 zg hsw10 (fun b o e => by have := hgew10 b o e; have := hX.out.2.2; omega) nB.out
          have frh10 : ∀ i, w10.frozen? ⟨h, i, none⟩ = false := fun i => (hgw10.frozen (p := ⟨h, i, none⟩) hY.out.2.2).trans (frh i)
          exact ⟨rfl, _, _, p1, p2, p3, fun i => by simp [go_sem, frh10 i], fun _ b o e => by have := hgew10 b o e; have := hY.out.2.2; omega⟩
        · go_wp2_with fail
          go_meet
          rw [turned_0 (show ¬ 0 < a.r by omega)]
          exact ⟨rfl, A, c, hX.out, hY.out, hg9, frh, nA.out⟩
      case rest =>
        obtain ⟨rfl, A', c', hX, hY, hgx, frh, nX⟩ := hcut
        obtain ⟨w10, rfl⟩ : ∃ w10 : World, w10 = wc := ⟨_, rfl⟩
        have hX := hide hX; have hY := hide hY; have nX := hide nX
        clear hbw st9 hg9; clear b0 b1 b2 b3 b4 sb zb; clear a0 a1 a2 a3 a4 sa za
        have st10 := hide (st8.out.below hgx)
        obtain ⟨hbw, _, _, ⟨⟨b0, b1, b2, b3, b4⟩, sb, zb⟩, ⟨⟨a0, a1, a2, a3, a4⟩, sa, za⟩, _⟩ := st10.out
        go_upto_if 76 with fail
        go_cut [8] from 74 (fun s8 wx => s8 = .int .i64 er ∧ ∃ B' d', BoxAt wx h (turned b) B' d' ∧ BoxAt wx g (turned a) A' c' ∧ Below w8.heap.size w8 wx)
        case first =>
          by_cases hr : 0 < b.r
          · have HE : Hid (extRev b = (0, turned b)) := turned_rev cb.out hr
            go_wp2_with fail; refine (rev_go b _ _ cb HE _ (sb.below (by (repeat (first | with_reducible exact Below.refl _ _ | with_reducible assumption | (with_reducible refine bl_set ?_ (by simp; try omega) _) | (with_reducible refine bl_alloc ?_ _) | (with_reducible refine bl_dn ?_ _) | (with_reducible refine bl_drew ?_) | (with_reducible refine bl_then ?_ (by with_reducible assumption))))))).mono ?_; rintro e w11 ⟨hgw11, Cw11, cw11, rfl, hsw11, hgew11, hcpw11⟩
            have hX11 := hX.out.below hgw11
            obtain ⟨x0, x1, x2, x3, x4⟩ := hY.out.1.below hgw11
            have frx : ∀ i, w11.frozen? ⟨h, i, none⟩ = false := fun i => (hgw11.frozen (p := ⟨h, i, none⟩) hY.out.2.2).trans (frh i)
            have zg : h < w11.heap.size := Nat.lt_of_lt_of_le hY.out.2.2 hgw11.size
            go_wp2_with fail
            go_meet
            obtain ⟨p1, p2, p3⟩ := put_boxes (n := cw11) (hgx.trans (hgw11.mono hgx.size)) ⟨x0, x1, x2, x3, x4⟩ hX11 hgh.symm hh1 zg hsw11 (fun b o e => by have := hgew11 b o e; have := hY.out.2.2; omega) nX.out
            exact ⟨rfl, _, _, p1, p2, p3⟩
          · go_wp2_with fail
            go_meet
            rw [turned_0 (show ¬ 0 < b.r by omega)]
            exact ⟨rfl, B, d, hY.out, hX.out, hgx⟩
        case rest =>
          obtain ⟨rfl, B', d', hY, hX, hgy⟩ := hcut
          obtain ⟨w11, rfl⟩ : ∃ w11 : World, w11 = wc := ⟨_, rfl⟩
          clear hbw st10 hgx nX nA nB frh; clear b0 b1 b2 b3 b4 sb zb; clear a0 a1 a2 a3 a4 sa za
          have st11 : Hid (St w w11 [(g, turned a, A', c'), (h, turned b, B', d'), (P9, U, Cw6, cw6), (P7, R, Cw5, cw5), (w.heap.size + 1, b, B, d), (w.heap.size, a, A, c)]) := ⟨(st8.out.below hgy).1, hX, hY, (st8.out.below hgy).2⟩
          clear hX hY hgy st8
          have HTA : Hid (Fine (turned a)) := fine_turned ca.out HA.out
          have HTB : Hid (Fine (turned b)) := fine_turned cb.out HB.out
          obtain ⟨hbw, ⟨⟨x0, x1, x2, x3, x4⟩, sx, zx⟩, ⟨⟨y0, y1, y2, y3, y4⟩, sy, zy⟩, _, _, _, _, _⟩ := st11.out
          go_wp2_with fail; refine (two_go p (turned a) (turned b) _ _ _ _ HTA HTB HG _ (sx.below (by (repeat (first | with_reducible exact Below.refl _ _ | with_reducible assumption | (with_reducible refine bl_set ?_ (by simp; try omega) _) | (with_reducible refine bl_alloc ?_ _) | (with_reducible refine bl_dn ?_ _) | (with_reducible refine bl_drew ?_) | (with_reducible refine bl_then ?_ (by with_reducible assumption)))))) (sy.below (by (repeat (first | with_reducible exact Below.refl _ _ | with_reducible assumption | (with_reducible refine bl_set ?_ (by simp; try omega) _) | (with_reducible refine bl_alloc ?_ _) | (with_reducible refine bl_dn ?_ _) | (with_reducible refine bl_drew ?_) | (with_reducible refine bl_then ?_ (by with_reducible assumption))))))).mono ?_; rintro e w12 ⟨hgw12, Cw12, cw12, rfl, hsw12, hgew12, hcpw12⟩
          have st12 := hide (st11.out.below hgw12)
          clear hbw st11; clear x0 x1 x2 x3 x4 sx zx; clear y0 y1 y2 y3 y4 sy zy
          obtain ⟨v, hv⟩ : ∃ v, (er == 0) = v := ⟨_, rfl⟩
          have hv2 : (eg == 0) = v := by rw [← hv, Bool.eq_iff_iff, beq_iff_eq, beq_iff_eq]; exact T.out.1.symm
          obtain ⟨u, hu⟩ : ∃ v, (ei == 0) = v := ⟨_, rfl⟩
          have hu2 : (ej == 0) = u := by rw [← hu, Bool.eq_iff_iff, beq_iff_eq, beq_iff_eq]; exact V.out.1.symm
          go_upto_region 15 with fail
          have st13 := hide (st12.out.box cw12 hsw12 25)
          change Code.wp _ _ _ _ (w12.alloc (.cells #[.int .i64 G.k, .int .i64 G.r, .int .i64 G.l0, .int .i64 G.l1, .slice Cw12 G.xs.length cw12] 25))
          generalize (w12.alloc (.cells #[.int .i64 G.k, .int .i64 G.r, .int .i64 G.l0, .int .i64 G.l1, .slice Cw12 G.xs.length cw12] 25)) = w13 at *
          generalize w12.heap.size = P13 at *
          obtain ⟨hbw, ⟨⟨g0, g1, g2, g3, g4⟩, sg, zg⟩, _, _, _, ⟨⟨r0, r1, r2, r3, r4⟩, sr, zr⟩, _, _, _⟩ := st13.out
          go_cut [100] from 94 (fun s100 wx => s100 = .bool (v && decide (0 < R.r)) ∧ w13 = wx)
          case first =>
            cases v
            · go_wp2_with fail
              go_meet
              exact ⟨rfl, rfl⟩
            · cases hq : decide (0 < R.r)
              · go_wp2_with fail
                go_meet
                exact ⟨by rw [hq]; rfl, rfl⟩
              · go_wp2_with fail
                go_meet
                exact ⟨by rw [hq]; rfl, rfl⟩
          case rest =>
            obtain ⟨rfl, rfl⟩ := hcut
            go_upto_if 100 with fail
            go_cut [15, 16] from 94 (fun s15 s16 wx => Below w13.heap.size w13 wx)
            case first =>
              cases hq : v && decide (0 < R.r)
              · go_wp2_with fail
                go_meet
                exact Below.refl _ _
              · obtain ⟨q1, q2⟩ : er = 0 ∧ 0 < R.r := by
                  rw [Bool.and_eq_true, ← hv] at hq
                  exact ⟨by simpa using hq.1, by simpa using hq.2⟩
                have HE : Hid (extRev R = (0, G)) := T.out.2 q1 q2
                have cR : Hid (chk R = 0) := by
                  have e := two_chk (p := p) ca.out cb.out (by rw [HR.out]; exact q1)
                  rw [HR.out] at e; exact e
                clear q1 q2
                go_wp2_with fail; refine (rev_go R _ _ cR HE _ (sr.below (by (repeat (first | with_reducible exact Below.refl _ _ | with_reducible assumption | (with_reducible refine bl_set ?_ (by simp; try omega) _) | (with_reducible refine bl_alloc ?_ _) | (with_reducible refine bl_dn ?_ _) | (with_reducible refine bl_drew ?_) | (with_reducible refine bl_then ?_ (by with_reducible assumption))))))).mono ?_; rintro e w14 ⟨hgw14, Cw14, cw14, rfl, hsw14, hgew14, hcpw14⟩
                obtain ⟨hbw, ⟨⟨g0, g1, g2, g3, g4⟩, sg, zg⟩, _⟩ := st13.out.below hgw14
                go_wp2_with fail
                refine (same_any G G _ _ _ _ LG.out LG.out _ (sg.below (by (repeat (first | with_reducible exact Below.refl _ _ | with_reducible assumption | (with_reducible refine bl_set ?_ (by simp; try omega) _) | (with_reducible refine bl_alloc ?_ _) | (with_reducible refine bl_dn ?_ _) | (with_reducible refine bl_drew ?_) | (with_reducible refine bl_then ?_ (by with_reducible assumption)))))) (Sl.below hsw14 (by (repeat (first | with_reducible exact Below.refl _ _ | with_reducible assumption | (with_reducible refine bl_set ?_ (by simp; try omega) _) | (with_reducible refine bl_alloc ?_ _) | (with_reducible refine bl_dn ?_ _) | (with_reducible refine bl_drew ?_) | (with_reducible refine bl_then ?_ (by with_reducible assumption))))))).mono ?_
                rw [same_refl]
                rintro e w15 ⟨rfl, hg15⟩
                go_wp2_with fail
                go_meet
                show Below _ _ _
                (repeat (first | with_reducible exact Below.refl _ _ | with_reducible assumption | (with_reducible refine bl_set ?_ (by simp; try omega) _) | (with_reducible refine bl_alloc ?_ _) | (with_reducible refine bl_dn ?_ _) | (with_reducible refine bl_drew ?_) | (with_reducible refine bl_then ?_ (by with_reducible assumption))))
            case rest =>
              have hg14 : Below w13.heap.size w13 wc := hcut
              obtain ⟨w14, rfl⟩ : ∃ w14 : World, w14 = wc := ⟨_, rfl⟩
              have st14 := hide (st13.out.below hg14)
              clear hbw hcut hg14 st13; clear g0 g1 g2 g3 g4 sg zg; clear r0 r1 r2 r3 r4 sr zr
              obtain ⟨hbw, _, ⟨⟨x0, x1, x2, x3, x4⟩, sx, zx⟩, _, _, _, _, ⟨⟨a0, a1, a2, a3, a4⟩, sa, za⟩, _⟩ := st14.out
              go_wp2_with fail; refine (one_go p a _ _ HA HM _ (sa.below (by (repeat (first | with_reducible exact Below.refl _ _ | with_reducible assumption | (with_reducible refine bl_set ?_ (by simp; try omega) _) | (with_reducible refine bl_alloc ?_ _) | (with_reducible refine bl_dn ?_ _) | (with_reducible refine bl_drew ?_) | (with_reducible refine bl_then ?_ (by with_reducible assumption))))))).mono ?_; rintro e w15 ⟨hgw15, Cw15, cw15, rfl, hsw15, hgew15, hcpw15⟩
              have st15 := hide (st14.out.below hgw15)
              clear hbw; clear x0 x1 x2 x3 x4 sx zx; clear a0 a1 a2 a3 a4 sa za
              obtain ⟨hbw, _, ⟨⟨x0, x1, x2, x3, x4⟩, sx, zx⟩, _, _, _, _, ⟨⟨a0, a1, a2, a3, a4⟩, sa, za⟩, _⟩ := st15.out
              go_wp2_with fail; refine (one_go p (turned a) _ _ HTA HN _ (sx.below (by (repeat (first | with_reducible exact Below.refl _ _ | with_reducible assumption | (with_reducible refine bl_set ?_ (by simp; try omega) _) | (with_reducible refine bl_alloc ?_ _) | (with_reducible refine bl_dn ?_ _) | (with_reducible refine bl_drew ?_) | (with_reducible refine bl_then ?_ (by with_reducible assumption))))))).mono ?_; rintro e w16 ⟨hgw16, Cw16, cw16, rfl, hsw16, hgew16, hcpw16⟩
              have st16 := hide (st15.out.push hsw15 hgw16)
              clear hbw; clear x0 x1 x2 x3 x4 sx zx; clear a0 a1 a2 a3 a4 sa za
              obtain ⟨hbw, ⟨⟨m0, m1, m2, m3, m4⟩, sm, zm⟩, _, _, _, _, _, _, ⟨⟨a0, a1, a2, a3, a4⟩, sa, za⟩, _⟩ := st16.out
              go_upto_region 23 with fail
              have st17 := hide (st16.out.box cw16 hsw16 25)
              change Code.wp _ _ _ _ (w16.alloc (.cells #[.int .i64 N.k, .int .i64 N.r, .int .i64 N.l0, .int .i64 N.l1, .slice Cw16 N.xs.length cw16] 25))
              generalize (w16.alloc (.cells #[.int .i64 N.k, .int .i64 N.r, .int .i64 N.l0, .int .i64 N.l1, .slice Cw16 N.xs.length cw16] 25)) = w17 at *
              generalize w16.heap.size = P19 at *
              clear hbw; clear m0 m1 m2 m3 m4 sm zm; clear a0 a1 a2 a3 a4 sa za
              obtain ⟨hbw, ⟨⟨n0, n1, n2, n3, n4⟩, sn, zn⟩, ⟨⟨m0, m1, m2, m3, m4⟩, sm, zm⟩, _, _, _, _, _, _, ⟨⟨a0, a1, a2, a3, a4⟩, sa, za⟩, _⟩ := st17.out
              go_cut [137] from 131 (fun s137 wx => s137 = .bool (u && decide (0 < a.r)) ∧ w17 = wx)
              case first =>
                cases u
                · go_wp2_with fail
                  go_meet
                  exact ⟨rfl, rfl⟩
                · cases hq : decide (0 < a.r)
                  · go_wp2_with fail
                    go_meet
                    exact ⟨by rw [hq]; rfl, rfl⟩
                  · go_wp2_with fail
                    go_meet
                    exact ⟨by rw [hq]; rfl, rfl⟩
              case rest =>
                obtain ⟨rfl, rfl⟩ := hcut
                cases hq : u && decide (0 < a.r)
                · (go_wp2_with fail; refine (awake10 _).mono ?_; rintro e w99 ⟨rfl, hg99⟩; go_wp2; go_ret; exact ⟨rfl, by (repeat (first | with_reducible exact Below.refl _ _ | with_reducible assumption | (with_reducible refine bl_set ?_ (by simp; try omega) _) | (with_reducible refine bl_alloc ?_ _) | (with_reducible refine bl_dn ?_ _) | (with_reducible refine bl_drew ?_) | (with_reducible refine bl_then ?_ (by with_reducible assumption))))⟩)
                · obtain ⟨q1, q2⟩ : ei = 0 ∧ 0 < a.r := by
                    rw [Bool.and_eq_true, ← hu] at hq
                    exact ⟨by simpa using hq.1, by simpa using hq.2⟩
                  have HE : Hid (extRev M = (0, N)) := V.out.2 q1 q2
                  have cM : Hid (chk M = 0) := by
                    have e := one_chk (p := p) ca.out (by rw [HM.out]; exact q1)
                    rw [HM.out] at e; exact e
                  clear q1 q2
                  go_wp2_with fail; refine (rev_go M _ _ cM HE _ (sm.below (by (repeat (first | with_reducible exact Below.refl _ _ | with_reducible assumption | (with_reducible refine bl_set ?_ (by simp; try omega) _) | (with_reducible refine bl_alloc ?_ _) | (with_reducible refine bl_dn ?_ _) | (with_reducible refine bl_drew ?_) | (with_reducible refine bl_then ?_ (by with_reducible assumption))))))).mono ?_; rintro e w18 ⟨hgw18, Cw18, cw18, rfl, hsw18, hgew18, hcpw18⟩
                  obtain ⟨hbw, ⟨⟨n0, n1, n2, n3, n4⟩, sn, zn⟩, _⟩ := st17.out.below hgw18
                  go_wp2_with fail
                  refine (same_any N N _ _ _ _ LN.out LN.out _ (sn.below (by (repeat (first | with_reducible exact Below.refl _ _ | with_reducible assumption | (with_reducible refine bl_set ?_ (by simp; try omega) _) | (with_reducible refine bl_alloc ?_ _) | (with_reducible refine bl_dn ?_ _) | (with_reducible refine bl_drew ?_) | (with_reducible refine bl_then ?_ (by with_reducible assumption)))))) (Sl.below hsw18 (by (repeat (first | with_reducible exact Below.refl _ _ | with_reducible assumption | (with_reducible refine bl_set ?_ (by simp; try omega) _) | (with_reducible refine bl_alloc ?_ _) | (with_reducible refine bl_dn ?_ _) | (with_reducible refine bl_drew ?_) | (with_reducible refine bl_then ?_ (by with_reducible assumption))))))).mono ?_
                  rw [same_refl]
                  rintro e w19 ⟨rfl, hg19⟩
                  (go_wp2_with fail; refine (awake10 _).mono ?_; rintro e w99 ⟨rfl, hg99⟩; go_wp2; go_ret; exact ⟨rfl, by (repeat (first | with_reducible exact Below.refl _ _ | with_reducible assumption | (with_reducible refine bl_set ?_ (by simp; try omega) _) | (with_reducible refine bl_alloc ?_ _) | (with_reducible refine bl_dn ?_ _) | (with_reducible refine bl_drew ?_) | (with_reducible refine bl_then ?_ (by with_reducible assumption))))⟩)
end Ar
end Go.Proofs.Ytfpnafeildigaaa
