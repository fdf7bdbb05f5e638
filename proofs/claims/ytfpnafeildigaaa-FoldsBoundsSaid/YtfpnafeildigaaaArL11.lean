/-
The walk of ExtendParts (chapter 10).
-/
import Derived.Test.YtfpnafeildigaaaArL10
import Derived.Test.YtfpnafeildigaaaBb5
import Derived.Test.YtfpnafeildigaaaArLx
set_option linter.unusedSimpArgs false
set_option linter.unusedVariables false
namespace Go.Proofs.Ytfpnafeildigaaa
namespace Ar
open Go.RowKit Sc
/-- what the variables of 'a, e := f(..)' hold, with the slice's capacity -/
def VarC (w0 : World) (er : Int) (r : Arr) (sa se : Value) (w : World) : Prop :=
  ∃ (g : Nat) (C : Option Addr) (n : Nat), sa = .pointer (some ⟨g, 0, none⟩) ∧ se = .int .i64 er ∧ BoxAt w g r C n ∧ r.xs.length ≤ n ∧ Below w0.heap.size w0 w
theorem VarC.of_new {w0 w : World} {er : Int} {r : Arr} {A : Option Addr} {c : Nat} {t : TypeId} (hs : Sl w A r.xs) (hc : r.xs.length ≤ c) (hb : Below w0.heap.size w0 w) :
    VarC w0 er r (.pointer (some ⟨w.heap.size, 0, none⟩)) (.int .i64 er) (w.alloc (.cells #[.int .i64 r.k, .int .i64 r.r, .int .i64 r.l0, .int .i64 r.l1, .slice A r.xs.length c] t)) :=
  ⟨_, A, c, rfl, rfl, BoxAt.new hs t, hc, hb.alloc hb.size _⟩
theorem VarC.of_put {w0 w : World} {er : Int} {r : Arr} {g : Nat} {A : Option Addr} {c : Nat} {u0 u1 u2 u3 u4 : Value} (h5 : Arr5 w g u0 u1 u2 u3 u4) (hs : Sl w A r.xs) (hA : ∀ b o, A = some ⟨b, o, none⟩ → g + 1 ≤ b) (hg : w0.heap.size ≤ g) (hb : Below w0.heap.size w0 w) (hc : r.xs.length ≤ c) :
    VarC w0 er r (.pointer (some ⟨g, 0, none⟩)) (.int .i64 er) (((((w.setCell ⟨g, 0, none⟩ (.int .i64 r.k)).setCell ⟨g, 1, none⟩ (.int .i64 r.r)).setCell ⟨g, 2, none⟩ (.int .i64 r.l0)).setCell ⟨g, 3, none⟩ (.int .i64 r.l1)).setCell ⟨g, 4, none⟩ (.slice A r.xs.length c)) :=
  ⟨g, A, c, rfl, rfl, ⟨h5.put _ _ _ _ _, (((((hs.set hA (by simp) _).set hA (by simp) _).set hA (by simp) _).set hA (by simp) _).set hA (by simp) _), by have := block_lt_of_cell h5.1; simpa [World.setCell] using this⟩, hc,
    ((((hb.setCell hg _).setCell hg _).setCell hg _).setCell hg _).setCell hg _⟩
theorem vector_go (k : Int) (A : Option Addr) (c : Nat) {n : Nat} {xs : List Int} (hn : Hid (n = xs.length)) (hl : Hid (xs.length ≤ 100000)) (w : World) (hs : Sl w A xs) :
    Calls Try.prog 36 #[.int .i64 k, .slice A n c] w fun e w' => Below w.heap.size w w' ∧ ∃ (V : Option Addr) (cv : Nat), e = .returned (.agg #[.int .i64 (vec' k xs).k, .int .i64 (vec' k xs).r, .int .i64 (vec' k xs).l0, .int .i64 (vec' k xs).l1, .slice V (vec' k xs).xs.length cv]) ∧ Sl w' V (vec' k xs).xs ∧ (∀ g o, V = some ⟨g, o, none⟩ → w.heap.size ≤ g) ∧ (vec' k xs).xs.length ≤ cv := by
  have e := hn.out
  subst e
  exact vector_any k A c xs hl.out w hs
theorem fine_vec {a : Arr} {k : Int} {xs : List Int} (h : Fine a) (hl : xs.length ≤ a.xs.length) (hs : ∀ x ∈ xs, x ∈ a.xs) : Fine (vec' k xs) :=
  ⟨Nat.le_trans hl h.1, by have := h.1; show -9223372036854775808 ≤ (xs.length : Int) ∧ (xs.length : Int) ≤ 9223372036854775807; omega, (by show Fits 0; decide), fun x hx => h.2.2.2 x (hs x hx)⟩
theorem cat_go (a b : Arr) (A B : Option Addr) {c d : Nat} (ha : Hid (chk a = 0)) (hb : Hid (chk b = 0)) (hcA : Hid (a.xs.length ≤ c)) (hcB : Hid (b.xs.length ≤ d)) {er : Int} {R : Arr} (hE : Hid (extCat a b = (er, R))) (w : World) (hs : Sl w A a.xs) (ht : Sl w B b.xs) :
    Calls Try.prog 37 #[.agg #[.int .i64 a.k, .int .i64 a.r, .int .i64 a.l0, .int .i64 a.l1, .slice A a.xs.length c], .agg #[.int .i64 b.k, .int .i64 b.r, .int .i64 b.l0, .int .i64 b.l1, .slice B b.xs.length d]] w fun e w' => Below w.heap.size w w' ∧ ∃ (C : Option Addr) (n : Nat), e = .returned (.tuple #[.agg #[.int .i64 R.k, .int .i64 R.r, .int .i64 R.l0, .int .i64 R.l1, .slice C R.xs.length n], .int .i64 er]) ∧ Sl w' C R.xs ∧ (∀ g o, C = some ⟨g, o, none⟩ → w.heap.size ≤ g) ∧ R.xs.length ≤ n := by
  obtain ⟨h1, h2, h3⟩ := chk_fit ha.out
  obtain ⟨k1, k2, k3⟩ := chk_fit hb.out
  have h := cat_any a A c (by omega) h2 h3 b B d (by omega) k2 k3 hcA.out hcB.out w hs ht
  rw [hE.out] at h
  exact h
set_option maxRecDepth 100000 in
set_option maxHeartbeats 4000000 in
theorem parts_walk (p : Int) (a b : Arr) (A B : Option Addr) (c d t : Nat) (hcA : a.xs.length ≤ c) (hcB : b.xs.length ≤ d) (h16 : t < 65536) (f0 : Fits a.l0) (f1 : Fits a.l1) (hx : ∀ x ∈ a.xs, Fits x) (g0 : Fits b.l0) (g1 : Fits b.l1) (hy : ∀ x ∈ b.xs, Fits x) (w : World) (hs : Sl w A a.xs) (ht : Sl w B b.xs) :
    Calls Try.prog 8 #[.int .i64 p, .agg #[.int .i64 a.k, .int .i64 a.r, .int .i64 a.l0, .int .i64 a.l1, .slice A a.xs.length c], .agg #[.int .i64 b.k, .int .i64 b.r, .int .i64 b.l0, .int .i64 b.l1, .slice B b.xs.length d, .int .u16 t]] w fun e w' => e = .returned (.bool true) ∧ Below w.heap.size w w' := by
  have HX := hide hx; have HY := hide hy; have HcA := hide hcA; have HcB := hide hcB; have HT := hide h16
  clear hx hy hcA hcB h16
  go_enter Try.func8, Try.ntmps8
  go_upto_region 2 with fail
  have ba := BoxAt.below (BoxAt.new (c := c) hs 25) (bl_alloc (bl_alloc (Below.refl _ _) (.cells #[.int .i64 b.k, .int .i64 b.r, .int .i64 b.l0, .int .i64 b.l1, .slice B b.xs.length d, .int .u16 t] 50)) (.cells #[.int .i64 b.k, .int .i64 b.r, .int .i64 b.l0, .int .i64 b.l1, .slice B b.xs.length d] 25))
  have bb := BoxAt.new (w := ((w.alloc (.cells #[.int .i64 a.k, .int .i64 a.r, .int .i64 a.l0, .int .i64 a.l1, .slice A a.xs.length c] 25)).alloc (.cells #[.int .i64 b.k, .int .i64 b.r, .int .i64 b.l0, .int .i64 b.l1, .slice B b.xs.length d, .int .u16 t] 50))) (a := b) (c := d) (ht.below (by (repeat (first | with_reducible exact Below.refl _ _ | with_reducible assumption | (with_reducible refine bl_set ?_ (by simp; try omega) _) | (with_reducible refine bl_alloc ?_ _) | (with_reducible refine bl_dn ?_ _) | (with_reducible refine bl_drew ?_) | (with_reducible refine bl_then ?_ (by with_reducible assumption)))))) 25
  simp only [World.size_alloc] at bb
  have ct0 : Hid ((((w.alloc (.cells #[.int .i64 a.k, .int .i64 a.r, .int .i64 a.l0, .int .i64 a.l1, .slice A a.xs.length c] 25)).alloc (.cells #[.int .i64 b.k, .int .i64 b.r, .int .i64 b.l0, .int .i64 b.l1, .slice B b.xs.length d, .int .u16 t] 50)).alloc (.cells #[.int .i64 b.k, .int .i64 b.r, .int .i64 b.l0, .int .i64 b.l1, .slice B b.xs.length d] 25)).cell? ⟨w.heap.size + 1, 5, none⟩ = some (.int .u16 t)) := by show _ = _; simp [go_sem]
  have hb0 : Below w.heap.size w (((w.alloc (.cells #[.int .i64 a.k, .int .i64 a.r, .int .i64 a.l0, .int .i64 a.l1, .slice A a.xs.length c] 25)).alloc (.cells #[.int .i64 b.k, .int .i64 b.r, .int .i64 b.l0, .int .i64 b.l1, .slice B b.xs.length d, .int .u16 t] 50)).alloc (.cells #[.int .i64 b.k, .int .i64 b.r, .int .i64 b.l0, .int .i64 b.l1, .slice B b.xs.length d] 25)) := by (repeat (first | with_reducible exact Below.refl _ _ | with_reducible assumption | (with_reducible refine bl_set ?_ (by simp; try omega) _) | (with_reducible refine bl_alloc ?_ _) | (with_reducible refine bl_dn ?_ _) | (with_reducible refine bl_drew ?_) | (with_reducible refine bl_then ?_ (by with_reducible assumption))))
  generalize (((w.alloc (.cells #[.int .i64 a.k, .int .i64 a.r, .int .i64 a.l0, .int .i64 a.l1, .slice A a.xs.length c] 25)).alloc (.cells #[.int .i64 b.k, .int .i64 b.r, .int .i64 b.l0, .int .i64 b.l1, .slice B b.xs.length d, .int .u16 t] 50)).alloc (.cells #[.int .i64 b.k, .int .i64 b.r, .int .i64 b.l0, .int .i64 b.l1, .slice B b.xs.length d] 25)) = w0 at *
  have st0 : Hid (St w0 w0 [(w.heap.size + 1 + 1, b, B, d), (w.heap.size, a, A, c)]) := ⟨Below.refl _ _, bb, ba, trivial⟩
  clear ba bb
  obtain ⟨hbw, ⟨⟨b0, b1, b2, b3, b4⟩, sb, zb⟩, ⟨⟨a0, a1, a2, a3, a4⟩, sa, za⟩, _⟩ := st0.out
  go_wp2_with fail
  refine (far_any a A c _).mono ?_
  cases hFa : decide (405 < (a.xs.length : Int))
  rotate_left
  · rintro e w98 ⟨rfl, hg98⟩
    have st98 := hide (st0.out.below hg98)
    clear hbw; clear a0 a1 a2 a3 a4 sa za; clear b0 b1 b2 b3 b4 sb zb
    obtain ⟨hbw, ⟨⟨b0, b1, b2, b3, b4⟩, sb, zb⟩, ⟨⟨a0, a1, a2, a3, a4⟩, sa, za⟩, _⟩ := st98.out
    go_wp2_with fail
    refine (awake10 _).mono ?_
    rintro e w99 ⟨rfl, hg99⟩
    go_wp2
    go_ret
    exact ⟨rfl, by (repeat (first | with_reducible exact Below.refl _ _ | with_reducible assumption | (with_reducible refine bl_set ?_ (by simp; try omega) _) | (with_reducible refine bl_alloc ?_ _) | (with_reducible refine bl_dn ?_ _) | (with_reducible refine bl_drew ?_) | (with_reducible refine bl_then ?_ (by with_reducible assumption))))⟩
  have hFa := hide hFa
  rintro e w1 ⟨rfl, hg1⟩
  have st1 := hide (st0.out.below hg1)
  clear hbw st0 hg1; clear a0 a1 a2 a3 a4 sa za; clear b0 b1 b2 b3 b4 sb zb
  obtain ⟨hbw, ⟨⟨b0, b1, b2, b3, b4⟩, sb, zb⟩, ⟨⟨a0, a1, a2, a3, a4⟩, sa, za⟩, _⟩ := st1.out
  go_wp2_with fail
  refine (far_any b B d _).mono ?_
  cases hFb : decide (405 < (b.xs.length : Int))
  rotate_left
  · rintro e w98 ⟨rfl, hg98⟩
    have st98 := hide (st1.out.below hg98)
    clear hbw; clear a0 a1 a2 a3 a4 sa za; clear b0 b1 b2 b3 b4 sb zb
    obtain ⟨hbw, ⟨⟨b0, b1, b2, b3, b4⟩, sb, zb⟩, ⟨⟨a0, a1, a2, a3, a4⟩, sa, za⟩, _⟩ := st98.out
    go_wp2_with fail
    refine (awake10 _).mono ?_
    rintro e w99 ⟨rfl, hg99⟩
    go_wp2
    go_ret
    exact ⟨rfl, by (repeat (first | with_reducible exact Below.refl _ _ | with_reducible assumption | (with_reducible refine bl_set ?_ (by simp; try omega) _) | (with_reducible refine bl_alloc ?_ _) | (with_reducible refine bl_dn ?_ _) | (with_reducible refine bl_drew ?_) | (with_reducible refine bl_then ?_ (by with_reducible assumption))))⟩
  have hFb := hide hFb
  rintro e w2 ⟨rfl, hg2⟩
  have st2 := hide (st1.out.below hg2)
  clear hbw st1 hg2; clear a0 a1 a2 a3 a4 sa za; clear b0 b1 b2 b3 b4 sb zb
  obtain ⟨hbw, ⟨⟨b0, b1, b2, b3, b4⟩, sb, zb⟩, ⟨⟨a0, a1, a2, a3, a4⟩, sa, za⟩, _⟩ := st2.out
  go_wp2_with fail
  refine (Ref.ac_any a A c (by have := decide_eq_false_iff_not.1 hFa.out; omega) f0 f1 _ (sa.below (by (repeat (first | with_reducible exact Below.refl _ _ | with_reducible assumption | (with_reducible refine bl_set ?_ (by simp; try omega) _) | (with_reducible refine bl_alloc ?_ _) | (with_reducible refine bl_dn ?_ _) | (with_reducible refine bl_drew ?_) | (with_reducible refine bl_then ?_ (by with_reducible assumption))))))).mono ?_
  cases hNa : (chk a != 0)
  rotate_left
  · rintro e w98 ⟨rfl, hg98⟩
    have st98 := hide (st2.out.below hg98)
    clear hbw; clear a0 a1 a2 a3 a4 sa za; clear b0 b1 b2 b3 b4 sb zb
    obtain ⟨hbw, ⟨⟨b0, b1, b2, b3, b4⟩, sb, zb⟩, ⟨⟨a0, a1, a2, a3, a4⟩, sa, za⟩, _⟩ := st98.out
    go_wp2_with fail
    refine (awake10 _).mono ?_
    rintro e w99 ⟨rfl, hg99⟩
    go_wp2
    go_ret
    exact ⟨rfl, by (repeat (first | with_reducible exact Below.refl _ _ | with_reducible assumption | (with_reducible refine bl_set ?_ (by simp; try omega) _) | (with_reducible refine bl_alloc ?_ _) | (with_reducible refine bl_dn ?_ _) | (with_reducible refine bl_drew ?_) | (with_reducible refine bl_then ?_ (by with_reducible assumption))))⟩
  have ca : Hid (chk a = 0) := by show _ = _; simpa using hNa
  rw [ca.out]
  clear hNa
  rintro e w3 ⟨rfl, hg3⟩
  have st3 := hide (st2.out.below hg3)
  clear hbw st2 hg3; clear a0 a1 a2 a3 a4 sa za; clear b0 b1 b2 b3 b4 sb zb
  obtain ⟨hbw, ⟨⟨b0, b1, b2, b3, b4⟩, sb, zb⟩, ⟨⟨a0, a1, a2, a3, a4⟩, sa, za⟩, _⟩ := st3.out
  go_wp2_with fail
  refine (Ref.ac_any b B d (by have := decide_eq_false_iff_not.1 hFb.out; omega) g0 g1 _ (sb.below (by (repeat (first | with_reducible exact Below.refl _ _ | with_reducible assumption | (with_reducible refine bl_set ?_ (by simp; try omega) _) | (with_reducible refine bl_alloc ?_ _) | (with_reducible refine bl_dn ?_ _) | (with_reducible refine bl_drew ?_) | (with_reducible refine bl_then ?_ (by with_reducible assumption))))))).mono ?_
  cases hNb : (chk b != 0)
  rotate_left
  · rintro e w98 ⟨rfl, hg98⟩
    have st98 := hide (st3.out.below hg98)
    clear hbw; clear a0 a1 a2 a3 a4 sa za; clear b0 b1 b2 b3 b4 sb zb
    obtain ⟨hbw, ⟨⟨b0, b1, b2, b3, b4⟩, sb, zb⟩, ⟨⟨a0, a1, a2, a3, a4⟩, sa, za⟩, _⟩ := st98.out
    go_wp2_with fail
    refine (awake10 _).mono ?_
    rintro e w99 ⟨rfl, hg99⟩
    go_wp2
    go_ret
    exact ⟨rfl, by (repeat (first | with_reducible exact Below.refl _ _ | with_reducible assumption | (with_reducible refine bl_set ?_ (by simp; try omega) _) | (with_reducible refine bl_alloc ?_ _) | (with_reducible refine bl_dn ?_ _) | (with_reducible refine bl_drew ?_) | (with_reducible refine bl_then ?_ (by with_reducible assumption))))⟩
  have cb : Hid (chk b = 0) := by show _ = _; simpa using hNb
  rw [cb.out]
  clear hNb
  rintro e w4 ⟨rfl, hg4⟩
  have st4 := hide (st3.out.below hg4)
  clear hbw st3 hg4; clear a0 a1 a2 a3 a4 sa za; clear b0 b1 b2 b3 b4 sb zb
  obtain ⟨hbw, ⟨⟨b0, b1, b2, b3, b4⟩, sb, zb⟩, ⟨⟨a0, a1, a2, a3, a4⟩, sa, za⟩, _⟩ := st4.out
  have HA : Hid (Fine a) := ⟨by have := decide_eq_false_iff_not.1 hFa.out; omega, f0, f1, HX.out⟩
  have HB : Hid (Fine b) := ⟨by have := decide_eq_false_iff_not.1 hFb.out; omega, g0, g1, HY.out⟩
  clear hFa hFb HX HY hs ht
  cases hra : (a.r != 1)
  rotate_left
  · (go_wp2_with fail; refine (awake10 _).mono ?_; rintro e w99 ⟨rfl, hg99⟩; go_wp2; go_ret; exact ⟨rfl, by (repeat (first | with_reducible exact Below.refl _ _ | with_reducible assumption | (with_reducible refine bl_set ?_ (by simp; try omega) _) | (with_reducible refine bl_alloc ?_ _) | (with_reducible refine bl_dn ?_ _) | (with_reducible refine bl_drew ?_) | (with_reducible refine bl_then ?_ (by with_reducible assumption))))⟩)
  cases hrb : (b.r != 1)
  rotate_left
  · (go_wp2_with fail; refine (awake10 _).mono ?_; rintro e w99 ⟨rfl, hg99⟩; go_wp2; go_ret; exact ⟨rfl, by (repeat (first | with_reducible exact Below.refl _ _ | with_reducible assumption | (with_reducible refine bl_set ?_ (by simp; try omega) _) | (with_reducible refine bl_alloc ?_ _) | (with_reducible refine bl_dn ?_ _) | (with_reducible refine bl_drew ?_) | (with_reducible refine bl_then ?_ (by with_reducible assumption))))⟩)
  have ra : Hid (a.r = 1) := by show _ = _; simpa using hra
  have rb : Hid (b.r = 1) := by show _ = _; simpa using hrb
  cases hln : (a.xs.length != b.xs.length)
  rotate_left
  · have hln2 : ((a.xs.length : Int) != b.xs.length) = true := by simp at hln ⊢; omega
    (go_wp2_with fail; refine (awake10 _).mono ?_; rintro e w99 ⟨rfl, hg99⟩; go_wp2; go_ret; exact ⟨rfl, by (repeat (first | with_reducible exact Below.refl _ _ | with_reducible assumption | (with_reducible refine bl_set ?_ (by simp; try omega) _) | (with_reducible refine bl_alloc ?_ _) | (with_reducible refine bl_dn ?_ _) | (with_reducible refine bl_drew ?_) | (with_reducible refine bl_then ?_ (by with_reducible assumption))))⟩)
  have hln2 : ((a.xs.length : Int) != b.xs.length) = false := by simp at hln ⊢; omega
  have el : Hid (a.xs.length = b.xs.length) := by show _ = _; simpa using hln
  go_upto_region 4 with fail
  obtain ⟨n, hn⟩ : ∃ n, t % (a.xs.length + 1) = n := ⟨_, rfl⟩
  have hnl : n ≤ a.xs.length := by have := Nat.mod_lt t (show 0 < a.xs.length + 1 by omega); omega
  have ct4 := (hbw.cell (p := ⟨w.heap.size + 1, 5, none⟩) (block_lt_of_cell ct0.out)).trans ct0.out
  have la4 := (chk_l ca.out).2.2.2.2
  go_cut [8] from 17 (fun s8 wx => s8 = .int .i64 (n : Int) ∧ w4 = wx)
  case first =>
    have e1 : IntKind.i64.wrap ((a.xs.length : Int) + 1) = (a.xs.length : Int) + 1 := IntWalk.i64_in _ (by omega)
    have e2 : IntKind.i64.wrap (t : Int) = (t : Int) := IntWalk.i64_in _ (by have := HT.out; omega)
    have h16 := HT.out
    have e3 : ((t : Int) % ((a.xs.length : Int) + 1)) = (n : Int) := by rw [← hn]; simp
    go_wp2_with fail
    go_meet
    exact ⟨by rw [e3], rfl⟩
  case rest =>
    obtain ⟨rfl, rfl⟩ := hcut
    clear ct4 hln hln2 hra hrb hn
    obtain ⟨er, R, hR⟩ : ∃ er R, extTwo p a b = (er, R) := ⟨_, _, rfl⟩
    obtain ⟨ef, F, hF⟩ : ∃ er R, extTwo p (vec' a.k (a.xs.take n)) (vec' b.k (b.xs.take n)) = (er, R) := ⟨_, _, rfl⟩
    obtain ⟨eg, G, hG⟩ : ∃ er R, extTwo p (vec' a.k (a.xs.drop n)) (vec' b.k (b.xs.drop n)) = (er, R) := ⟨_, _, rfl⟩
    have T' := parts (p := p) ca.out cb.out ra.out rb.out el.out n
    rw [hR, hF, hG] at T'
    have T := hide T'
    clear T'
    have HR := hide hR; have HF := hide hF; have HG := hide hG
    have HA1 : Hid (Fine (vec' a.k (a.xs.take n))) := fine_vec HA.out (by rw [List.length_take]; omega) (fun x h => List.mem_of_mem_take h)
    have HB1 : Hid (Fine (vec' b.k (b.xs.take n))) := fine_vec HB.out (by rw [List.length_take]; omega) (fun x h => List.mem_of_mem_take h)
    have HA2 : Hid (Fine (vec' a.k (a.xs.drop n))) := fine_vec HA.out (by rw [List.length_drop]; omega) (fun x h => List.mem_of_mem_drop h)
    have HB2 : Hid (Fine (vec' b.k (b.xs.drop n))) := fine_vec HB.out (by rw [List.length_drop]; omega) (fun x h => List.mem_of_mem_drop h)
    have lA1 : Hid (n = (a.xs.take n).length) := by show _ = _; rw [List.length_take]; omega
    have lB1 : Hid (n = (b.xs.take n).length) := by show _ = _; rw [List.length_take]; have := el.out; omega
    have lA2 : Hid (a.xs.length - n = (a.xs.drop n).length) := by show _ = _; rw [List.length_drop]
    have lB2 : Hid (b.xs.length - n = (b.xs.drop n).length) := by show _ = _; rw [List.length_drop]
    have mA1 : Hid ((a.xs.take n).length ≤ 100000) := HA1.out.1
    have mB1 : Hid ((b.xs.take n).length ≤ 100000) := HB1.out.1
    have mA2 : Hid ((a.xs.drop n).length ≤ 100000) := HA2.out.1
    have mB2 : Hid ((b.xs.drop n).length ≤ 100000) := HB2.out.1
    have qA1 := fun W => run_partTo A a.xs.length c n (by have := HcA.out; omega) W
    have qB1 := fun W => run_partTo B b.xs.length d n (by have := HcB.out; have := el.out; omega) W
    have qA2 := fun W => run_partFrom A a.xs.length c n hnl W
    have qB2 := fun W => run_partFrom B b.xs.length d n (by have := el.out; omega) W
    have hnl := hide hnl
    clear hR hF hG la4
    go_wp2_with fail; refine (two_go p a b _ _ _ _ HA HB HR _ (sa.below (by (repeat (first | with_reducible exact Below.refl _ _ | with_reducible assumption | (with_reducible refine bl_set ?_ (by simp; try omega) _) | (with_reducible refine bl_alloc ?_ _) | (with_reducible refine bl_dn ?_ _) | (with_reducible refine bl_drew ?_) | (with_reducible refine bl_then ?_ (by with_reducible assumption)))))) (sb.below (by (repeat (first | with_reducible exact Below.refl _ _ | with_reducible assumption | (with_reducible refine bl_set ?_ (by simp; try omega) _) | (with_reducible refine bl_alloc ?_ _) | (with_reducible refine bl_dn ?_ _) | (with_reducible refine bl_drew ?_) | (with_reducible refine bl_then ?_ (by with_reducible assumption))))))).mono ?_; rintro e w5 ⟨hgw5, Cw5, cw5, rfl, hsw5, hgew5, hcpw5⟩
    have st5 := hide (st4.out.below hgw5)
    clear hbw hgw5 st4; clear a0 a1 a2 a3 a4 sa za; clear b0 b1 b2 b3 b4 sb zb
    go_upto_region 6 with fail
    have st6 := hide (st5.out.box cw5 hsw5 25)
    change Code.wp _ _ _ _ (w5.alloc (.cells #[.int .i64 R.k, .int .i64 R.r, .int .i64 R.l0, .int .i64 R.l1, .slice Cw5 R.xs.length cw5] 25))
    generalize (w5.alloc (.cells #[.int .i64 R.k, .int .i64 R.r, .int .i64 R.l0, .int .i64 R.l1, .slice Cw5 R.xs.length cw5] 25)) = w6 at *
    generalize w5.heap.size = P9 at *
    clear st5
    obtain ⟨hbw, ⟨⟨r0, r1, r2, r3, r4⟩, sr, zr⟩, ⟨⟨b0, b1, b2, b3, b4⟩, sb, zb⟩, ⟨⟨a0, a1, a2, a3, a4⟩, sa, za⟩, _⟩ := st6.out
    have pA1 : Hid (Sl w6 (part A 0 c) (a.xs.take n)) := by have := sa.part (l := 0) (n := n) (m := c) (by have := hnl.out; omega) HcA.out; rw [List.drop_zero] at this; exact this
    have pB1 : Hid (Sl w6 (part B 0 d) (b.xs.take n)) := by have := sb.part (l := 0) (n := n) (m := d) (by have := hnl.out; have := el.out; omega) HcB.out; rw [List.drop_zero] at this; exact this
    have t0 : True := trivial
    go_cut [11, 12] from 17 (fun s11 s12 wx => VarC w6 ef F s11 s12 wx)
    case first =>
      clear T HR HG HA HB ra rb el HA2 HB2 lA2 lB2 mA2 mB2 qA2 qB2 hgew5 HcA HcB HT ca cb f0 f1 g0 g1 hFa hFb ct0
      go_region_held3 (fun w' => Below w6.heap.size w6 w' ∧ ∀ b o, b < w6.heap.size → w'.cell? ⟨b, o, none⟩ = w6.cell? ⟨b, o, none⟩) (first | assumption | (refine same_of ?_; (repeat (first | with_reducible exact Below.refl _ _ | with_reducible assumption | (with_reducible refine bl_set ?_ (by simp; try omega) _) | (with_reducible refine bl_alloc ?_ _) | (with_reducible refine bl_dn ?_ _) | (with_reducible refine bl_drew ?_) | (with_reducible refine bl_then ?_ (by with_reducible assumption)))))) (first
        | (go_at_call 36; (have _t := t0); (obtain ⟨hbb, _⟩ := (by assumption : Below w6.heap.size w6 _ ∧ _)); refine (vector_go a.k (part A 0 c) c lA1 mA1 _ (pA1.out.below hbb)).mono ?_; rintro e wv1 ⟨hgv1, V1, cv1, rfl, hsl1, hge, hcp1⟩; have hbi1 := bl_then hbb hgv1; have zbi1 := hbi1.size; have hS := same_of hbi1; (obtain ⟨hci1, hfi1, hzi1⟩ := bcell hgv1); (try have zlw1 : w6.heap.size < wv1.heap.size := (by have := hzi1; (try simp at this); omega)); (try have zlv1 : wv1.heap.size < wv1.heap.size := (by have := hzi1; (try simp at this); omega)); have hsl1 := hide hsl1; clear hbb hge hbi1 _t t0; have t1 : True := trivial)
        | (go_at_call 36; (have _t := t1); (obtain ⟨hbb, _⟩ := (by assumption : Below w6.heap.size w6 _ ∧ _)); refine (vector_go b.k (part B 0 d) d lB1 mB1 _ (pB1.out.below hbb)).mono ?_; rintro e wv2 ⟨hgv2, V2, cv2, rfl, hsl2, hge, hcp2⟩; have hbi2 := bl_then hbb hgv2; have zbi2 := hbi2.size; have hS := same_of hbi2; (obtain ⟨hci2, hfi2, hzi2⟩ := bcell hgv2); (try have zlw2 : w6.heap.size < wv2.heap.size := (by have := hzi2; (try simp at this); omega)); (try have zlv2 : wv1.heap.size < wv2.heap.size := (by have := hzi2; (try simp at this); omega)); have hsl2 := hide hsl2; clear hbb hge hbi2 _t t1; have t2 : True := trivial)
        | (go_at_call 24; (obtain ⟨hbb', _⟩ := (by assumption : Below w6.heap.size w6 _ ∧ _)); have hbb := hide hbb'; clear hbb'; refine (two_go p (vec' a.k (a.xs.take n)) (vec' b.k (b.xs.take n)) _ _ _ _ HA1 HB1 HF _ (hsl1.out.below (by (repeat (first | with_reducible exact Below.refl _ _ | with_reducible assumption | (with_reducible refine bl_set ?_ (by simp; try omega) _) | (with_reducible refine bl_alloc ?_ _) | (with_reducible refine bl_dn ?_ _) | (with_reducible refine bl_drew ?_) | (with_reducible refine bl_then ?_ (by with_reducible assumption)))))) (hsl2.out.below (by (repeat (first | with_reducible exact Below.refl _ _ | with_reducible assumption | (with_reducible refine bl_set ?_ (by simp; try omega) _) | (with_reducible refine bl_alloc ?_ _) | (with_reducible refine bl_dn ?_ _) | (with_reducible refine bl_drew ?_) | (with_reducible refine bl_then ?_ (by with_reducible assumption))))))).mono ?_; rintro e wt ⟨hg, V3, cv3, rfl, hsl3, hge3, hcp3⟩; have hbt := bl_then hbb.out hg; have zbt := hbt.size; have hS := same_of hbt; (obtain ⟨hct, hft, hzt⟩ := bcell hg); (try have zlt : w6.heap.size < wt.heap.size := (by have := hzt; (try simp at this); omega)); (try have zlt1 : wv1.heap.size < wt.heap.size := (by have := hzt; (try simp at this); omega)); (try have zlt2 : wv2.heap.size < wt.heap.size := (by have := hzt; (try simp at this); omega)); have hsl3 := hide hsl3; clear hbb hbt))
      all_goals
        (clear hS; go_wp2_with fail)
        go_meet
        first
          | (with_reducible refine VarC.of_new hsl3.out hcp3 ?_
             · (repeat (first | with_reducible exact Below.refl _ _ | with_reducible assumption | (with_reducible refine bl_set ?_ (by simp; try omega) _) | (with_reducible refine bl_alloc ?_ _) | (with_reducible refine bl_dn ?_ _) | (with_reducible refine bl_drew ?_) | (with_reducible refine bl_then ?_ (by with_reducible assumption)))))
          | (with_reducible refine VarC.of_put (u0 := .int .i64 0) (u1 := .int .i64 0) (u2 := .int .i64 0) (u3 := .int .i64 0) (u4 := .slice none 0 0) ?_ hsl3.out ?_ ?_ ?_ hcp3
             · first
                 | (refine (arr5_new wv2 0 0 0 0 none 0 0 25).below ?_; (repeat (first | with_reducible exact Below.refl _ _ | with_reducible assumption | (with_reducible refine bl_set ?_ (by simp; try omega) _) | (with_reducible refine bl_alloc ?_ _) | (with_reducible refine bl_dn ?_ _) | (with_reducible refine bl_drew ?_) | (with_reducible refine bl_then ?_ (by with_reducible assumption)))); done)
                 | (refine (arr5_new wv1 0 0 0 0 none 0 0 25).below ?_; (repeat (first | with_reducible exact Below.refl _ _ | with_reducible assumption | (with_reducible refine bl_set ?_ (by simp; try omega) _) | (with_reducible refine bl_alloc ?_ _) | (with_reducible refine bl_dn ?_ _) | (with_reducible refine bl_drew ?_) | (with_reducible refine bl_then ?_ (by with_reducible assumption)))); done)
                 | (refine (arr5_new w6 0 0 0 0 none 0 0 25).below ?_; (repeat (first | with_reducible exact Below.refl _ _ | with_reducible assumption | (with_reducible refine bl_set ?_ (by simp; try omega) _) | (with_reducible refine bl_alloc ?_ _) | (with_reducible refine bl_dn ?_ _) | (with_reducible refine bl_drew ?_) | (with_reducible refine bl_then ?_ (by with_reducible assumption)))); done)
             · intro b o e; have hh := hge3 b o e; (try simp at hh); omega
             · omega
             · (repeat (first | with_reducible exact Below.refl _ _ | with_reducible assumption | (with_reducible refine bl_set ?_ (by simp; try omega) _) | (with_reducible refine bl_alloc ?_ _) | (with_reducible refine bl_dn ?_ _) | (with_reducible refine bl_drew ?_) | (with_reducible refine bl_then ?_ (by with_reducible assumption)))))
    case rest =>
      obtain ⟨P11, CF, nF, rfl, rfl, bF, hcF, hg⟩ := hcut
      obtain ⟨w7, rfl⟩ : ∃ w7 : World, w7 = wc := ⟨_, rfl⟩
      have st7 : Hid (St w0 w7 [(P11, F, CF, nF), (P9, R, Cw5, cw5), (w.heap.size + 1 + 1, b, B, d), (w.heap.size, a, A, c)]) := ⟨(st6.out.below hg).1, bF, (st6.out.below hg).2⟩
      have hcF := hide hcF
      clear t0 hg bF hbw st6 pA1 pB1 lA1 lB1 mA1 mB1 qA1 qB1 HA1 HB1 f0 f1 g0 g1 hgew5 hcpw5 hsw5; clear a0 a1 a2 a3 a4 sa za; clear b0 b1 b2 b3 b4 sb zb; clear r0 r1 r2 r3 r4 sr zr
      obtain ⟨hbw, _, _, ⟨⟨b0, b1, b2, b3, b4⟩, sb, zb⟩, ⟨⟨a0, a1, a2, a3, a4⟩, sa, za⟩, _⟩ := st7.out
      have pA2 : Hid (Sl w7 (part A n c) (a.xs.drop n)) := by have := sa.part (l := n) (n := a.xs.length - n) (m := c) (by have := hnl.out; omega) HcA.out; rw [← List.length_drop, List.take_length] at this; exact this
      have pB2 : Hid (Sl w7 (part B n d) (b.xs.drop n)) := by have := sb.part (l := n) (n := b.xs.length - n) (m := d) (by have := hnl.out; have := el.out; omega) HcB.out; rw [← List.length_drop, List.take_length] at this; exact this
      have t0 : True := trivial
      go_upto_region 7 with fail
      go_cut [13, 14] from 17 (fun s13 s14 wx => VarC w7 eg G s13 s14 wx)
      case first =>
        clear T HR HF HA HB ra rb el HcA HcB HT ca cb hFa hFb ct0
        go_region_held3 (fun w' => Below w7.heap.size w7 w' ∧ ∀ b o, b < w7.heap.size → w'.cell? ⟨b, o, none⟩ = w7.cell? ⟨b, o, none⟩) (first | assumption | (refine same_of ?_; (repeat (first | with_reducible exact Below.refl _ _ | with_reducible assumption | (with_reducible refine bl_set ?_ (by simp; try omega) _) | (with_reducible refine bl_alloc ?_ _) | (with_reducible refine bl_dn ?_ _) | (with_reducible refine bl_drew ?_) | (with_reducible refine bl_then ?_ (by with_reducible assumption)))))) (first
          | (go_at_call 36; (have _t := t0); (obtain ⟨hbb, _⟩ := (by assumption : Below w7.heap.size w7 _ ∧ _)); refine (vector_go a.k (part A n c) (c - n) lA2 mA2 _ (pA2.out.below hbb)).mono ?_; rintro e wv1 ⟨hgv1, V1, cv1, rfl, hsl1, hge, hcp1⟩; have hbi1 := bl_then hbb hgv1; have zbi1 := hbi1.size; have hS := same_of hbi1; (obtain ⟨hci1, hfi1, hzi1⟩ := bcell hgv1); (try have zlw1 : w7.heap.size < wv1.heap.size := (by have := hzi1; (try simp at this); omega)); (try have zlv1 : wv1.heap.size < wv1.heap.size := (by have := hzi1; (try simp at this); omega)); have hsl1 := hide hsl1; clear hbb hge hbi1 _t t0; have t1 : True := trivial)
          | (go_at_call 36; (have _t := t1); (obtain ⟨hbb, _⟩ := (by assumption : Below w7.heap.size w7 _ ∧ _)); refine (vector_go b.k (part B n d) (d - n) lB2 mB2 _ (pB2.out.below hbb)).mono ?_; rintro e wv2 ⟨hgv2, V2, cv2, rfl, hsl2, hge, hcp2⟩; have hbi2 := bl_then hbb hgv2; have zbi2 := hbi2.size; have hS := same_of hbi2; (obtain ⟨hci2, hfi2, hzi2⟩ := bcell hgv2); (try have zlw2 : w7.heap.size < wv2.heap.size := (by have := hzi2; (try simp at this); omega)); (try have zlv2 : wv1.heap.size < wv2.heap.size := (by have := hzi2; (try simp at this); omega)); have hsl2 := hide hsl2; clear hbb hge hbi2 _t t1; have t2 : True := trivial)
          | (go_at_call 24; (obtain ⟨hbb', _⟩ := (by assumption : Below w7.heap.size w7 _ ∧ _)); have hbb := hide hbb'; clear hbb'; refine (two_go p (vec' a.k (a.xs.drop n)) (vec' b.k (b.xs.drop n)) _ _ _ _ HA2 HB2 HG _ (hsl1.out.below (by (repeat (first | with_reducible exact Below.refl _ _ | with_reducible assumption | (with_reducible refine bl_set ?_ (by simp; try omega) _) | (with_reducible refine bl_alloc ?_ _) | (with_reducible refine bl_dn ?_ _) | (with_reducible refine bl_drew ?_) | (with_reducible refine bl_then ?_ (by with_reducible assumption)))))) (hsl2.out.below (by (repeat (first | with_reducible exact Below.refl _ _ | with_reducible assumption | (with_reducible refine bl_set ?_ (by simp; try omega) _) | (with_reducible refine bl_alloc ?_ _) | (with_reducible refine bl_dn ?_ _) | (with_reducible refine bl_drew ?_) | (with_reducible refine bl_then ?_ (by with_reducible assumption))))))).mono ?_; rintro e wt ⟨hg, V3, cv3, rfl, hsl3, hge3, hcp3⟩; have hbt := bl_then hbb.out hg; have zbt := hbt.size; have hS := same_of hbt; (obtain ⟨hct, hft, hzt⟩ := bcell hg); (try have zlt : w7.heap.size < wt.heap.size := (by have := hzt; (try simp at this); omega)); (try have zlt1 : wv1.heap.size < wt.heap.size := (by have := hzt; (try simp at this); omega)); (try have zlt2 : wv2.heap.size < wt.heap.size := (by have := hzt; (try simp at this); omega)); have hsl3 := hide hsl3; clear hbb hbt))
        all_goals
          (clear hS; go_wp2_with fail)
          go_meet
          first
            | (with_reducible refine VarC.of_new hsl3.out hcp3 ?_
               · (repeat (first | with_reducible exact Below.refl _ _ | with_reducible assumption | (with_reducible refine bl_set ?_ (by simp; try omega) _) | (with_reducible refine bl_alloc ?_ _) | (with_reducible refine bl_dn ?_ _) | (with_reducible refine bl_drew ?_) | (with_reducible refine bl_then ?_ (by with_reducible assumption)))))
            | (with_reducible refine VarC.of_put (u0 := .int .i64 0) (u1 := .int .i64 0) (u2 := .int .i64 0) (u3 := .int .i64 0) (u4 := .slice none 0 0) ?_ hsl3.out ?_ ?_ ?_ hcp3
               · first
                   | (refine (arr5_new wv2 0 0 0 0 none 0 0 25).below ?_; (repeat (first | with_reducible exact Below.refl _ _ | with_reducible assumption | (with_reducible refine bl_set ?_ (by simp; try omega) _) | (with_reducible refine bl_alloc ?_ _) | (with_reducible refine bl_dn ?_ _) | (with_reducible refine bl_drew ?_) | (with_reducible refine bl_then ?_ (by with_reducible assumption)))); done)
                   | (refine (arr5_new wv1 0 0 0 0 none 0 0 25).below ?_; (repeat (first | with_reducible exact Below.refl _ _ | with_reducible assumption | (with_reducible refine bl_set ?_ (by simp; try omega) _) | (with_reducible refine bl_alloc ?_ _) | (with_reducible refine bl_dn ?_ _) | (with_reducible refine bl_drew ?_) | (with_reducible refine bl_then ?_ (by with_reducible assumption)))); done)
                   | (refine (arr5_new w7 0 0 0 0 none 0 0 25).below ?_; (repeat (first | with_reducible exact Below.refl _ _ | with_reducible assumption | (with_reducible refine bl_set ?_ (by simp; try omega) _) | (with_reducible refine bl_alloc ?_ _) | (with_reducible refine bl_dn ?_ _) | (with_reducible refine bl_drew ?_) | (with_reducible refine bl_then ?_ (by with_reducible assumption)))); done)
               · intro b o e; have hh := hge3 b o e; (try simp at hh); omega
               · omega
               · (repeat (first | with_reducible exact Below.refl _ _ | with_reducible assumption | (with_reducible refine bl_set ?_ (by simp; try omega) _) | (with_reducible refine bl_alloc ?_ _) | (with_reducible refine bl_dn ?_ _) | (with_reducible refine bl_drew ?_) | (with_reducible refine bl_then ?_ (by with_reducible assumption)))))
      case rest =>
        obtain ⟨P13, CG, nG, rfl, rfl, bG, hcG, hg⟩ := hcut
        obtain ⟨w8, rfl⟩ : ∃ w8 : World, w8 = wc := ⟨_, rfl⟩
        have st8 : Hid (St w0 w8 [(P13, G, CG, nG), (P11, F, CF, nF), (P9, R, Cw5, cw5), (w.heap.size + 1 + 1, b, B, d), (w.heap.size, a, A, c)]) := ⟨(st7.out.below hg).1, bG, (st7.out.below hg).2⟩
        have hcG := hide hcG
        have LR : R.xs.length ≤ 9223372036854775807 := by have hh := extTwo_len p a b; rw [HR.out] at hh; have := HA.out.1; have := HB.out.1; exact Nat.le_trans hh (by omega)
        clear hg bG hbw st7 pA2 pB2 lA2 lB2 mA2 mB2 qA2 qB2 HA2 HB2; clear a0 a1 a2 a3 a4 sa za; clear b0 b1 b2 b3 b4 sb zb
        obtain ⟨hbw, ⟨⟨y0, y1, y2, y3, y4⟩, sy, zy⟩, ⟨⟨x0, x1, x2, x3, x4⟩, sx, zx⟩, ⟨⟨r0, r1, r2, r3, r4⟩, sr, zr⟩, _⟩ := st8.out
        by_cases hef : ef = 0
        · subst hef
          by_cases heg : eg = 0
          · subst heg
            obtain ⟨q1, q2⟩ := T.out.2.2 rfl rfl
            subst q1
            have HE : Hid (extCat F G = (0, R)) := q2
            clear q2
            have cF : Hid (chk F = 0) := by
              have := two_chk (p := p) (chk_part (xs := a.xs.take n) ca.out (by rw [List.length_take]; omega) (fun x h => List.mem_of_mem_take h)) (chk_part (xs := b.xs.take n) cb.out (by rw [List.length_take]; omega) (fun x h => List.mem_of_mem_take h)) (by rw [HF.out])
              rw [HF.out] at this; exact this
            have cG : Hid (chk G = 0) := by
              have := two_chk (p := p) (chk_part (xs := a.xs.drop n) ca.out (by rw [List.length_drop]; omega) (fun x h => List.mem_of_mem_drop h)) (chk_part (xs := b.xs.drop n) cb.out (by rw [List.length_drop]; omega) (fun x h => List.mem_of_mem_drop h)) (by rw [HG.out])
              rw [HG.out] at this; exact this
            go_wp2_with fail
            refine (cat_go F G CF CG cF cG hcF hcG HE _ (sx.below (by (repeat (first | with_reducible exact Below.refl _ _ | with_reducible assumption | (with_reducible refine bl_set ?_ (by simp; try omega) _) | (with_reducible refine bl_alloc ?_ _) | (with_reducible refine bl_dn ?_ _) | (with_reducible refine bl_drew ?_) | (with_reducible refine bl_then ?_ (by with_reducible assumption)))))) (sy.below (by (repeat (first | with_reducible exact Below.refl _ _ | with_reducible assumption | (with_reducible refine bl_set ?_ (by simp; try omega) _) | (with_reducible refine bl_alloc ?_ _) | (with_reducible refine bl_dn ?_ _) | (with_reducible refine bl_drew ?_) | (with_reducible refine bl_then ?_ (by with_reducible assumption))))))).mono ?_
            rintro e w9 ⟨hg9, C, cn, rfl, hsC, hgeC, hcpC⟩
            have st9 := hide (st8.out.below hg9)
            clear hbw; clear x0 x1 x2 x3 x4 sx zx; clear y0 y1 y2 y3 y4 sy zy; clear r0 r1 r2 r3 r4 sr zr
            obtain ⟨hbw, _, _, ⟨⟨r0, r1, r2, r3, r4⟩, sr, zr⟩, _⟩ := st9.out
            go_wp2_with fail
            refine (is10_yes R R _ _ _ _ (same_refl R) LR LR _ (sr.below (by (repeat (first | with_reducible exact Below.refl _ _ | with_reducible assumption | (with_reducible refine bl_set ?_ (by simp; try omega) _) | (with_reducible refine bl_alloc ?_ _) | (with_reducible refine bl_dn ?_ _) | (with_reducible refine bl_drew ?_) | (with_reducible refine bl_then ?_ (by with_reducible assumption)))))) (Sl.below hsC (by (repeat (first | with_reducible exact Below.refl _ _ | with_reducible assumption | (with_reducible refine bl_set ?_ (by simp; try omega) _) | (with_reducible refine bl_alloc ?_ _) | (with_reducible refine bl_dn ?_ _) | (with_reducible refine bl_drew ?_) | (with_reducible refine bl_then ?_ (by with_reducible assumption))))))).mono ?_
            rintro e w10 ⟨rfl, hg10⟩
            (go_wp2_with fail; refine (awake10 _).mono ?_; rintro e w99 ⟨rfl, hg99⟩; go_wp2; go_ret; exact ⟨rfl, by (repeat (first | with_reducible exact Below.refl _ _ | with_reducible assumption | (with_reducible refine bl_set ?_ (by simp; try omega) _) | (with_reducible refine bl_alloc ?_ _) | (with_reducible refine bl_dn ?_ _) | (with_reducible refine bl_drew ?_) | (with_reducible refine bl_then ?_ (by with_reducible assumption))))⟩)
          · have q := T.out.2.1 rfl heg
            subst q
            have n1 : (er != 0) = true := by simpa using heg
            clear heg
            (go_wp2_with fail; refine (awake10 _).mono ?_; rintro e w99 ⟨rfl, hg99⟩; go_wp2; go_ret; exact ⟨rfl, by (repeat (first | with_reducible exact Below.refl _ _ | with_reducible assumption | (with_reducible refine bl_set ?_ (by simp; try omega) _) | (with_reducible refine bl_alloc ?_ _) | (with_reducible refine bl_dn ?_ _) | (with_reducible refine bl_drew ?_) | (with_reducible refine bl_then ?_ (by with_reducible assumption))))⟩)
        · have q := T.out.1 hef
          subst q
          have n1 : (er != 0) = true := by simpa using hef
          clear hef
          (go_wp2_with fail; refine (awake10 _).mono ?_; rintro e w99 ⟨rfl, hg99⟩; go_wp2; go_ret; exact ⟨rfl, by (repeat (first | with_reducible exact Below.refl _ _ | with_reducible assumption | (with_reducible refine bl_set ?_ (by simp; try omega) _) | (with_reducible refine bl_alloc ?_ _) | (with_reducible refine bl_dn ?_ _) | (with_reducible refine bl_drew ?_) | (with_reducible refine bl_then ?_ (by with_reducible assumption))))⟩)
end Ar
end Go.Proofs.Ytfpnafeildigaaa
