/-
invigilatorref10.Two where its operands do not fit (chapter 10).
-/
import Derived.Test.YtfpnafeildigaaaArRk
import Derived.OwnWalk
import Derived.Deep.DeepCutAuto
set_option linter.unusedSimpArgs false
set_option linter.unusedVariables false
namespace Go.Proofs.Ytfpnafeildigaaa
namespace Ar
open Go.RowKit Sc
/-- the boxes of the reference's Two -/
def RSt (w wx : World) (a b : Arr) (A B : Option Addr) (c d : Nat) : Prop :=
  Arr5 wx w.heap.size (.int .i64 a.k) (.int .i64 a.r) (.int .i64 a.l0) (.int .i64 a.l1) (.slice A a.xs.length c) ∧
  Arr5 wx (w.heap.size + 1) (.int .i64 b.k) (.int .i64 b.r) (.int .i64 b.l0) (.int .i64 b.l1) (.slice B b.xs.length d) ∧
  Arr5 wx (w.heap.size + 1 + 1) (.int .i64 0) (.int .i64 0) (.int .i64 0) (.int .i64 0) (.slice none 0 0) ∧
  (∀ i, wx.frozen? ⟨w.heap.size + 1 + 1, i, none⟩ = false) ∧ w.heap.size + 1 + 1 < wx.heap.size ∧ Below w.heap.size w wx
theorem RSt.below {w wx wy : World} {a b : Arr} {A B : Option Addr} {c d : Nat} (h : RSt w wx a b A B c d) (hb : Below wx.heap.size wx wy) : RSt w wy a b A B c d := by
  obtain ⟨h2, h3, h4, h6, h8, h9⟩ := h
  exact ⟨h2.below hb, h3.below hb, h4.below hb, fun i => (hb.frozen (p := ⟨_, i, none⟩) h8).trans (h6 i), Nat.lt_of_lt_of_le h8 hb.size, bl_then h9 hb⟩
set_option maxRecDepth 100000 in
set_option maxHeartbeats 1000000 in
theorem rtwo_arity (p : Int) (a b : Arr) (A B : Option Addr) (c d : Nat) (hLa : a.xs.length ≤ 100000) (f0a : Fits a.l0) (f1a : Fits a.l1) (hLb : b.xs.length ≤ 100000) (f0b : Fits b.l0) (f1b : Fits b.l1) (hxa : ∀ x ∈ a.xs, Fits x) (hxb : ∀ x ∈ b.xs, Fits x) (h : arity p ≠ (2, 0)) (w : World) (hsa : Sl w A a.xs) (hsb : Sl w B b.xs) : Calls Try.prog 25 #[.int .i64 p, .agg #[.int .i64 a.k, .int .i64 a.r, .int .i64 a.l0, .int .i64 a.l1, .slice A a.xs.length c], .agg #[.int .i64 b.k, .int .i64 b.r, .int .i64 b.l0, .int .i64 b.l1, .slice B b.xs.length d]] w fun e w' => ArrRet w (2, .zero) e w' := by
  obtain h1 | h1 : arity p = (1, 0) ∨ arity p = (0, 2) := by
    unfold arity at h ⊢
    by_cases a : 1 ≤ p ∧ p ≤ 3
    · left; rw [if_pos a]
    · by_cases b : 15 ≤ p ∧ p ≤ 32
      · rw [if_neg a, if_pos b] at h; exact absurd rfl h
      · right; rw [if_neg a, if_neg b]
  · have H := hide h1
    clear h h1
    have hla : a.xs.length ≤ 9223372036854775807 := by omega
    have hlb : b.xs.length ≤ 9223372036854775807 := by omega
    have HLA := hide hLa; have HLB := hide hLb; have HXA := hide hxa; have HXB := hide hxb
    clear hLa hLb hxa hxb
    go_enter Try.func25, Try.ntmps25
    go_wp2_with fail
    refine (Sc.Ref.arity_any p _).mono ?_
    rw [H.out]
    rintro e w1 ⟨rfl, hg⟩
    have st1 : Hid (RSt w w1 a b A B c d) := RSt.below (w := w) (a := a) (b := b) (A := A) (B := B) (c := c) (d := d) ⟨⟨by simp [go_sem], by simp [go_sem], by simp [go_sem], by simp [go_sem], by simp [go_sem]⟩, ⟨by simp [go_sem], by simp [go_sem], by simp [go_sem], by simp [go_sem], by simp [go_sem]⟩, ⟨by simp [go_sem], by simp [go_sem], by simp [go_sem], by simp [go_sem], by simp [go_sem]⟩, fun i => by simp [go_sem], by simp, by (repeat (first | with_reducible exact Below.refl _ _ | with_reducible assumption | (with_reducible refine bl_set ?_ (by simp; try omega) _) | (with_reducible refine bl_alloc ?_ _) | (with_reducible refine bl_dn ?_ _) | (with_reducible refine bl_drew ?_) | (with_reducible refine bl_then ?_ (by with_reducible assumption))))⟩ hg
    clear hg
    obtain ⟨⟨a0_w1, a1_w1, a2_w1, a3_w1, a4_w1⟩, ⟨b0_w1, b1_w1, b2_w1, b3_w1, b4_w1⟩, ⟨c0_w1, c1_w1, c2_w1, c3_w1, c4_w1⟩, fc_w1, y2_w1, hb_w1⟩ := st1.out; (have y0_w1 : w.heap.size < w1.heap.size := by omega); (have y1_w1 : w.heap.size + 1 < w1.heap.size := by omega)
    go_wp2
    refine bodyPost_ret (v := .tuple #[.agg #[.int .i64 0, .int .i64 0, .int .i64 0, .int .i64 0, .slice none 0 0], .int .i64 2]) (by simp [results, Try.results25, go_sem, *]) rfl (arr_zero _ (by (repeat (first | with_reducible exact Below.refl _ _ | with_reducible assumption | (with_reducible refine bl_set ?_ (by simp; try omega) _) | (with_reducible refine bl_alloc ?_ _) | (with_reducible refine bl_dn ?_ _) | (with_reducible refine bl_drew ?_) | (with_reducible refine bl_then ?_ (by with_reducible assumption))))))
  · have H := hide h1
    clear h h1
    have hla : a.xs.length ≤ 9223372036854775807 := by omega
    have hlb : b.xs.length ≤ 9223372036854775807 := by omega
    have HLA := hide hLa; have HLB := hide hLb; have HXA := hide hxa; have HXB := hide hxb
    clear hLa hLb hxa hxb
    go_enter Try.func25, Try.ntmps25
    go_wp2_with fail
    refine (Sc.Ref.arity_any p _).mono ?_
    rw [H.out]
    rintro e w1 ⟨rfl, hg⟩
    have st1 : Hid (RSt w w1 a b A B c d) := RSt.below (w := w) (a := a) (b := b) (A := A) (B := B) (c := c) (d := d) ⟨⟨by simp [go_sem], by simp [go_sem], by simp [go_sem], by simp [go_sem], by simp [go_sem]⟩, ⟨by simp [go_sem], by simp [go_sem], by simp [go_sem], by simp [go_sem], by simp [go_sem]⟩, ⟨by simp [go_sem], by simp [go_sem], by simp [go_sem], by simp [go_sem], by simp [go_sem]⟩, fun i => by simp [go_sem], by simp, by (repeat (first | with_reducible exact Below.refl _ _ | with_reducible assumption | (with_reducible refine bl_set ?_ (by simp; try omega) _) | (with_reducible refine bl_alloc ?_ _) | (with_reducible refine bl_dn ?_ _) | (with_reducible refine bl_drew ?_) | (with_reducible refine bl_then ?_ (by with_reducible assumption))))⟩ hg
    clear hg
    obtain ⟨⟨a0_w1, a1_w1, a2_w1, a3_w1, a4_w1⟩, ⟨b0_w1, b1_w1, b2_w1, b3_w1, b4_w1⟩, ⟨c0_w1, c1_w1, c2_w1, c3_w1, c4_w1⟩, fc_w1, y2_w1, hb_w1⟩ := st1.out; (have y0_w1 : w.heap.size < w1.heap.size := by omega); (have y1_w1 : w.heap.size + 1 < w1.heap.size := by omega)
    go_wp2
    refine bodyPost_ret (v := .tuple #[.agg #[.int .i64 0, .int .i64 0, .int .i64 0, .int .i64 0, .slice none 0 0], .int .i64 2]) (by simp [results, Try.results25, go_sem, *]) rfl (arr_zero _ (by (repeat (first | with_reducible exact Below.refl _ _ | with_reducible assumption | (with_reducible refine bl_set ?_ (by simp; try omega) _) | (with_reducible refine bl_alloc ?_ _) | (with_reducible refine bl_dn ?_ _) | (with_reducible refine bl_drew ?_) | (with_reducible refine bl_then ?_ (by with_reducible assumption))))))
set_option maxRecDepth 100000 in
set_option maxHeartbeats 1000000 in
theorem rtwo_a (p : Int) (a b : Arr) (A B : Option Addr) (c d : Nat) (hLa : a.xs.length ≤ 100000) (f0a : Fits a.l0) (f1a : Fits a.l1) (hLb : b.xs.length ≤ 100000) (f0b : Fits b.l0) (f1b : Fits b.l1) (hxa : ∀ x ∈ a.xs, Fits x) (hxb : ∀ x ∈ b.xs, Fits x) (h : arity p = (2, 0)) (h2 : chk a ≠ 0) (w : World) (hsa : Sl w A a.xs) (hsb : Sl w B b.xs) : Calls Try.prog 25 #[.int .i64 p, .agg #[.int .i64 a.k, .int .i64 a.r, .int .i64 a.l0, .int .i64 a.l1, .slice A a.xs.length c], .agg #[.int .i64 b.k, .int .i64 b.r, .int .i64 b.l0, .int .i64 b.l1, .slice B b.xs.length d]] w fun e w' => ArrRet w (chk a, .zero) e w' := by
  have H := hide h
  have n1 : (chk a == 0) = false := by simpa using h2
  have n2 : (chk a != 0) = true := by simpa using h2
  clear h h2
  have hla : a.xs.length ≤ 9223372036854775807 := by omega
  have hlb : b.xs.length ≤ 9223372036854775807 := by omega
  have HLA := hide hLa; have HLB := hide hLb; have HXA := hide hxa; have HXB := hide hxb
  clear hLa hLb hxa hxb
  go_enter Try.func25, Try.ntmps25
  go_wp2_with fail
  refine (Sc.Ref.arity_any p _).mono ?_
  rw [H.out]
  rintro e w1 ⟨rfl, hg⟩
  have st1 : Hid (RSt w w1 a b A B c d) := RSt.below (w := w) (a := a) (b := b) (A := A) (B := B) (c := c) (d := d) ⟨⟨by simp [go_sem], by simp [go_sem], by simp [go_sem], by simp [go_sem], by simp [go_sem]⟩, ⟨by simp [go_sem], by simp [go_sem], by simp [go_sem], by simp [go_sem], by simp [go_sem]⟩, ⟨by simp [go_sem], by simp [go_sem], by simp [go_sem], by simp [go_sem], by simp [go_sem]⟩, fun i => by simp [go_sem], by simp, by (repeat (first | with_reducible exact Below.refl _ _ | with_reducible assumption | (with_reducible refine bl_set ?_ (by simp; try omega) _) | (with_reducible refine bl_alloc ?_ _) | (with_reducible refine bl_dn ?_ _) | (with_reducible refine bl_drew ?_) | (with_reducible refine bl_then ?_ (by with_reducible assumption))))⟩ hg
  clear hg
  obtain ⟨⟨a0_w1, a1_w1, a2_w1, a3_w1, a4_w1⟩, ⟨b0_w1, b1_w1, b2_w1, b3_w1, b4_w1⟩, ⟨c0_w1, c1_w1, c2_w1, c3_w1, c4_w1⟩, fc_w1, y2_w1, hb_w1⟩ := st1.out; (have y0_w1 : w.heap.size < w1.heap.size := by omega); (have y1_w1 : w.heap.size + 1 < w1.heap.size := by omega)
  go_wp2_with fail
  refine (Ref.ac_any a A c hla f0a f1a _ (hsa.below (by (repeat (first | with_reducible exact Below.refl _ _ | with_reducible assumption | (with_reducible refine bl_set ?_ (by simp; try omega) _) | (with_reducible refine bl_alloc ?_ _) | (with_reducible refine bl_dn ?_ _) | (with_reducible refine bl_drew ?_) | (with_reducible refine bl_then ?_ (by with_reducible assumption))))))).mono ?_
  skip
  rintro e w2 ⟨rfl, hg⟩
  have st2 := hide (st1.out.below hg)
  clear a0_w1 a1_w1 a2_w1 a3_w1 a4_w1 b0_w1 b1_w1 b2_w1 b3_w1 b4_w1 c0_w1 c1_w1 c2_w1 c3_w1 c4_w1 fc_w1 y2_w1 hb_w1 y0_w1 y1_w1
  clear st1 hg
  obtain ⟨⟨a0_w2, a1_w2, a2_w2, a3_w2, a4_w2⟩, ⟨b0_w2, b1_w2, b2_w2, b3_w2, b4_w2⟩, ⟨c0_w2, c1_w2, c2_w2, c3_w2, c4_w2⟩, fc_w2, y2_w2, hb_w2⟩ := st2.out; (have y0_w2 : w.heap.size < w2.heap.size := by omega); (have y1_w2 : w.heap.size + 1 < w2.heap.size := by omega)
  go_wp2
  refine bodyPost_ret (v := .tuple #[.agg #[.int .i64 0, .int .i64 0, .int .i64 0, .int .i64 0, .slice none 0 0], .int .i64 (chk a)]) (by simp [results, Try.results25, go_sem, *]) rfl (arr_zero _ (by (repeat (first | with_reducible exact Below.refl _ _ | with_reducible assumption | (with_reducible refine bl_set ?_ (by simp; try omega) _) | (with_reducible refine bl_alloc ?_ _) | (with_reducible refine bl_dn ?_ _) | (with_reducible refine bl_drew ?_) | (with_reducible refine bl_then ?_ (by with_reducible assumption))))))
set_option maxRecDepth 100000 in
set_option maxHeartbeats 1000000 in
theorem rtwo_b (p : Int) (a b : Arr) (A B : Option Addr) (c d : Nat) (hLa : a.xs.length ≤ 100000) (f0a : Fits a.l0) (f1a : Fits a.l1) (hLb : b.xs.length ≤ 100000) (f0b : Fits b.l0) (f1b : Fits b.l1) (hxa : ∀ x ∈ a.xs, Fits x) (hxb : ∀ x ∈ b.xs, Fits x) (h : arity p = (2, 0)) (h2 : chk a = 0) (h3 : chk b ≠ 0) (w : World) (hsa : Sl w A a.xs) (hsb : Sl w B b.xs) : Calls Try.prog 25 #[.int .i64 p, .agg #[.int .i64 a.k, .int .i64 a.r, .int .i64 a.l0, .int .i64 a.l1, .slice A a.xs.length c], .agg #[.int .i64 b.k, .int .i64 b.r, .int .i64 b.l0, .int .i64 b.l1, .slice B b.xs.length d]] w fun e w' => ArrRet w (chk b, .zero) e w' := by
  have H := hide h; have H2 := hide h2
  have n1 : (chk b == 0) = false := by simpa using h3
  have n2 : (chk b != 0) = true := by simpa using h3
  clear h h2 h3
  have hla : a.xs.length ≤ 9223372036854775807 := by omega
  have hlb : b.xs.length ≤ 9223372036854775807 := by omega
  have HLA := hide hLa; have HLB := hide hLb; have HXA := hide hxa; have HXB := hide hxb
  clear hLa hLb hxa hxb
  go_enter Try.func25, Try.ntmps25
  go_wp2_with fail
  refine (Sc.Ref.arity_any p _).mono ?_
  rw [H.out]
  rintro e w1 ⟨rfl, hg⟩
  have st1 : Hid (RSt w w1 a b A B c d) := RSt.below (w := w) (a := a) (b := b) (A := A) (B := B) (c := c) (d := d) ⟨⟨by simp [go_sem], by simp [go_sem], by simp [go_sem], by simp [go_sem], by simp [go_sem]⟩, ⟨by simp [go_sem], by simp [go_sem], by simp [go_sem], by simp [go_sem], by simp [go_sem]⟩, ⟨by simp [go_sem], by simp [go_sem], by simp [go_sem], by simp [go_sem], by simp [go_sem]⟩, fun i => by simp [go_sem], by simp, by (repeat (first | with_reducible exact Below.refl _ _ | with_reducible assumption | (with_reducible refine bl_set ?_ (by simp; try omega) _) | (with_reducible refine bl_alloc ?_ _) | (with_reducible refine bl_dn ?_ _) | (with_reducible refine bl_drew ?_) | (with_reducible refine bl_then ?_ (by with_reducible assumption))))⟩ hg
  clear hg
  obtain ⟨⟨a0_w1, a1_w1, a2_w1, a3_w1, a4_w1⟩, ⟨b0_w1, b1_w1, b2_w1, b3_w1, b4_w1⟩, ⟨c0_w1, c1_w1, c2_w1, c3_w1, c4_w1⟩, fc_w1, y2_w1, hb_w1⟩ := st1.out; (have y0_w1 : w.heap.size < w1.heap.size := by omega); (have y1_w1 : w.heap.size + 1 < w1.heap.size := by omega)
  go_wp2_with fail
  refine (Ref.ac_any a A c hla f0a f1a _ (hsa.below (by (repeat (first | with_reducible exact Below.refl _ _ | with_reducible assumption | (with_reducible refine bl_set ?_ (by simp; try omega) _) | (with_reducible refine bl_alloc ?_ _) | (with_reducible refine bl_dn ?_ _) | (with_reducible refine bl_drew ?_) | (with_reducible refine bl_then ?_ (by with_reducible assumption))))))).mono ?_
  rw [H2.out]
  rintro e w2 ⟨rfl, hg⟩
  have st2 := hide (st1.out.below hg)
  clear a0_w1 a1_w1 a2_w1 a3_w1 a4_w1 b0_w1 b1_w1 b2_w1 b3_w1 b4_w1 c0_w1 c1_w1 c2_w1 c3_w1 c4_w1 fc_w1 y2_w1 hb_w1 y0_w1 y1_w1
  clear st1 hg
  obtain ⟨⟨a0_w2, a1_w2, a2_w2, a3_w2, a4_w2⟩, ⟨b0_w2, b1_w2, b2_w2, b3_w2, b4_w2⟩, ⟨c0_w2, c1_w2, c2_w2, c3_w2, c4_w2⟩, fc_w2, y2_w2, hb_w2⟩ := st2.out; (have y0_w2 : w.heap.size < w2.heap.size := by omega); (have y1_w2 : w.heap.size + 1 < w2.heap.size := by omega)
  go_wp2_with fail
  refine (Ref.ac_any b B d hlb f0b f1b _ (hsb.below (by (repeat (first | with_reducible exact Below.refl _ _ | with_reducible assumption | (with_reducible refine bl_set ?_ (by simp; try omega) _) | (with_reducible refine bl_alloc ?_ _) | (with_reducible refine bl_dn ?_ _) | (with_reducible refine bl_drew ?_) | (with_reducible refine bl_then ?_ (by with_reducible assumption))))))).mono ?_
  skip
  rintro e w3 ⟨rfl, hg⟩
  have st3 := hide (st2.out.below hg)
  clear a0_w2 a1_w2 a2_w2 a3_w2 a4_w2 b0_w2 b1_w2 b2_w2 b3_w2 b4_w2 c0_w2 c1_w2 c2_w2 c3_w2 c4_w2 fc_w2 y2_w2 hb_w2 y0_w2 y1_w2
  clear st2 hg
  obtain ⟨⟨a0_w3, a1_w3, a2_w3, a3_w3, a4_w3⟩, ⟨b0_w3, b1_w3, b2_w3, b3_w3, b4_w3⟩, ⟨c0_w3, c1_w3, c2_w3, c3_w3, c4_w3⟩, fc_w3, y2_w3, hb_w3⟩ := st3.out; (have y0_w3 : w.heap.size < w3.heap.size := by omega); (have y1_w3 : w.heap.size + 1 < w3.heap.size := by omega)
  go_wp2
  refine bodyPost_ret (v := .tuple #[.agg #[.int .i64 0, .int .i64 0, .int .i64 0, .int .i64 0, .slice none 0 0], .int .i64 (chk b)]) (by simp [results, Try.results25, go_sem, *]) rfl (arr_zero _ (by (repeat (first | with_reducible exact Below.refl _ _ | with_reducible assumption | (with_reducible refine bl_set ?_ (by simp; try omega) _) | (with_reducible refine bl_alloc ?_ _) | (with_reducible refine bl_dn ?_ _) | (with_reducible refine bl_drew ?_) | (with_reducible refine bl_then ?_ (by with_reducible assumption))))))
set_option maxRecDepth 100000 in
set_option maxHeartbeats 1000000 in
theorem rtwo_kind (p : Int) (a b : Arr) (A B : Option Addr) (c d : Nat) (hLa : a.xs.length ≤ 100000) (f0a : Fits a.l0) (f1a : Fits a.l1) (hLb : b.xs.length ≤ 100000) (f0b : Fits b.l0) (f1b : Fits b.l1) (hxa : ∀ x ∈ a.xs, Fits x) (hxb : ∀ x ∈ b.xs, Fits x) (h : arity p = (2, 0)) (h2 : chk a = 0) (h3 : chk b = 0) (h4 : kindsOk p a b = false) (w : World) (hsa : Sl w A a.xs) (hsb : Sl w B b.xs) : Calls Try.prog 25 #[.int .i64 p, .agg #[.int .i64 a.k, .int .i64 a.r, .int .i64 a.l0, .int .i64 a.l1, .slice A a.xs.length c], .agg #[.int .i64 b.k, .int .i64 b.r, .int .i64 b.l0, .int .i64 b.l1, .slice B b.xs.length d]] w fun e w' => ArrRet w (21, .zero) e w' := by
  have H := hide h; have H2 := hide h2; have H3 := hide h3; have H4 := hide h4
  clear h h2 h3 h4
  have hla : a.xs.length ≤ 9223372036854775807 := by omega
  have hlb : b.xs.length ≤ 9223372036854775807 := by omega
  have HLA := hide hLa; have HLB := hide hLb; have HXA := hide hxa; have HXB := hide hxb
  clear hLa hLb hxa hxb
  go_enter Try.func25, Try.ntmps25
  go_wp2_with fail
  refine (Sc.Ref.arity_any p _).mono ?_
  rw [H.out]
  rintro e w1 ⟨rfl, hg⟩
  have st1 : Hid (RSt w w1 a b A B c d) := RSt.below (w := w) (a := a) (b := b) (A := A) (B := B) (c := c) (d := d) ⟨⟨by simp [go_sem], by simp [go_sem], by simp [go_sem], by simp [go_sem], by simp [go_sem]⟩, ⟨by simp [go_sem], by simp [go_sem], by simp [go_sem], by simp [go_sem], by simp [go_sem]⟩, ⟨by simp [go_sem], by simp [go_sem], by simp [go_sem], by simp [go_sem], by simp [go_sem]⟩, fun i => by simp [go_sem], by simp, by (repeat (first | with_reducible exact Below.refl _ _ | with_reducible assumption | (with_reducible refine bl_set ?_ (by simp; try omega) _) | (with_reducible refine bl_alloc ?_ _) | (with_reducible refine bl_dn ?_ _) | (with_reducible refine bl_drew ?_) | (with_reducible refine bl_then ?_ (by with_reducible assumption))))⟩ hg
  clear hg
  obtain ⟨⟨a0_w1, a1_w1, a2_w1, a3_w1, a4_w1⟩, ⟨b0_w1, b1_w1, b2_w1, b3_w1, b4_w1⟩, ⟨c0_w1, c1_w1, c2_w1, c3_w1, c4_w1⟩, fc_w1, y2_w1, hb_w1⟩ := st1.out; (have y0_w1 : w.heap.size < w1.heap.size := by omega); (have y1_w1 : w.heap.size + 1 < w1.heap.size := by omega)
  go_wp2_with fail
  refine (Ref.ac_any a A c hla f0a f1a _ (hsa.below (by (repeat (first | with_reducible exact Below.refl _ _ | with_reducible assumption | (with_reducible refine bl_set ?_ (by simp; try omega) _) | (with_reducible refine bl_alloc ?_ _) | (with_reducible refine bl_dn ?_ _) | (with_reducible refine bl_drew ?_) | (with_reducible refine bl_then ?_ (by with_reducible assumption))))))).mono ?_
  rw [H2.out]
  rintro e w2 ⟨rfl, hg⟩
  have st2 := hide (st1.out.below hg)
  clear a0_w1 a1_w1 a2_w1 a3_w1 a4_w1 b0_w1 b1_w1 b2_w1 b3_w1 b4_w1 c0_w1 c1_w1 c2_w1 c3_w1 c4_w1 fc_w1 y2_w1 hb_w1 y0_w1 y1_w1
  clear st1 hg
  obtain ⟨⟨a0_w2, a1_w2, a2_w2, a3_w2, a4_w2⟩, ⟨b0_w2, b1_w2, b2_w2, b3_w2, b4_w2⟩, ⟨c0_w2, c1_w2, c2_w2, c3_w2, c4_w2⟩, fc_w2, y2_w2, hb_w2⟩ := st2.out; (have y0_w2 : w.heap.size < w2.heap.size := by omega); (have y1_w2 : w.heap.size + 1 < w2.heap.size := by omega)
  go_wp2_with fail
  refine (Ref.ac_any b B d hlb f0b f1b _ (hsb.below (by (repeat (first | with_reducible exact Below.refl _ _ | with_reducible assumption | (with_reducible refine bl_set ?_ (by simp; try omega) _) | (with_reducible refine bl_alloc ?_ _) | (with_reducible refine bl_dn ?_ _) | (with_reducible refine bl_drew ?_) | (with_reducible refine bl_then ?_ (by with_reducible assumption))))))).mono ?_
  rw [H3.out]
  rintro e w3 ⟨rfl, hg⟩
  have st3 := hide (st2.out.below hg)
  clear a0_w2 a1_w2 a2_w2 a3_w2 a4_w2 b0_w2 b1_w2 b2_w2 b3_w2 b4_w2 c0_w2 c1_w2 c2_w2 c3_w2 c4_w2 fc_w2 y2_w2 hb_w2 y0_w2 y1_w2
  clear st2 hg
  obtain ⟨⟨a0_w3, a1_w3, a2_w3, a3_w3, a4_w3⟩, ⟨b0_w3, b1_w3, b2_w3, b3_w3, b4_w3⟩, ⟨c0_w3, c1_w3, c2_w3, c3_w3, c4_w3⟩, fc_w3, y2_w3, hb_w3⟩ := st3.out; (have y0_w3 : w.heap.size < w3.heap.size := by omega); (have y1_w3 : w.heap.size + 1 < w3.heap.size := by omega)
  go_wp2_with fail
  refine (kinds_any p a b A B c d _).mono ?_
  rw [kindErr_no H4.out]
  rintro e w4 ⟨rfl, hg⟩
  have st4 := hide (st3.out.below hg)
  clear a0_w3 a1_w3 a2_w3 a3_w3 a4_w3 b0_w3 b1_w3 b2_w3 b3_w3 b4_w3 c0_w3 c1_w3 c2_w3 c3_w3 c4_w3 fc_w3 y2_w3 hb_w3 y0_w3 y1_w3
  clear st3 hg
  obtain ⟨⟨a0_w4, a1_w4, a2_w4, a3_w4, a4_w4⟩, ⟨b0_w4, b1_w4, b2_w4, b3_w4, b4_w4⟩, ⟨c0_w4, c1_w4, c2_w4, c3_w4, c4_w4⟩, fc_w4, y2_w4, hb_w4⟩ := st4.out; (have y0_w4 : w.heap.size < w4.heap.size := by omega); (have y1_w4 : w.heap.size + 1 < w4.heap.size := by omega)
  go_wp2
  refine bodyPost_ret (v := .tuple #[.agg #[.int .i64 0, .int .i64 0, .int .i64 0, .int .i64 0, .slice none 0 0], .int .i64 21]) (by simp [results, Try.results25, go_sem, *]) rfl (arr_zero _ (by (repeat (first | with_reducible exact Below.refl _ _ | with_reducible assumption | (with_reducible refine bl_set ?_ (by simp; try omega) _) | (with_reducible refine bl_alloc ?_ _) | (with_reducible refine bl_dn ?_ _) | (with_reducible refine bl_drew ?_) | (with_reducible refine bl_then ?_ (by with_reducible assumption))))))
set_option maxRecDepth 100000 in
set_option maxHeartbeats 1000000 in
theorem rtwo_lens (p : Int) (a b : Arr) (A B : Option Addr) (c d : Nat) (hLa : a.xs.length ≤ 100000) (f0a : Fits a.l0) (f1a : Fits a.l1) (hLb : b.xs.length ≤ 100000) (f0b : Fits b.l0) (f1b : Fits b.l1) (hxa : ∀ x ∈ a.xs, Fits x) (hxb : ∀ x ∈ b.xs, Fits x) (h : arity p = (2, 0)) (h2 : chk a = 0) (h3 : chk b = 0) (h4 : kindsOk p a b = true) (er r l0 l1 : Int) (h5 : extLens a b = (er, r, l0, l1)) (h6 : er ≠ 0) (w : World) (hsa : Sl w A a.xs) (hsb : Sl w B b.xs) : Calls Try.prog 25 #[.int .i64 p, .agg #[.int .i64 a.k, .int .i64 a.r, .int .i64 a.l0, .int .i64 a.l1, .slice A a.xs.length c], .agg #[.int .i64 b.k, .int .i64 b.r, .int .i64 b.l0, .int .i64 b.l1, .slice B b.xs.length d]] w fun e w' => ArrRet w (er, .zero) e w' := by
  have H := hide h; have H2 := hide h2; have H3 := hide h3; have H4 := hide h4; have H5 := hide h5
  have n1 : (er != 0) = true := by simpa using h6
  clear h h2 h3 h4 h5 h6
  have hla : a.xs.length ≤ 9223372036854775807 := by omega
  have hlb : b.xs.length ≤ 9223372036854775807 := by omega
  have HLA := hide hLa; have HLB := hide hLb; have HXA := hide hxa; have HXB := hide hxb
  clear hLa hLb hxa hxb
  go_enter Try.func25, Try.ntmps25
  go_wp2_with fail
  refine (Sc.Ref.arity_any p _).mono ?_
  rw [H.out]
  rintro e w1 ⟨rfl, hg⟩
  have st1 : Hid (RSt w w1 a b A B c d) := RSt.below (w := w) (a := a) (b := b) (A := A) (B := B) (c := c) (d := d) ⟨⟨by simp [go_sem], by simp [go_sem], by simp [go_sem], by simp [go_sem], by simp [go_sem]⟩, ⟨by simp [go_sem], by simp [go_sem], by simp [go_sem], by simp [go_sem], by simp [go_sem]⟩, ⟨by simp [go_sem], by simp [go_sem], by simp [go_sem], by simp [go_sem], by simp [go_sem]⟩, fun i => by simp [go_sem], by simp, by (repeat (first | with_reducible exact Below.refl _ _ | with_reducible assumption | (with_reducible refine bl_set ?_ (by simp; try omega) _) | (with_reducible refine bl_alloc ?_ _) | (with_reducible refine bl_dn ?_ _) | (with_reducible refine bl_drew ?_) | (with_reducible refine bl_then ?_ (by with_reducible assumption))))⟩ hg
  clear hg
  obtain ⟨⟨a0_w1, a1_w1, a2_w1, a3_w1, a4_w1⟩, ⟨b0_w1, b1_w1, b2_w1, b3_w1, b4_w1⟩, ⟨c0_w1, c1_w1, c2_w1, c3_w1, c4_w1⟩, fc_w1, y2_w1, hb_w1⟩ := st1.out; (have y0_w1 : w.heap.size < w1.heap.size := by omega); (have y1_w1 : w.heap.size + 1 < w1.heap.size := by omega)
  go_wp2_with fail
  refine (Ref.ac_any a A c hla f0a f1a _ (hsa.below (by (repeat (first | with_reducible exact Below.refl _ _ | with_reducible assumption | (with_reducible refine bl_set ?_ (by simp; try omega) _) | (with_reducible refine bl_alloc ?_ _) | (with_reducible refine bl_dn ?_ _) | (with_reducible refine bl_drew ?_) | (with_reducible refine bl_then ?_ (by with_reducible assumption))))))).mono ?_
  rw [H2.out]
  rintro e w2 ⟨rfl, hg⟩
  have st2 := hide (st1.out.below hg)
  clear a0_w1 a1_w1 a2_w1 a3_w1 a4_w1 b0_w1 b1_w1 b2_w1 b3_w1 b4_w1 c0_w1 c1_w1 c2_w1 c3_w1 c4_w1 fc_w1 y2_w1 hb_w1 y0_w1 y1_w1
  clear st1 hg
  obtain ⟨⟨a0_w2, a1_w2, a2_w2, a3_w2, a4_w2⟩, ⟨b0_w2, b1_w2, b2_w2, b3_w2, b4_w2⟩, ⟨c0_w2, c1_w2, c2_w2, c3_w2, c4_w2⟩, fc_w2, y2_w2, hb_w2⟩ := st2.out; (have y0_w2 : w.heap.size < w2.heap.size := by omega); (have y1_w2 : w.heap.size + 1 < w2.heap.size := by omega)
  go_wp2_with fail
  refine (Ref.ac_any b B d hlb f0b f1b _ (hsb.below (by (repeat (first | with_reducible exact Below.refl _ _ | with_reducible assumption | (with_reducible refine bl_set ?_ (by simp; try omega) _) | (with_reducible refine bl_alloc ?_ _) | (with_reducible refine bl_dn ?_ _) | (with_reducible refine bl_drew ?_) | (with_reducible refine bl_then ?_ (by with_reducible assumption))))))).mono ?_
  rw [H3.out]
  rintro e w3 ⟨rfl, hg⟩
  have st3 := hide (st2.out.below hg)
  clear a0_w2 a1_w2 a2_w2 a3_w2 a4_w2 b0_w2 b1_w2 b2_w2 b3_w2 b4_w2 c0_w2 c1_w2 c2_w2 c3_w2 c4_w2 fc_w2 y2_w2 hb_w2 y0_w2 y1_w2
  clear st2 hg
  obtain ⟨⟨a0_w3, a1_w3, a2_w3, a3_w3, a4_w3⟩, ⟨b0_w3, b1_w3, b2_w3, b3_w3, b4_w3⟩, ⟨c0_w3, c1_w3, c2_w3, c3_w3, c4_w3⟩, fc_w3, y2_w3, hb_w3⟩ := st3.out; (have y0_w3 : w.heap.size < w3.heap.size := by omega); (have y1_w3 : w.heap.size + 1 < w3.heap.size := by omega)
  go_wp2_with fail
  refine (kinds_any p a b A B c d _).mono ?_
  rw [kindErr_ok H4.out]
  rintro e w4 ⟨rfl, hg⟩
  have st4 := hide (st3.out.below hg)
  clear a0_w3 a1_w3 a2_w3 a3_w3 a4_w3 b0_w3 b1_w3 b2_w3 b3_w3 b4_w3 c0_w3 c1_w3 c2_w3 c3_w3 c4_w3 fc_w3 y2_w3 hb_w3 y0_w3 y1_w3
  clear st3 hg
  obtain ⟨⟨a0_w4, a1_w4, a2_w4, a3_w4, a4_w4⟩, ⟨b0_w4, b1_w4, b2_w4, b3_w4, b4_w4⟩, ⟨c0_w4, c1_w4, c2_w4, c3_w4, c4_w4⟩, fc_w4, y2_w4, hb_w4⟩ := st4.out; (have y0_w4 : w.heap.size < w4.heap.size := by omega); (have y1_w4 : w.heap.size + 1 < w4.heap.size := by omega)
  go_wp2_with fail
  refine (rlens_any a A c hla f0a f1a b B d hlb f0b f1b _ (hsa.below (by (repeat (first | with_reducible exact Below.refl _ _ | with_reducible assumption | (with_reducible refine bl_set ?_ (by simp; try omega) _) | (with_reducible refine bl_alloc ?_ _) | (with_reducible refine bl_dn ?_ _) | (with_reducible refine bl_drew ?_) | (with_reducible refine bl_then ?_ (by with_reducible assumption)))))) (hsb.below (by (repeat (first | with_reducible exact Below.refl _ _ | with_reducible assumption | (with_reducible refine bl_set ?_ (by simp; try omega) _) | (with_reducible refine bl_alloc ?_ _) | (with_reducible refine bl_dn ?_ _) | (with_reducible refine bl_drew ?_) | (with_reducible refine bl_then ?_ (by with_reducible assumption))))))).mono ?_
  rw [H5.out]
  rintro e w5 ⟨rfl, hg⟩
  have st5 := hide (st4.out.below hg)
  clear a0_w4 a1_w4 a2_w4 a3_w4 a4_w4 b0_w4 b1_w4 b2_w4 b3_w4 b4_w4 c0_w4 c1_w4 c2_w4 c3_w4 c4_w4 fc_w4 y2_w4 hb_w4 y0_w4 y1_w4
  clear st4 hg
  obtain ⟨⟨a0_w5, a1_w5, a2_w5, a3_w5, a4_w5⟩, ⟨b0_w5, b1_w5, b2_w5, b3_w5, b4_w5⟩, ⟨c0_w5, c1_w5, c2_w5, c3_w5, c4_w5⟩, fc_w5, y2_w5, hb_w5⟩ := st5.out; (have y0_w5 : w.heap.size < w5.heap.size := by omega); (have y1_w5 : w.heap.size + 1 < w5.heap.size := by omega)
  go_wp2
  refine bodyPost_ret (v := .tuple #[.agg #[.int .i64 0, .int .i64 0, .int .i64 0, .int .i64 0, .slice none 0 0], .int .i64 er]) (by simp [results, Try.results25, go_sem, *]) rfl (arr_zero _ (by (repeat (first | with_reducible exact Below.refl _ _ | with_reducible assumption | (with_reducible refine bl_set ?_ (by simp; try omega) _) | (with_reducible refine bl_alloc ?_ _) | (with_reducible refine bl_dn ?_ _) | (with_reducible refine bl_drew ?_) | (with_reducible refine bl_then ?_ (by with_reducible assumption))))))
end Ar
end Go.Proofs.Ytfpnafeildigaaa
