/-
The walk of ExtendOwn (chapter 10).
-/
import Derived.Test.YtfpnafeildigaaaArSt
set_option linter.unusedSimpArgs false
set_option linter.unusedVariables false
namespace Go.Proofs.Ytfpnafeildigaaa
namespace Ar
open Go.RowKit Sc
/-- the boxes of an operand and of its copy, whose cells are its own -/
def OwnSt (w wx : World) (O : Nat) (a : Arr) (A V : Option Addr) (c cv : Nat) : Prop :=
  Arr5 wx w.heap.size (.int .i64 a.k) (.int .i64 a.r) (.int .i64 a.l0) (.int .i64 a.l1) (.slice A a.xs.length c) ∧
  Arr5 wx O (.int .i64 a.k) (.int .i64 a.r) (.int .i64 a.l0) (.int .i64 a.l1) (.slice V a.xs.length cv) ∧
  Acc wx (O + 1) (.slice V a.xs.length cv) a.xs ∧ Below w.heap.size w wx ∧ w.heap.size < O ∧ O < wx.heap.size
theorem OwnSt.below {w wx wy : World} {O : Nat} {a : Arr} {A V : Option Addr} {c cv : Nat} (h : OwnSt w wx O a A V c cv) (hb : Below wx.heap.size wx wy) : OwnSt w wy O a A V c cv :=
  ⟨h.1.below hb, h.2.1.below hb, h.2.2.1.below hb, bl_then h.2.2.2.1 hb, h.2.2.2.2.1, Nat.lt_of_lt_of_le h.2.2.2.2.2 hb.size⟩
theorem own_far (p : Int) (a : Arr) (A : Option Addr) (c : Nat) (w : World) (h : 405 < a.xs.length) :
    Calls Try.prog 10 #[.int .i64 p, .agg #[.int .i64 a.k, .int .i64 a.r, .int .i64 a.l0, .int .i64 a.l1, .slice A a.xs.length c]] w fun e w' => e = .returned (.bool true) ∧ Below w.heap.size w w' := by
  have HF := hide (far_yes h)
  clear h
  go_enter Try.func10, Try.ntmps10
  go_wp2_with fail
  refine (far_any a A c _).mono ?_
  rw [HF.out]
  rintro e w1 ⟨rfl, hg1⟩
  go_wp2_with fail
  refine (awake10 _).mono ?_
  rintro e w2 ⟨rfl, hg2⟩
  go_wp2
  go_ret
  exact ⟨rfl, by (repeat (first | with_reducible exact Below.refl _ _ | with_reducible assumption | (with_reducible refine bl_set ?_ (by simp; try omega) _) | (with_reducible refine bl_alloc ?_ _) | (with_reducible refine bl_dn ?_ _) | (with_reducible refine bl_drew ?_) | (with_reducible refine bl_then ?_ (by with_reducible assumption))))⟩
set_option maxRecDepth 100000 in
set_option maxHeartbeats 4000000 in
theorem own_near (p : Int) (a : Arr) (A : Option Addr) (c : Nat) (f0 : Fits a.l0) (f1 : Fits a.l1) (hx : ∀ x ∈ a.xs, Fits x) (w : World) (hs : Sl w A a.xs) (h : ¬ 405 < a.xs.length) :
    Calls Try.prog 10 #[.int .i64 p, .agg #[.int .i64 a.k, .int .i64 a.r, .int .i64 a.l0, .int .i64 a.l1, .slice A a.xs.length c]] w fun e w' => e = .returned (.bool true) ∧ Below w.heap.size w w' := by
  have HF := hide (far_no h)
  have HL : Hid (a.xs.length ≤ 405) := by show _ ≤ _; omega
  have HX := hide hx
  obtain ⟨er, R, hR⟩ : ∃ er R, extTwo p a a = (er, R) := ⟨_, _, rfl⟩
  have HR : Hid (R.xs.length ≤ 810) := by show _ ≤ _; have hh := extTwo_len p a a; rw [hR] at hh; have := HL.out; exact Nat.le_trans hh (by omega)
  have HE := hide hR
  obtain ⟨eo, U, hU⟩ : ∃ er R, extOne p a = (er, R) := ⟨_, _, rfl⟩
  have HU : Hid (U.xs.length ≤ 405) := by show _ ≤ _; have hh := extOne_len p a; rw [hU] at hh; have := HL.out; exact Nat.le_trans hh (by omega)
  have HO := hide hU
  clear h hx hR hU
  go_enter Try.func10, Try.ntmps10
  go_wp2_with fail
  refine (far_any a A c _).mono ?_
  rw [HF.out]
  rintro e w1 ⟨rfl, hg1⟩
  obtain ⟨hc1, hf1, hz1⟩ := bcell hg1
  (have zw1 : w.heap.size < w1.heap.size := by have := hg1.size; simp at this; omega)
  go_wp2_with (at_builtin; refine wpList_app64 rfl (.tmp 19) (.tmp 21) rfl (w1.heap.size + 1) (.slice (some ⟨w1.heap.size + 1, 0, none⟩) 0 0) [] rfl (by have := acc_empty (w1.alloc (.cells #[.int .i64 a.k, .int .i64 a.r, .int .i64 a.l0, .int .i64 a.l1, .slice A a.xs.length c] 25)) 2 rfl; simpa using this) A c a.xs.length a.xs rfl rfl (hs.below (by (repeat (first | with_reducible exact Below.refl _ _ | with_reducible assumption | (with_reducible refine bl_set ?_ (by simp; try omega) _) | (with_reducible refine bl_alloc ?_ _) | (with_reducible refine bl_dn ?_ _) | (with_reducible refine bl_drew ?_) | (with_reducible refine bl_then ?_ (by with_reducible assumption)))))) (by have := HL.out; simp; omega) (by simp) ?_; intro v' w2 hacc hg; (have hb := hide (below_gb (w := (w1.alloc (.cells #[.int .i64 a.k, .int .i64 a.r, .int .i64 a.l0, .int .i64 a.l1, .slice A a.xs.length c] 25)).alloc (.cells #[] 2)) (B := w1.heap.size + 1) (Below.refl _ _) hg (by simp) (by intro k hk; simp [Value.ownBlock] at hk; omega))); (obtain ⟨hc2, hf2⟩ : (∀ b o, b < w1.heap.size + 1 → w2.cell? ⟨b, o, none⟩ = ((w1.alloc (.cells #[.int .i64 a.k, .int .i64 a.r, .int .i64 a.l0, .int .i64 a.l1, .slice A a.xs.length c] 25)).alloc (.cells #[] 2)).cell? ⟨b, o, none⟩) ∧ (∀ b o, b < w1.heap.size + 1 → w2.frozen? ⟨b, o, none⟩ = ((w1.alloc (.cells #[.int .i64 a.k, .int .i64 a.r, .int .i64 a.l0, .int .i64 a.l1, .slice A a.xs.length c] 25)).alloc (.cells #[] 2)).frozen? ⟨b, o, none⟩) := ⟨fun b o h => hb.out.cell (p := ⟨b, o, none⟩) h, fun b o h => hb.out.frozen (p := ⟨b, o, none⟩) h⟩); (have hz2 := hb.out.size); (obtain ⟨V, cv, rfl, hsl, hge⟩ := hacc.sl); (have hsl := hide hsl); (have hacc := hide hacc); (have hge := hide hge); clear hg)
  have hbw : Below w.heap.size w w2 := Below.trans (by (repeat (first | with_reducible exact Below.refl _ _ | with_reducible assumption | (with_reducible refine bl_set ?_ (by simp; try omega) _) | (with_reducible refine bl_alloc ?_ _) | (with_reducible refine bl_dn ?_ _) | (with_reducible refine bl_drew ?_) | (with_reducible refine bl_then ?_ (by with_reducible assumption))))) (hb.out.mono (by omega))
  have hl1 : w1.heap.size + 1 < w2.heap.size := by simp at hz2; omega
  have st : Hid (OwnSt w (w2.setCell ⟨w1.heap.size, 4, none⟩ (.slice V a.xs.length cv)) w1.heap.size a A V c cv) := ⟨⟨by simp [go_sem, *], by simp [go_sem, *], by simp [go_sem, *], by simp [go_sem, *], by simp [go_sem, *]⟩, ⟨by simp [go_sem, *], by simp [go_sem, *], by simp [go_sem, *], by simp [go_sem, *], by simp [go_sem, *]⟩, hacc.out.set (by simp) _, by (repeat (first | with_reducible exact Below.refl _ _ | with_reducible assumption | (with_reducible refine bl_set ?_ (by simp; try omega) _) | (with_reducible refine bl_alloc ?_ _) | (with_reducible refine bl_dn ?_ _) | (with_reducible refine bl_drew ?_) | (with_reducible refine bl_then ?_ (by with_reducible assumption)))), by omega, by simp; omega⟩
  have hge : Hid (w1.heap.size + 1 < (w2.setCell ⟨w1.heap.size, 4, none⟩ (.slice V a.xs.length cv)).heap.size) := by show _ < _; simp; omega
  clear hc1 hf1 hz1 hc2 hf2 hz2 hb hacc hsl
  generalize (w2.setCell ⟨w1.heap.size, 4, none⟩ (.slice V a.xs.length cv)) = x2 at *
  generalize w1.heap.size = O at *
  obtain ⟨⟨a0, a1, a2, a3, a4⟩, ⟨o0, o1, o2, o3, o4⟩, ho, hbw, zwO, zO⟩ := st.out; have zA := Nat.lt_trans zwO zO
  have hVZ := hide (acc_lt ho)
  refine (two_any p a a V V cv cv (by have := HL.out; omega) f0 f1 (by have := HL.out; omega) f0 f1 HX.out HX.out _ (acc_sl ho) (acc_sl ho)).mono ?_
  rw [HE.out]
  rintro e w3 ⟨hg3, C, cc, rfl, hsC, hgeC⟩
  have st3 := hide (st.out.below (bl_then (Below.refl _ _) hg3))
  clear a0 a1 a2 a3 a4 o0 o1 o2 o3 o4 ho hbw hsl hacc zA zO
  have zZ3 : x2.heap.size ≤ w3.heap.size := hg3.size
  obtain ⟨⟨a0, a1, a2, a3, a4⟩, ⟨o0, o1, o2, o3, o4⟩, ho, hbw, zwO, zO⟩ := st3.out; have zA := Nat.lt_trans zwO zO
  go_wp2_with fail
  refine (one_any p a V cv (by have := HL.out; omega) f0 f1 HX.out _ ((acc_sl ho).below (by (repeat (first | with_reducible exact Below.refl _ _ | with_reducible assumption | (with_reducible refine bl_set ?_ (by simp; try omega) _) | (with_reducible refine bl_alloc ?_ _) | (with_reducible refine bl_dn ?_ _) | (with_reducible refine bl_drew ?_) | (with_reducible refine bl_then ?_ (by with_reducible assumption))))))).mono ?_
  rw [HO.out]
  rintro e w4 ⟨hg4, D, cd, rfl, hsD, hgeD⟩
  have st4 := hide (st3.out.below (bl_then (bl_alloc (Below.refl _ _) _) hg4))
  have hR4 := hide ((arr5_new w3 R.k R.r R.l0 R.l1 C R.xs.length cc _).below hg4)
  have hC4 := hide (Sl.below hsC (bl_then (bl_alloc (Below.refl _ _) _) hg4))
  have zZ4 : w3.heap.size < w4.heap.size := by have := hg4.size; simp at this; omega
  clear a0 a1 a2 a3 a4 o0 o1 o2 o3 o4 ho hbw hsC zO zA
  obtain ⟨⟨a0, a1, a2, a3, a4⟩, ⟨o0, o1, o2, o3, o4⟩, ho, hbw, zwO, zO⟩ := st4.out; have zA := Nat.lt_trans zwO zO
  go_wp2_with fail
  refine (same_any a a V A cv c (by have := HL.out; omega) (by have := HL.out; omega) _ ((acc_sl ho).below (by (repeat (first | with_reducible exact Below.refl _ _ | with_reducible assumption | (with_reducible refine bl_set ?_ (by simp; try omega) _) | (with_reducible refine bl_alloc ?_ _) | (with_reducible refine bl_dn ?_ _) | (with_reducible refine bl_drew ?_) | (with_reducible refine bl_then ?_ (by with_reducible assumption)))))) (hs.below (by (repeat (first | with_reducible exact Below.refl _ _ | with_reducible assumption | (with_reducible refine bl_set ?_ (by simp; try omega) _) | (with_reducible refine bl_alloc ?_ _) | (with_reducible refine bl_dn ?_ _) | (with_reducible refine bl_drew ?_) | (with_reducible refine bl_then ?_ (by with_reducible assumption))))))).mono ?_
  rw [same_refl]
  rintro e w5 ⟨rfl, hg5⟩
  have st5 := hide (st4.out.below (bl_then (bl_alloc (Below.refl _ _) _) hg5))
  have hR5 := hide (hR4.out.below (bl_then (bl_alloc (Below.refl _ _) _) hg5))
  have hC5 := hide (hC4.out.below (bl_then (bl_alloc (Below.refl _ _) _) hg5))
  have hU5 := hide ((arr5_new w4 U.k U.r U.l0 U.l1 D U.xs.length cd _).below hg5)
  have hD5 := hide (Sl.below hsD (bl_then (bl_alloc (Below.refl _ _) _) hg5))
  have zZ5 : w4.heap.size < w5.heap.size := by have := hg5.size; simp at this; omega
  clear a0 a1 a2 a3 a4 o0 o1 o2 o3 o4 ho hbw hsD zO zA hR4 hC4
  obtain ⟨⟨a0, a1, a2, a3, a4⟩, ⟨o0, o1, o2, o3, o4⟩, ho, hbw, zwO, zO⟩ := st5.out; have zA := Nat.lt_trans zwO zO
  have hgeD : ∀ (g o : Nat), D = some ⟨g, o, none⟩ → w3.heap.size ≤ g := fun g o e => by have := hgeD g o e; simp at this; omega
  generalize w4.heap.size = P8 at *
  generalize w3.heap.size = P6 at *
  generalize x2.heap.size = Z at *
  have hml : Hid (a.xs.length ≤ 100000) := by show _ ≤ _; have := HL.out; omega
  have hnn : a.xs.length ≤ 9223372036854775807 := by have := HL.out; omega
  have ho := hide ho
  have hbw := hide hbw
  clear a0 a1 a2 a3 a4 o0 o1 o2 o3 o4 st st3 st4 hg1 hg3 hg4 hg5
  have hZO := hge.out
  go_wp2
  go_loopw [10] (fun i wr => ∃ (k : Nat) (ys : List Int), k ≤ a.xs.length ∧ i = .int .i64 k ∧ Hid (ys.length = a.xs.length) ∧ Hid (Acc wr (O + 1) (.slice V a.xs.length cv) ys) ∧ Hid (Off (O + 1) Z w5 wr)) (fun i _ => a.xs.length - (intOf i).toNat)
  case atStart => exact ⟨0, a.xs, Nat.zero_le _, rfl, rfl, ho, Off.refl _ _ _⟩
  case round =>
    obtain ⟨k, ys, hk, rfl, hy, hac, hof⟩ := hrel
    obtain ⟨o0, o1, o2, o3, o4⟩ := hof.out.arr st5.out.2.1 (.inl (by omega))
    obtain ⟨a0, a1, a2, a3, a4⟩ := hof.out.arr st5.out.1 (.inl (by omega))
    have zs : w5.heap.size ≤ wr.heap.size := hof.out.2.2.2.1
    have zOr : O < wr.heap.size := by omega
    have zAr : w.heap.size < wr.heap.size := by omega
    by_cases hlt : k < a.xs.length
    · obtain ⟨g, y, rfl, hg1, hg2, hck, hgy, hfr, hput⟩ := hac.out.place hy.out hlt
      have hgZ := (hVZ.out g 0 rfl).2
      go_wp2
      go_roundw
      case rel => exact ⟨k + 1, ys.set k _, by omega, by go_num, (by show _ = _; rw [List.length_set]; exact hy.out), hput _, hof.out.set (by simp; omega) (by simp; omega) _⟩
      case measure => simp [intOf]; omega
    · have hbr : Hid (Below w.heap.size w wr) := hof.out.base hbw.out (by omega) (by omega)
      have hRr := hide (hof.out.arr hR5.out (.inr (by omega)))
      have hUr := hide (hof.out.arr hU5.out (.inr (by omega)))
      have hCr := hide (hof.out.sl hC5.out (fun g o e => .inr (hgeC g o e)))
      have hDr := hide (hof.out.sl hD5.out (fun g o e => .inr (by have := hgeD g o e; omega)))
      have z6r : P6 < wr.heap.size := by omega
      have z8r : P8 < wr.heap.size := by omega
      clear hac hof hR5 hU5 hC5 hD5 st5 hVZ
      go_wp2_with fail
      refine (rtwo_any p a a A A c c (by have := HL.out; omega) f0 f1 (by have := HL.out; omega) f0 f1 HX.out HX.out _ (hs.below (by have := hbr.out; (repeat (first | with_reducible exact Below.refl _ _ | with_reducible assumption | (with_reducible refine bl_set ?_ (by simp; try omega) _) | (with_reducible refine bl_alloc ?_ _) | (with_reducible refine bl_dn ?_ _) | (with_reducible refine bl_drew ?_) | (with_reducible refine bl_then ?_ (by with_reducible assumption)))))) (hs.below (by have := hbr.out; (repeat (first | with_reducible exact Below.refl _ _ | with_reducible assumption | (with_reducible refine bl_set ?_ (by simp; try omega) _) | (with_reducible refine bl_alloc ?_ _) | (with_reducible refine bl_dn ?_ _) | (with_reducible refine bl_drew ?_) | (with_reducible refine bl_then ?_ (by with_reducible assumption))))))).mono ?_
      rw [HE.out]
      rintro e w7 ⟨hg7, C', cc', rfl, hsC', hgeC'⟩
      have hb7 := bl_then hbr.out hg7
      have hR7 := hide (hRr.out.below hg7)
      have hU7 := hide (hUr.out.below hg7)
      have hC7 := hide (hCr.out.below hg7)
      have hD7 := hide (hDr.out.below hg7)
      have z67 : P6 < w7.heap.size := Nat.lt_of_lt_of_le z6r hg7.size
      have z87 : P8 < w7.heap.size := Nat.lt_of_lt_of_le z8r hg7.size
      have zA7 : w.heap.size < w7.heap.size := Nat.lt_of_lt_of_le zAr hg7.size
      have ha7 := hide (Arr5.below ⟨a0, a1, a2, a3, a4⟩ hg7)
      clear o0 o1 o2 o3 o4 a0 a1 a2 a3 a4 hRr hUr hCr hDr z6r z8r
      obtain ⟨a0, a1, a2, a3, a4⟩ := ha7.out
      go_wp2_with fail
      refine (rone_any p a A c (by have := HL.out; omega) f0 f1 HX.out _ (hs.below (by (repeat (first | with_reducible exact Below.refl _ _ | with_reducible assumption | (with_reducible refine bl_set ?_ (by simp; try omega) _) | (with_reducible refine bl_alloc ?_ _) | (with_reducible refine bl_dn ?_ _) | (with_reducible refine bl_drew ?_) | (with_reducible refine bl_then ?_ (by with_reducible assumption))))))).mono ?_
      rw [HO.out]
      rintro e w8 ⟨hg8, D', cd', rfl, hsD', hgeD'⟩
      have hb78 : Below w7.heap.size w7 w8 := bl_then (bl_alloc (Below.refl _ _) _) hg8
      have z78 : w7.heap.size < w8.heap.size := by have := hg8.size; simp at this; omega
      have z68 : P6 < w8.heap.size := by omega
      have z88 : P8 < w8.heap.size := by omega
      have hU8 := hide (hU7.out.below hb78)
      have hD8 := hide (hD7.out.below hb78)
      have hC8 := hide (hC7.out.below hb78)
      have hCC8 := hide (Sl.below hsC' hb78)
      have hDD8 := hide hsD'
      obtain ⟨r0, r1, r2, r3, r4⟩ := hR7.out.below hb78
      obtain ⟨q0, q1, q2, q3, q4⟩ := (arr5_new w7 R.k R.r R.l0 R.l1 C' R.xs.length cc' _).below hg8
      have hb8 := bl_then hb7 hb78
      clear a0 a1 a2 a3 a4 ha7 hR7 hU7 hD7 hC7 hsC' hsD' hg8 hb7 hb78
      go_wp2_with fail
      refine (alike_any R R C C' cc cc' er er (by have := HR.out; omega) (by have := HR.out; omega) _ (hC8.out.below (by (repeat (first | with_reducible exact Below.refl _ _ | with_reducible assumption | (with_reducible refine bl_set ?_ (by simp; try omega) _) | (with_reducible refine bl_alloc ?_ _) | (with_reducible refine bl_dn ?_ _) | (with_reducible refine bl_drew ?_) | (with_reducible refine bl_then ?_ (by with_reducible assumption)))))) (hCC8.out.below (by (repeat (first | with_reducible exact Below.refl _ _ | with_reducible assumption | (with_reducible refine bl_set ?_ (by simp; try omega) _) | (with_reducible refine bl_alloc ?_ _) | (with_reducible refine bl_dn ?_ _) | (with_reducible refine bl_drew ?_) | (with_reducible refine bl_then ?_ (by with_reducible assumption))))))).mono ?_
      rw [same_yes]
      rintro e w9 ⟨rfl, hg9⟩
      have hb89 : Below w8.heap.size w8 w9 := bl_then (bl_alloc (Below.refl _ _) _) hg9
      have z89 : w8.heap.size < w9.heap.size := by have := hg9.size; simp at this; omega
      have hD9 := hide (hD8.out.below hb89)
      have hDD9 := hide (Sl.below hDD8.out hb89)
      clear r0 r1 r2 r3 r4 q0 q1 q2 q3 q4
      obtain ⟨r0, r1, r2, r3, r4⟩ := hU8.out.below hb89
      obtain ⟨q0, q1, q2, q3, q4⟩ := (arr5_new w8 U.k U.r U.l0 U.l1 D' U.xs.length cd' _).below hg9
      have hb9 := bl_then hb8 hb89
      clear hD8 hDD8 hU8 hC8 hCC8 hb8 hb89 hg9
      go_wp2_with fail
      refine (alike_any U U D D' cd cd' eo eo (by have := HU.out; omega) (by have := HU.out; omega) _ (hD9.out.below (by (repeat (first | with_reducible exact Below.refl _ _ | with_reducible assumption | (with_reducible refine bl_set ?_ (by simp; try omega) _) | (with_reducible refine bl_alloc ?_ _) | (with_reducible refine bl_dn ?_ _) | (with_reducible refine bl_drew ?_) | (with_reducible refine bl_then ?_ (by with_reducible assumption)))))) (hDD9.out.below (by (repeat (first | with_reducible exact Below.refl _ _ | with_reducible assumption | (with_reducible refine bl_set ?_ (by simp; try omega) _) | (with_reducible refine bl_alloc ?_ _) | (with_reducible refine bl_dn ?_ _) | (with_reducible refine bl_drew ?_) | (with_reducible refine bl_then ?_ (by with_reducible assumption))))))).mono ?_
      rw [same_yes]
      rintro e w10 ⟨rfl, hg10⟩
      go_wp2_with fail
      refine (awake10 _).mono ?_
      rintro e w11 ⟨rfl, hg11⟩
      go_wp2
      go_ret
      exact ⟨rfl, by (repeat (first | with_reducible exact Below.refl _ _ | with_reducible assumption | (with_reducible refine bl_set ?_ (by simp; try omega) _) | (with_reducible refine bl_alloc ?_ _) | (with_reducible refine bl_dn ?_ _) | (with_reducible refine bl_drew ?_) | (with_reducible refine bl_then ?_ (by with_reducible assumption))))⟩
theorem own_walk (p : Int) (a : Arr) (A : Option Addr) (c : Nat) (f0 : Fits a.l0) (f1 : Fits a.l1) (hx : ∀ x ∈ a.xs, Fits x) (w : World) (hs : Sl w A a.xs) :
    Calls Try.prog 10 #[.int .i64 p, .agg #[.int .i64 a.k, .int .i64 a.r, .int .i64 a.l0, .int .i64 a.l1, .slice A a.xs.length c]] w fun e w' => e = .returned (.bool true) ∧ Below w.heap.size w w' := by
  by_cases h : 405 < a.xs.length
  · exact own_far p a A c w h
  · exact own_near p a A c f0 f1 hx w hs h
end Ar
end Go.Proofs.Ytfpnafeildigaaa
