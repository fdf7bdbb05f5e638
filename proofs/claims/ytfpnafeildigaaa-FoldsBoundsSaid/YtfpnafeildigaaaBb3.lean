/-
The walks of ExtendOnes and ExtendTwos (chapter 10).
-/
import Derived.Test.YtfpnafeildigaaaArAx
import Derived.Test.YtfpnafeildigaaaBa6
import Derived.Laws.OwnMore
set_option linter.unusedSimpArgs false
set_option linter.unusedVariables false
namespace Go.Proofs.Ytfpnafeildigaaa
namespace Ar
open Go.RowKit Sc
theorem same_refl (a : Arr) : same a a = true := by unfold same like; simp
theorem same_yes (e : Int) (a : Arr) : (e == e && same a a) = true := by rw [same_refl]; simp
theorem extOne_len (p : Int) (a : Arr) : (extOne p a).2.xs.length ≤ a.xs.length := by
  unfold extOne
  split
  · exact Nat.zero_le _
  split
  · exact Nat.zero_le _
  split
  · exact Nat.zero_le _
  split
  · exact Nat.zero_le _
  · rename_i h
    have h' : (mapE (one p) a.xs).1 = 0 := by simpa using h
    rw [mapE_len (show mapE (one p) a.xs = (0, (mapE (one p) a.xs).2) by rw [← h'])]
    exact Nat.le_refl _
theorem extTwo_len (p : Int) (a b : Arr) : (extTwo p a b).2.xs.length ≤ a.xs.length + b.xs.length := by
  unfold extTwo
  split
  · exact Nat.zero_le _
  split
  · exact Nat.zero_le _
  split
  · exact Nat.zero_le _
  split
  · exact Nat.zero_le _
  split
  · exact Nat.zero_le _
  · rename_i h4 h
    have h' : (mapP (fun q : Int × Int => two p q.1 q.2) (pairs a b)).1 = 0 := by simpa using h
    show (mapP _ _).2.length ≤ _
    rw [mapP_len (show mapP (fun q : Int × Int => two p q.1 q.2) (pairs a b) = (0, (mapP (fun q : Int × Int => two p q.1 q.2) (pairs a b)).2) by rw [← h']), pairs_len (by simpa using h4)]
    unfold many
    split <;> omega
theorem far_yes {a : Arr} (h : 405 < a.xs.length) : decide (405 < (a.xs.length : Int)) = true := by simp; omega
theorem far_no {a : Arr} (h : ¬ 405 < a.xs.length) : decide (405 < (a.xs.length : Int)) = false := by simp; omega
set_option maxHeartbeats 1000000 in
theorem ones_walk (p : Int) (a : Arr) (A : Option Addr) (c : Nat) (f0 : Fits a.l0) (f1 : Fits a.l1) (hx : ∀ x ∈ a.xs, Fits x) (w : World) (hs : Sl w A a.xs) :
    Calls Try.prog 3 #[.int .i64 p, .agg #[.int .i64 a.k, .int .i64 a.r, .int .i64 a.l0, .int .i64 a.l1, .slice A a.xs.length c]] w fun e w' => e = .returned (.bool true) ∧ Below w.heap.size w w' := by
  by_cases h : 405 < a.xs.length
  · have HF := hide (far_yes h)
    clear h hx
    go_enter Try.func3, Try.ntmps3
    go_wp2_with fail
    refine (far_any a A c _).mono ?_
    rw [HF.out]
    rintro e w1 ⟨rfl, hg1⟩
    go_wp2_with fail
    refine (awake10 _).mono ?_
    rintro e w2 ⟨rfl, hg2⟩
    go_wp2
    go_ret
    exact ⟨rfl, by (repeat (first | with_reducible exact Below.refl _ _ | with_reducible assumption | (with_reducible refine bl_set ?_ (by simp; try omega) _) | (with_reducible refine bl_alloc ?_ _) | (with_reducible refine bl_dn ?_ _) | (with_reducible refine bl_drew ?_) | (with_reducible refine bl_then ?_ (by with_reducible assumption))))⟩
  · have HF := hide (far_no h)
    have HL : Hid (a.xs.length ≤ 405) := by show _ ≤ _; omega
    have HX := hide hx
    obtain ⟨er, R, hR⟩ : ∃ er R, extOne p a = (er, R) := ⟨_, _, rfl⟩
    have HR : Hid (R.xs.length ≤ 405) := by show _ ≤ _; have := extOne_len p a; rw [hR] at this; exact Nat.le_trans this HL.out
    have HE := hide hR
    clear h hx hR
    go_enter Try.func3, Try.ntmps3
    go_wp2_with fail
    refine (far_any a A c _).mono ?_
    rw [HF.out]
    rintro e w1 ⟨rfl, hg1⟩
    obtain ⟨hc1, hf1, hz1⟩ := bcell hg1
    (have zw1 : w.heap.size < w1.heap.size := by have := hg1.size; simp at this; omega)
    go_wp2_with fail
    refine (one_any p a A c (by have := HL.out; omega) f0 f1 HX.out _ (hs.below (by (repeat (first | with_reducible exact Below.refl _ _ | with_reducible assumption | (with_reducible refine bl_set ?_ (by simp; try omega) _) | (with_reducible refine bl_alloc ?_ _) | (with_reducible refine bl_dn ?_ _) | (with_reducible refine bl_drew ?_) | (with_reducible refine bl_then ?_ (by with_reducible assumption))))))).mono ?_
    rw [HE.out]
    rintro e w2 ⟨hg2, B, cb, rfl, hsB, hgeB, hcpB⟩
    have hsB := hide hsB
    obtain ⟨hc2, hf2, hz2⟩ := bcell hg2
    (have zw2 : w.heap.size < w2.heap.size := by have := hg2.size; omega)
    go_wp2_with fail
    refine (rone_any p a A c (by have := HL.out; omega) f0 f1 HX.out _ (hs.below (by (repeat (first | with_reducible exact Below.refl _ _ | with_reducible assumption | (with_reducible refine bl_set ?_ (by simp; try omega) _) | (with_reducible refine bl_alloc ?_ _) | (with_reducible refine bl_dn ?_ _) | (with_reducible refine bl_drew ?_) | (with_reducible refine bl_then ?_ (by with_reducible assumption))))))).mono ?_
    rw [HE.out]
    rintro e w3 ⟨hg3, C, cc, rfl, hsC, hgeC, hcpC⟩
    have hsC := hide hsC
    obtain ⟨hc3, hf3, hz3⟩ := bcell hg3
    (have zw3 : w2.heap.size < w3.heap.size := by have := hg3.size; simp at this; omega)
    go_wp2_with fail
    refine (alike_any R R B C cb cc er er (by have := HR.out; omega) (by have := HR.out; omega) _ (hsB.out.below (by (repeat (first | with_reducible exact Below.refl _ _ | with_reducible assumption | (with_reducible refine bl_set ?_ (by simp; try omega) _) | (with_reducible refine bl_alloc ?_ _) | (with_reducible refine bl_dn ?_ _) | (with_reducible refine bl_drew ?_) | (with_reducible refine bl_then ?_ (by with_reducible assumption)))))) (hsC.out.below (by (repeat (first | with_reducible exact Below.refl _ _ | with_reducible assumption | (with_reducible refine bl_set ?_ (by simp; try omega) _) | (with_reducible refine bl_alloc ?_ _) | (with_reducible refine bl_dn ?_ _) | (with_reducible refine bl_drew ?_) | (with_reducible refine bl_then ?_ (by with_reducible assumption))))))).mono ?_
    rw [same_yes]
    rintro e w4 ⟨rfl, hg4⟩
    go_wp2_with fail
    refine (awake10 _).mono ?_
    rintro e w5 ⟨rfl, hg5⟩
    go_wp2
    go_ret
    exact ⟨rfl, by (repeat (first | with_reducible exact Below.refl _ _ | with_reducible assumption | (with_reducible refine bl_set ?_ (by simp; try omega) _) | (with_reducible refine bl_alloc ?_ _) | (with_reducible refine bl_dn ?_ _) | (with_reducible refine bl_drew ?_) | (with_reducible refine bl_then ?_ (by with_reducible assumption))))⟩
end Ar
end Go.Proofs.Ytfpnafeildigaaa
/-
Rows of one's own that are written into; a world that changed between two blocks alone (for every seat).
-/
set_option linter.unusedSimpArgs false
set_option linter.unusedVariables false
namespace Go.Proofs.Ytfpnafeildigaaa
namespace Ar
open Go.RowKit Sc

/-- w is a but for the blocks from lo to hi, and what is new -/
def Off (lo hi : Nat) (a w : World) : Prop :=
  w.os = a.os ∧ w.tape = a.tape ∧ w.output = a.output ∧ a.heap.size ≤ w.heap.size ∧ ∀ k, k < a.heap.size → k < lo ∨ hi ≤ k → w.heap[k]? = a.heap[k]?
theorem Off.refl (lo hi : Nat) (a : World) : Off lo hi a a := ⟨rfl, rfl, rfl, Nat.le_refl _, fun _ _ _ => rfl⟩
theorem Off.then {lo hi : Nat} {a w w' : World} (h : Off lo hi a w) (hb : Below w.heap.size w w') : Off lo hi a w' :=
  ⟨hb.os.trans h.1, hb.tape.trans h.2.1, hb.output.trans h.2.2.1, Nat.le_trans h.2.2.2.1 hb.size, fun k hk hr => (hb.block k (Nat.lt_of_lt_of_le hk h.2.2.2.1)).trans (h.2.2.2.2 k hk hr)⟩
theorem Off.set {lo hi : Nat} {a w : World} (h : Off lo hi a w) {q : Addr} (h1 : lo ≤ q.block) (h2 : q.block < hi) (u : Value) : Off lo hi a (w.setCell q u) :=
  ⟨h.1, h.2.1, h.2.2.1, by simpa [World.setCell] using h.2.2.2.1, fun k hk hr => (Below.heap_setCell w q u k (by rintro rfl; omega)).trans (h.2.2.2.2 k hk hr)⟩
theorem Off.cell {lo hi : Nat} {a w : World} (h : Off lo hi a w) {b : Nat} (o : Nat) (hb : b < a.heap.size) (hr : b < lo ∨ hi ≤ b) : w.cell? ⟨b, o, none⟩ = a.cell? ⟨b, o, none⟩ := World.cell?_of_block (h.2.2.2.2 b hb hr)
theorem Off.fro {lo hi : Nat} {a w : World} (h : Off lo hi a w) {b : Nat} (o : Nat) (hb : b < a.heap.size) (hr : b < lo ∨ hi ≤ b) : w.frozen? ⟨b, o, none⟩ = a.frozen? ⟨b, o, none⟩ := World.frozen?_of_block (h.2.2.2.2 b hb hr)
theorem Off.base {lo hi : Nat} {a w x : World} {B : Nat} (h : Off lo hi a w) (hx : Below B x a) (hB : B ≤ lo) (hl : B ≤ a.heap.size) : Below B x w :=
  ⟨h.1.trans hx.os, h.2.1.trans hx.tape, h.2.2.1.trans hx.output, Nat.le_trans hx.size h.2.2.2.1, fun k hk => (h.2.2.2.2 k (by omega) (.inl (by omega))).trans (hx.block k hk)⟩
theorem Off.arr {lo hi : Nat} {a w : World} (h : Off lo hi a w) {g : Nat} {x0 x1 x2 x3 x4 : Value} (h5 : Arr5 a g x0 x1 x2 x3 x4) (hr : g < lo ∨ hi ≤ g) : Arr5 w g x0 x1 x2 x3 x4 := by
  obtain ⟨h1, h2, h3, h4, h5⟩ := h5
  have hl := block_lt_of_cell h1
  exact ⟨(h.cell 0 hl hr).trans h1, (h.cell 1 hl hr).trans h2, (h.cell 2 hl hr).trans h3, (h.cell 3 hl hr).trans h4, (h.cell 4 hl hr).trans h5⟩
theorem Off.sl {lo hi : Nat} {a w : World} (h : Off lo hi a w) {A : Option Addr} {xs : List Int} (hs : Sl a A xs) (hr : ∀ g o, A = some ⟨g, o, none⟩ → g < lo ∨ hi ≤ g) : Sl w A xs := fun hn => by
  obtain ⟨b, o, e, hl, hc⟩ := hs hn
  exact ⟨b, o, e, Nat.lt_of_lt_of_le hl h.2.2.2.1, fun j hj => (h.cell (o + j) hl (hr b o e)).trans (hc j hj)⟩
theorem Off.drew {lo hi : Nat} {a w : World} (h : Off lo hi a w) : Off lo hi a w.drew := ⟨h.1, h.2.1, h.2.2.1, h.2.2.2.1, h.2.2.2.2⟩
/-- the number at a place of a row of one's own, and what a store there leaves -/
theorem Acc.place {w : World} {base n k : Nat} {V : Option Addr} {c : Nat} {ys : List Int} (h : Acc w base (.slice V n c) ys) (hn : ys.length = n) (hk : k < n) :
    ∃ (g : Nat) (y : Int), V = some ⟨g, 0, none⟩ ∧ base ≤ g ∧ g < w.heap.size ∧ w.cell? ⟨g, k, none⟩ = some (.int .i64 y) ∧ Hid (ys.getD k 0 = y) ∧ w.frozen? ⟨g, k, none⟩ = false ∧
      ∀ z : Int, Acc (w.setCell ⟨g, k, none⟩ (.int .i64 z)) base (.slice V n c) (ys.set k z) := by
  subst hn
  obtain ⟨g, cap, e, hb, hlt⟩ := World.ownsRow.form h (by omega)
  injection e with e1 e2 e3
  subst e1 e3
  refine ⟨g, ys.getD k 0, rfl, hb, hlt, ?_, rfl, World.ownsRow.frozenAt h k, fun z => ?_⟩
  · rw [World.ownsRow.cellAt h k (by omega)]
    simp [List.getD_eq_getElem?_getD, List.getElem?_eq_getElem hk]
  · have := (World.ownsRow.stored h k (.int .i64 z)).1
    unfold Acc
    rw [List.length_set, List.map_set]
    exact this
/-- what a store into a row of one's own of numbers leaves, if the number isn't looked at -/
theorem acc_lt {w : World} {base : Nat} {V : Option Addr} {n c : Nat} {ys : List Int} (h : Acc w base (.slice V n c) ys) : ∀ g o, V = some ⟨g, o, none⟩ → base ≤ g ∧ g < w.heap.size := fun g o e => by
  subst e; exact World.ownsRow.lt h g rfl
end Ar
end Go.Proofs.Ytfpnafeildigaaa
/-
The walk of ExtendTwos (chapter 10).
-/
set_option linter.unusedSimpArgs false
set_option linter.unusedVariables false
namespace Go.Proofs.Ytfpnafeildigaaa
namespace Ar
open Go.RowKit Sc
theorem extLens_any (a b : Arr) : ∃ er r l0 l1, extLens a b = (er, r, l0, l1) := ⟨_, _, _, _, rfl⟩
set_option maxHeartbeats 1000000 in
theorem twos_far (p : Int) (a b : Arr) (A B : Option Addr) (c d : Nat) (w : World) (h : 405 < a.xs.length ∨ 405 < b.xs.length) :
    Calls Try.prog 4 #[.int .i64 p, .agg #[.int .i64 a.k, .int .i64 a.r, .int .i64 a.l0, .int .i64 a.l1, .slice A a.xs.length c], .agg #[.int .i64 b.k, .int .i64 b.r, .int .i64 b.l0, .int .i64 b.l1, .slice B b.xs.length d]] w fun e w' => e = .returned (.bool true) ∧ Below w.heap.size w w' := by
  by_cases ha : 405 < a.xs.length
  · have HF := hide (far_yes ha)
    clear h ha
    go_enter Try.func4, Try.ntmps4
    go_wp2_with fail
    refine (far_any a A c _).mono ?_
    rw [HF.out]
    rintro e w1 ⟨rfl, hg1⟩
    go_wp2_with fail
    refine (awake10 _).mono ?_
    rintro e w2 ⟨rfl, hg2⟩
    go_wp2
    go_ret
    exact ⟨rfl, by (repeat (first | with_reducible exact Below.refl _ _ | with_reducible assumption | (with_reducible refine bl_set ?_ (by simp; try omega) _) | (with_reducible refine bl_alloc ?_ _) | (with_reducible refine bl_dn ?_ _) | (with_reducible refine bl_drew ?_) | (with_reducible refine bl_then ?_ (by with_reducible assumption))))⟩
  · have HF := hide (far_no ha)
    have HG := hide (far_yes (a := b) (by omega))
    clear h ha
    go_enter Try.func4, Try.ntmps4
    go_wp2_with fail
    refine (far_any a A c _).mono ?_
    rw [HF.out]
    rintro e w1 ⟨rfl, hg1⟩
    obtain ⟨hc1, hf1, hz1⟩ := bcell hg1
    (have z0_w1 : w.heap.size < w1.heap.size := by have := hg1.size; simp at this; omega); (have z1_w1 : w.heap.size + 1 < w1.heap.size := by have := hg1.size; simp at this; omega)
    go_wp2_with fail
    refine (far_any b B d _).mono ?_
    rw [HG.out]
    rintro e w2 ⟨rfl, hg2⟩
    go_wp2_with fail
    refine (awake10 _).mono ?_
    rintro e w3 ⟨rfl, hg3⟩
    go_wp2
    go_ret
    exact ⟨rfl, by (repeat (first | with_reducible exact Below.refl _ _ | with_reducible assumption | (with_reducible refine bl_set ?_ (by simp; try omega) _) | (with_reducible refine bl_alloc ?_ _) | (with_reducible refine bl_dn ?_ _) | (with_reducible refine bl_drew ?_) | (with_reducible refine bl_then ?_ (by with_reducible assumption))))⟩
set_option maxRecDepth 100000 in
set_option maxHeartbeats 2000000 in
theorem twos_near (p : Int) (a b : Arr) (A B : Option Addr) (c d : Nat) (f0 : Fits a.l0) (f1 : Fits a.l1) (hx : ∀ x ∈ a.xs, Fits x) (g0 : Fits b.l0) (g1 : Fits b.l1) (hy : ∀ x ∈ b.xs, Fits x) (h : ¬ 405 < a.xs.length) (h2 : ¬ 405 < b.xs.length) (w : World) (hs : Sl w A a.xs) (ht : Sl w B b.xs) :
    Calls Try.prog 4 #[.int .i64 p, .agg #[.int .i64 a.k, .int .i64 a.r, .int .i64 a.l0, .int .i64 a.l1, .slice A a.xs.length c], .agg #[.int .i64 b.k, .int .i64 b.r, .int .i64 b.l0, .int .i64 b.l1, .slice B b.xs.length d]] w fun e w' => e = .returned (.bool true) ∧ Below w.heap.size w w' := by
  have HF := hide (far_no h)
  have HG := hide (far_no h2)
  have HL : Hid (a.xs.length ≤ 405) := by show _ ≤ _; omega
  have HM : Hid (b.xs.length ≤ 405) := by show _ ≤ _; omega
  have HX := hide hx
  have HY := hide hy
  obtain ⟨er, R, hR⟩ : ∃ er R, extTwo p a b = (er, R) := ⟨_, _, rfl⟩
  have HR : Hid (R.xs.length ≤ 810) := by show _ ≤ _; have hh := extTwo_len p a b; rw [hR] at hh; have := HL.out; have := HM.out; exact Nat.le_trans hh (by omega)
  have HE := hide hR
  obtain ⟨el, r, l0, l1, hN⟩ := extLens_any a b
  have HN := hide hN
  have heq := fun (p q r s : Int) (w : World) => eql_lens p q r s w
  clear h h2 hx hy hR hN
  go_enter Try.func4, Try.ntmps4
  go_wp2_with fail
  refine (far_any a A c _).mono ?_
  rw [HF.out]
  rintro e w1 ⟨rfl, hg1⟩
  obtain ⟨hc1, hf1, hz1⟩ := bcell hg1
  (have z0_w1 : w.heap.size < w1.heap.size := by have := hg1.size; simp at this; omega); (have z1_w1 : w.heap.size + 1 < w1.heap.size := by have := hg1.size; simp at this; omega)
  go_wp2_with fail
  refine (far_any b B d _).mono ?_
  rw [HG.out]
  rintro e w2 ⟨rfl, hg2⟩
  obtain ⟨hc2, hf2, hz2⟩ := bcell hg2
  (have u0 : w.heap.size < w2.heap.size := by omega); (have u1 : w.heap.size + 1 < w2.heap.size := by omega)
  go_wp2_with fail
  refine (two_any p a b A B c d (by have := HL.out; omega) f0 f1 (by have := HM.out; omega) g0 g1 HX.out HY.out _ (hs.below (by (repeat (first | with_reducible exact Below.refl _ _ | with_reducible assumption | (with_reducible refine bl_set ?_ (by simp; try omega) _) | (with_reducible refine bl_alloc ?_ _) | (with_reducible refine bl_dn ?_ _) | (with_reducible refine bl_drew ?_) | (with_reducible refine bl_then ?_ (by with_reducible assumption)))))) (ht.below (by (repeat (first | with_reducible exact Below.refl _ _ | with_reducible assumption | (with_reducible refine bl_set ?_ (by simp; try omega) _) | (with_reducible refine bl_alloc ?_ _) | (with_reducible refine bl_dn ?_ _) | (with_reducible refine bl_drew ?_) | (with_reducible refine bl_then ?_ (by with_reducible assumption))))))).mono ?_
  rw [HE.out]
  rintro e w3 ⟨hg3, C, cc, rfl, hsC, hgeC, hcpC⟩
  have hsC := hide hsC
  obtain ⟨hc3, hf3, hz3⟩ := bcell hg3
  (have v0 : w.heap.size < w3.heap.size := by omega); (have v1 : w.heap.size + 1 < w3.heap.size := by omega)
  go_wp2_with fail
  refine (rtwo_any p a b A B c d (by have := HL.out; omega) f0 f1 (by have := HM.out; omega) g0 g1 HX.out HY.out _ (hs.below (by (repeat (first | with_reducible exact Below.refl _ _ | with_reducible assumption | (with_reducible refine bl_set ?_ (by simp; try omega) _) | (with_reducible refine bl_alloc ?_ _) | (with_reducible refine bl_dn ?_ _) | (with_reducible refine bl_drew ?_) | (with_reducible refine bl_then ?_ (by with_reducible assumption)))))) (ht.below (by (repeat (first | with_reducible exact Below.refl _ _ | with_reducible assumption | (with_reducible refine bl_set ?_ (by simp; try omega) _) | (with_reducible refine bl_alloc ?_ _) | (with_reducible refine bl_dn ?_ _) | (with_reducible refine bl_drew ?_) | (with_reducible refine bl_then ?_ (by with_reducible assumption))))))).mono ?_
  rw [HE.out]
  rintro e w4 ⟨hg4, D, cd, rfl, hsD, hgeD, hcpD⟩
  have hsD := hide hsD
  obtain ⟨hc4, hf4, hz4⟩ := bcell hg4
  (have y3 : w3.heap.size < w4.heap.size := by have := hg4.size; simp at this; omega)
  (have y0 : w.heap.size < w4.heap.size := by omega); (have y1 : w.heap.size + 1 < w4.heap.size := by omega)
  go_wp2_with fail
  refine (lens_any a A c (by have := HL.out; omega) f0 f1 b B d (by have := HM.out; omega) g0 g1 _ (hs.below (by (repeat (first | with_reducible exact Below.refl _ _ | with_reducible assumption | (with_reducible refine bl_set ?_ (by simp; try omega) _) | (with_reducible refine bl_alloc ?_ _) | (with_reducible refine bl_dn ?_ _) | (with_reducible refine bl_drew ?_) | (with_reducible refine bl_then ?_ (by with_reducible assumption)))))) (ht.below (by (repeat (first | with_reducible exact Below.refl _ _ | with_reducible assumption | (with_reducible refine bl_set ?_ (by simp; try omega) _) | (with_reducible refine bl_alloc ?_ _) | (with_reducible refine bl_dn ?_ _) | (with_reducible refine bl_drew ?_) | (with_reducible refine bl_then ?_ (by with_reducible assumption))))))).mono ?_
  rw [HN.out]
  rintro e w5 ⟨rfl, hg5⟩
  obtain ⟨hc5, hf5, hz5⟩ := bcell hg5
  (have x4 : w4.heap.size < w5.heap.size := by have := hg5.size; simp at this; omega)
  (have x3 : w3.heap.size < w5.heap.size := by omega); (have x0 : w.heap.size < w5.heap.size := by omega); (have x1 : w.heap.size + 1 < w5.heap.size := by omega)
  go_wp2_with fail
  refine (rlens_any a A c (by have := HL.out; omega) f0 f1 b B d (by have := HM.out; omega) g0 g1 _ (hs.below (by (repeat (first | with_reducible exact Below.refl _ _ | with_reducible assumption | (with_reducible refine bl_set ?_ (by simp; try omega) _) | (with_reducible refine bl_alloc ?_ _) | (with_reducible refine bl_dn ?_ _) | (with_reducible refine bl_drew ?_) | (with_reducible refine bl_then ?_ (by with_reducible assumption)))))) (ht.below (by (repeat (first | with_reducible exact Below.refl _ _ | with_reducible assumption | (with_reducible refine bl_set ?_ (by simp; try omega) _) | (with_reducible refine bl_alloc ?_ _) | (with_reducible refine bl_dn ?_ _) | (with_reducible refine bl_drew ?_) | (with_reducible refine bl_then ?_ (by with_reducible assumption))))))).mono ?_
  rw [HN.out]
  rintro e w6 ⟨rfl, hg6⟩
  obtain ⟨hc6, hf6, hz6⟩ := bcell hg6
  (have q5 : w5.heap.size < w6.heap.size := by have := hg6.size; simp at this; omega)
  (have q4 : w4.heap.size < w6.heap.size := by omega); (have q3 : w3.heap.size < w6.heap.size := by omega)
  go_wp2_with fail
  refine (alike_any R R C D cc cd er er (by have := HR.out; omega) (by have := HR.out; omega) _ (hsC.out.below (by (repeat (first | with_reducible exact Below.refl _ _ | with_reducible assumption | (with_reducible refine bl_set ?_ (by simp; try omega) _) | (with_reducible refine bl_alloc ?_ _) | (with_reducible refine bl_dn ?_ _) | (with_reducible refine bl_drew ?_) | (with_reducible refine bl_then ?_ (by with_reducible assumption)))))) (hsD.out.below (by (repeat (first | with_reducible exact Below.refl _ _ | with_reducible assumption | (with_reducible refine bl_set ?_ (by simp; try omega) _) | (with_reducible refine bl_alloc ?_ _) | (with_reducible refine bl_dn ?_ _) | (with_reducible refine bl_drew ?_) | (with_reducible refine bl_then ?_ (by with_reducible assumption))))))).mono ?_
  rw [same_yes]
  rintro e w7 ⟨rfl, hg7⟩
  obtain ⟨hc7, hf7, hz7⟩ := bcell hg7
  (have k5 : w5.heap.size < w7.heap.size := by have := hg7.size; simp at this; omega)
  (have k6 : w6.heap.size < w7.heap.size := by have := hg7.size; simp at this; omega)
  go_wp2_with fail
  refine (awake10 _).mono ?_
  rintro e w8 ⟨rfl, hg8⟩
  go_wp2
  go_ret
  exact ⟨rfl, by (repeat (first | with_reducible exact Below.refl _ _ | with_reducible assumption | (with_reducible refine bl_set ?_ (by simp; try omega) _) | (with_reducible refine bl_alloc ?_ _) | (with_reducible refine bl_dn ?_ _) | (with_reducible refine bl_drew ?_) | (with_reducible refine bl_then ?_ (by with_reducible assumption))))⟩
theorem twos_walk (p : Int) (a b : Arr) (A B : Option Addr) (c d : Nat) (f0 : Fits a.l0) (f1 : Fits a.l1) (hx : ∀ x ∈ a.xs, Fits x) (g0 : Fits b.l0) (g1 : Fits b.l1) (hy : ∀ x ∈ b.xs, Fits x) (w : World) (hs : Sl w A a.xs) (ht : Sl w B b.xs) :
    Calls Try.prog 4 #[.int .i64 p, .agg #[.int .i64 a.k, .int .i64 a.r, .int .i64 a.l0, .int .i64 a.l1, .slice A a.xs.length c], .agg #[.int .i64 b.k, .int .i64 b.r, .int .i64 b.l0, .int .i64 b.l1, .slice B b.xs.length d]] w fun e w' => e = .returned (.bool true) ∧ Below w.heap.size w w' := by
  by_cases h : 405 < a.xs.length ∨ 405 < b.xs.length
  · exact twos_far p a b A B c d w h
  · exact twos_near p a b A B c d f0 f1 hx g0 g1 hy (by omega) (by omega) w hs ht
end Ar
end Go.Proofs.Ytfpnafeildigaaa
/-
Words for a walk that holds many arrays in boxes (for every seat).
-/
set_option linter.unusedSimpArgs false
set_option linter.unusedVariables false
namespace Go.Proofs.Ytfpnafeildigaaa
namespace Ar
open Go.RowKit Sc

/-- an array in block g -/
def BoxAt (w : World) (g : Nat) (a : Arr) (A : Option Addr) (c : Nat) : Prop :=
  Arr5 w g (.int .i64 a.k) (.int .i64 a.r) (.int .i64 a.l0) (.int .i64 a.l1) (.slice A a.xs.length c) ∧ Sl w A a.xs ∧ g < w.heap.size
theorem BoxAt.below {w w' : World} {g : Nat} {a : Arr} {A : Option Addr} {c : Nat} (h : BoxAt w g a A c) (hb : Below w.heap.size w w') : BoxAt w' g a A c :=
  ⟨h.1.below hb, h.2.1.below hb, Nat.lt_of_lt_of_le h.2.2 hb.size⟩
theorem arr5_new (w : World) (k r l0 l1 : Int) (A : Option Addr) (n c : Nat) (t : TypeId) : Arr5 (w.alloc (.cells #[.int .i64 k, .int .i64 r, .int .i64 l0, .int .i64 l1, .slice A n c] t)) w.heap.size (.int .i64 k) (.int .i64 r) (.int .i64 l0) (.int .i64 l1) (.slice A n c) :=
  ⟨by simp [go_sem], by simp [go_sem], by simp [go_sem], by simp [go_sem], by simp [go_sem]⟩
theorem bl_new (w : World) (o : Obj) : Below w.heap.size w (w.alloc o) := (Below.refl _ _).alloc (Nat.le_refl _) o
theorem BoxAt.new {w : World} {a : Arr} {A : Option Addr} {c : Nat} (hs : Sl w A a.xs) (t : TypeId) : BoxAt (w.alloc (.cells #[.int .i64 a.k, .int .i64 a.r, .int .i64 a.l0, .int .i64 a.l1, .slice A a.xs.length c] t)) w.heap.size a A c :=
  ⟨arr5_new _ _ _ _ _ _ _ _ _, hs.below (bl_new _ _), by simp⟩
def Boxes (w : World) : List (Nat × Arr × Option Addr × Nat) → Prop
  | [] => True
  | (g, a, A, c) :: l => BoxAt w g a A c ∧ Boxes w l
theorem Boxes.below {w w' : World} : ∀ {l : List (Nat × Arr × Option Addr × Nat)}, Boxes w l → Below w.heap.size w w' → Boxes w' l
  | [], _, _ => trivial
  | (_, _, _, _) :: _, h, hb => ⟨h.1.below hb, Boxes.below h.2 hb⟩
/-- what a walk holds: the world it began with is kept, and arrays lie in blocks -/
def St (w wx : World) (l : List (Nat × Arr × Option Addr × Nat)) : Prop := Below w.heap.size w wx ∧ Boxes wx l
theorem St.init (w : World) : St w w [] := ⟨Below.refl _ _, trivial⟩
theorem St.below {w wx wy : World} {l : List (Nat × Arr × Option Addr × Nat)} (h : St w wx l) (hb : Below wx.heap.size wx wy) : St w wy l := ⟨bl_then h.1 hb, h.2.below hb⟩
theorem St.alloc {w wx : World} {l : List (Nat × Arr × Option Addr × Nat)} (h : St w wx l) (o : Obj) : St w (wx.alloc o) l := h.below (bl_new _ _)
theorem St.box {w wx : World} {l : List (Nat × Arr × Option Addr × Nat)} (h : St w wx l) {a : Arr} {A : Option Addr} (c : Nat) (hs : Sl wx A a.xs) (t : TypeId := 25) :
    St w (wx.alloc (.cells #[.int .i64 a.k, .int .i64 a.r, .int .i64 a.l0, .int .i64 a.l1, .slice A a.xs.length c] t)) ((wx.heap.size, a, A, c) :: l) :=
  ⟨bl_then h.1 (bl_new _ _), BoxAt.new hs t, h.2.below (bl_new _ _)⟩
/-- a call has answered with an array, which was put into a block; then another call has been made -/
theorem St.push {w wx wy : World} {l : List (Nat × Arr × Option Addr × Nat)} (h : St w wx l) {a : Arr} {A : Option Addr} {c : Nat} (hs : Sl wx A a.xs) {t : TypeId}
    (hb : Below (wx.alloc (.cells #[.int .i64 a.k, .int .i64 a.r, .int .i64 a.l0, .int .i64 a.l1, .slice A a.xs.length c] t)).heap.size (wx.alloc (.cells #[.int .i64 a.k, .int .i64 a.r, .int .i64 a.l0, .int .i64 a.l1, .slice A a.xs.length c] t)) wy) :
    St w wy ((wx.heap.size, a, A, c) :: l) := (h.box c hs t).below hb
theorem St.off {w wx wy : World} {l : List (Nat × Arr × Option Addr × Nat)} {lo hi : Nat} (h : St w wx l) (ho : Off lo hi wx wy) (hlo : w.heap.size ≤ lo)
    (hl : ∀ e ∈ l, (e.1 < lo ∨ hi ≤ e.1) ∧ ∀ g o, e.2.2.1 = some ⟨g, o, none⟩ → g < lo ∨ hi ≤ g) : St w wy l := by
  refine ⟨ho.base h.1 hlo h.1.size, ?_⟩
  obtain ⟨_, h⟩ := h
  induction l with
  | nil => trivial
  | cons e l ih =>
    obtain ⟨⟨h1, h2, h3⟩, h4⟩ := h
    exact ⟨⟨ho.arr h1 (hl e (by simp)).1, ho.sl h2 (hl e (by simp)).2, Nat.lt_of_lt_of_le h3 ho.2.2.2.1⟩, ih (fun e' he => hl e' (by simp [he])) h4⟩
theorem acc_sl {w : World} {base n c : Nat} {V : Option Addr} {ys : List Int} (h : Acc w base (.slice V n c) ys) : Sl w V ys := by
  obtain ⟨A, c', e, hs, _⟩ := h.sl
  injection e with e1 e2 e3
  subst e1
  exact hs
end Ar
end Go.Proofs.Ytfpnafeildigaaa
/-
The plain law of ExtendScalars (chapter 10): a scalar is as the array of its copies.
-/
set_option linter.unusedSimpArgs false
set_option linter.unusedVariables false
namespace Go.Proofs.Ytfpnafeildigaaa
namespace Ar
open Go.RowKit Sc
def scalar (k x : Int) : Arr := ⟨k, 0, 0, 0, [x]⟩
def copies (a : Arr) (x : Int) : Arr := ⟨a.k, a.r, a.l0, a.l1, List.replicate a.xs.length x⟩
theorem chk_copies {a : Arr} {x : Int} (ca : chk a = 0) (cs : chk (scalar a.k x) = 0) : chk (copies a x) = 0 := by
  obtain ⟨s1, n1⟩ := chk_sh ca
  unfold chk scalar at cs
  unfold chk copies
  by_cases k : a.k ≠ 1 ∧ a.k ≠ 2
  · rw [if_pos k] at cs; cases cs
  rw [if_neg k, if_neg (by simpa using s1), if_neg (by simp only [List.length_replicate]; simpa using n1)]
  rw [if_neg k, if_neg (by simp; rfl), if_neg (by simp; rfl)] at cs
  by_cases r : a.k = 2 ∧ [x].any (fun c => !isRune c) = true
  · rw [if_pos r] at cs; cases cs
  · rw [if_neg]
    rintro ⟨k2, h⟩
    apply r
    refine ⟨k2, ?_⟩
    rw [List.any_eq_true] at h
    obtain ⟨y, hy, h⟩ := h
    rw [(List.mem_replicate.1 hy).2] at h
    simpa using h
theorem lens_if {a b : Arr} (ca : chk a = 0) (cb : chk b = 0) : extLens a b = if a.r = 0 then (0, b.r, b.l0, b.l1) else if b.r = 0 then (0, a.r, a.l0, a.l1)
    else if a.r ≠ b.r then (22, 0, 0, 0) else if a.l0 ≠ b.l0 ∨ a.l1 ≠ b.l1 then (11, 0, 0, 0) else (0, a.r, a.l0, a.l1) := if_neg (by rw [chk2_ok ca, cb]; simp)
theorem zip_rep (x : Int) : ∀ xs : List Int, xs.zip (List.replicate xs.length x) = xs.map (fun y => (y, x))
  | [] => rfl
  | y :: xs => by simp [List.replicate_succ, zip_rep x xs]
theorem rep_zip (x : Int) : ∀ xs : List Int, (List.replicate xs.length x).zip xs = xs.map (fun y => (x, y))
  | [] => rfl
  | y :: xs => by simp [List.replicate_succ, rep_zip x xs]
theorem ext_same {p : Int} {a b a' b' : Arr} (h1 : chk2 a b = chk2 a' b') (hk : kindsOk p a b = kindsOk p a' b') (hl : extLens a b = extLens a' b') (hp : pairs a b = pairs a' b') : extTwo p a b = extTwo p a' b' := by
  unfold extTwo
  rw [h1, hk, hl, hp]
theorem scal_right {p x : Int} {a : Arr} (ca : chk a = 0) (cs : chk (scalar a.k x) = 0) : extTwo p a (copies a x) = extTwo p a (scalar a.k x) := by
  have cc := chk_copies ca cs
  refine ext_same (by rw [chk2_ok ca, chk2_ok ca, cc, cs]) rfl ?_ ?_
  · rw [lens_if ca cc, lens_if ca cs]
    by_cases ha : a.r = 0
    · obtain ⟨e0, e1, _⟩ := chk_zero ca ha
      rw [if_pos ha, if_pos ha]
      show (0, a.r, a.l0, a.l1) = (0, 0, 0, 0)
      rw [ha, e0, e1]
    · rw [if_neg ha, if_neg ha, if_pos (show (scalar a.k x).r = 0 from rfl), if_neg (show ¬ (copies a x).r = 0 from ha), if_neg (by simp [copies]), if_neg (by simp [copies])]
  · unfold pairs
    by_cases ha : a.r = 0
    · have := (chk_zero ca ha).2.2
      rw [if_pos ha, if_pos ha]
      unfold copies scalar
      simp only [this]; rfl
    · rw [if_neg ha, if_neg ha, if_pos (show (scalar a.k x).r = 0 from rfl), if_neg (show ¬ (copies a x).r = 0 from ha)]
      exact zip_rep x a.xs
theorem scal_left {p x : Int} {a : Arr} (ca : chk a = 0) (cs : chk (scalar a.k x) = 0) : extTwo p (copies a x) a = extTwo p (scalar a.k x) a := by
  have cc := chk_copies ca cs
  refine ext_same (by rw [chk2_ok cc, chk2_ok cs]) rfl ?_ ?_
  · rw [lens_if cc ca, lens_if cs ca, if_pos (show (scalar a.k x).r = 0 from rfl)]
    by_cases ha : a.r = 0
    · rw [if_pos (show (copies a x).r = 0 from ha)]
    · rw [if_neg (show ¬ (copies a x).r = 0 from ha), if_neg ha, if_neg (by simp [copies]), if_neg (by simp [copies])]; rfl
  · unfold pairs
    rw [if_pos (show (scalar a.k x).r = 0 from rfl)]
    by_cases ha : a.r = 0
    · have := (chk_zero ca ha).2.2
      rw [if_pos (show (copies a x).r = 0 from ha)]
      unfold copies scalar
      simp only [this]; rfl
    · rw [if_neg (show ¬ (copies a x).r = 0 from ha), if_neg ha]
      exact rep_zip x a.xs
end Ar
end Go.Proofs.Ytfpnafeildigaaa
