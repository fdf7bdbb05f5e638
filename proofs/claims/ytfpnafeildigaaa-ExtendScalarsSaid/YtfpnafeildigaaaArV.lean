/-
extend.One where a cell has an error: its contract (chapter 10).
-/
import Derived.Test.YtfpnafeildigaaaArU
set_option linter.unusedSimpArgs false
set_option linter.unusedVariables false
namespace Go.Proofs.Ytfpnafeildigaaa
namespace Ar
open Go.RowKit Sc

/-- what is known where a region ends in a panic: the deferred calls, and two slots -/
def PanicPost (D : List Deferred) (x y : Nat) (p q : Value) (er : Int) (W : World) : Exit → Act → World → Prop
  | .panic c, a, w => c = [{ v := wrongV er, recovered := false }] ∧ a.defers = D ∧ a.tmps.getD x undef = p ∧ a.tmps.getD y undef = q ∧ Below W.heap.size W w
  | _, _, _ => False
theorem put_getD {T : Array Value} {d x : Nat} (v : Value) (h : d ≠ x) : (T.setIfInBounds d v).getD x undef = T.getD x undef := by
  simp [Array.getD_eq_getD_getElem?, Array.getElem?_setIfInBounds, h]
theorem PanicPost.put {D : List Deferred} {x y : Nat} {p q : Value} {er : Int} {W : World} {c : List PanicEntry} {a : Act} {d : Nat} {v : Value} {w : World} (hx : d ≠ x) (hy : d ≠ y)
    (h : PanicPost D x y p q er W (.panic c) (a.put (some d) v) w) : PanicPost D x y p q er W (.panic c) a w := by
  obtain ⟨h1, h2, h3, h4, h5⟩ := h
  exact ⟨h1, h2, (put_getD v hx).symm.trans h3, (put_getD v hy).symm.trans h4, h5⟩

/-- the object that does something with cells -/
abbrev oneObj (n : Nat) (P Q : Nat) : Obj := .cells #[.int .i64 n, .func (.func 61) #[] #[.pointer (some ⟨P, 0, none⟩), .pointer (some ⟨Q, 0, none⟩)]] 68

set_option maxRecDepth 100000 in
theorem one_fail (p : Int) (a : Arr) (A : Option Addr) (c : Nat) (hl : a.xs.length ≤ 100000) (f0 : Fits a.l0) (f1 : Fits a.l1) (hx : ∀ x ∈ a.xs, Fits x) (h : arity p = (1, 0)) (h2 : chk a = 0) (h3 : a.k = 1) (er : Int) (hm : (mapE (one p) a.xs).1 = er) (her : er ≠ 0) (w : World) (hs : Sl w A a.xs) :
    Calls Try.prog 21 #[.int .i64 p, .agg #[.int .i64 a.k, .int .i64 a.r, .int .i64 a.l0, .int .i64 a.l1, .slice A a.xs.length c]] w fun e w' => ArrRet w (er, .zero) e w' := by
  have n1 : (a.k != 1) = false := by rw [h3]; rfl
  have HC := hide h2
  have H := hide h
  have HM := hide hm
  have HX := hide hx
  have hl' := hide hl
  have HER := hide her
  clear h h2 h3 hm hx her
  have hl : a.xs.length ≤ 9223372036854775807 := by omega
  have hmf : ∀ (fn : Fn) (first cap : Array Value) (w : World), (Instr.makeFunc fn first cap).run Try.prog w = .ok (.func fn first cap) w := fun _ _ _ _ => rfl
  go_enter_defers Try.func21, Try.ntmps21
  go_wp2_with (first | (go_at_call 58; refine (arity_any p _).mono ?_; rw [H.out]; rintro e w1 ⟨rfl, hg⟩; obtain ⟨hc, hf, hz⟩ := bcell hg; (have zw10 : w.heap.size < w1.heap.size := by have := hg.size; simp at this; omega); (have zw11 : w.heap.size + 1 < w1.heap.size := by have := hg.size; simp at this; omega); (have zw12 : w.heap.size + 1 + 1 < w1.heap.size := by have := hg.size; simp at this; omega); (have zw13 : w.heap.size + 1 + 1 + 1 < w1.heap.size := by have := hg.size; simp at this; omega)) | (go_at_call 59; refine (ac_any a A c hl f0 f1 _ (hs.below (by (repeat (first | with_reducible exact Below.refl _ _ | with_reducible assumption | (with_reducible refine bl_set ?_ (by simp; try omega) _) | (with_reducible refine bl_alloc ?_ _) | (with_reducible refine bl_dn ?_ _) | (with_reducible refine bl_drew ?_) | (with_reducible refine bl_then ?_ (by with_reducible assumption))))))).mono ?_; rw [HC.out]; rintro e w2 ⟨rfl, hg2⟩; obtain ⟨hc2, hf2, hz2⟩ := bcell hg2; (have zw20 : w.heap.size < w2.heap.size := by have := Nat.le_trans hg.size hg2.size; simp at this; omega); (have zw21 : w.heap.size + 1 < w2.heap.size := by have := Nat.le_trans hg.size hg2.size; simp at this; omega); (have zw22 : w.heap.size + 1 + 1 < w2.heap.size := by have := Nat.le_trans hg.size hg2.size; simp at this; omega); (have zw23 : w.heap.size + 1 + 1 + 1 < w2.heap.size := by have := Nat.le_trans hg.size hg2.size; simp at this; omega)))
  have hP3 : Hid ((w2.alloc (oneObj a.xs.length w.heap.size (w.heap.size + 1))).cell? ⟨w.heap.size, 0, none⟩ = some (.int .i64 p)) := by show _ = _; simp [go_sem, hc, hc2, zw10, zw20]
  have hQ3 : Hid ((w2.alloc (oneObj a.xs.length w.heap.size (w.heap.size + 1))).cell? ⟨w.heap.size + 1, 4, none⟩ = some (.slice A a.xs.length c)) := by show _ = _; simp [go_sem, hc, hc2, zw11, zw21]
  have hS3 := hide (show Sl (w2.alloc (oneObj a.xs.length w.heap.size (w.heap.size + 1))) A a.xs from hs.below (by (repeat (first | with_reducible exact Below.refl _ _ | with_reducible assumption | (with_reducible refine bl_set ?_ (by simp; try omega) _) | (with_reducible refine bl_alloc ?_ _) | (with_reducible refine bl_dn ?_ _) | (with_reducible refine bl_drew ?_) | (with_reducible refine bl_then ?_ (by with_reducible assumption))))))
  have L1 : Hid ((w2.alloc (oneObj a.xs.length w.heap.size (w.heap.size + 1))).cell? ⟨w.heap.size + 1, 1, none⟩ = some (.int .i64 a.r)) := by show _ = _; simp [go_sem, hc, hc2, zw11, zw21]
  have L2 : Hid ((w2.alloc (oneObj a.xs.length w.heap.size (w.heap.size + 1))).cell? ⟨w.heap.size + 1, 2, none⟩ = some (.int .i64 a.l0)) := by show _ = _; simp [go_sem, hc, hc2, zw11, zw21]
  have L3 : Hid ((w2.alloc (oneObj a.xs.length w.heap.size (w.heap.size + 1))).cell? ⟨w.heap.size + 1, 3, none⟩ = some (.int .i64 a.l1)) := by show _ = _; simp [go_sem, hc, hc2, zw11, zw21]
  have L4 : Hid ((w2.alloc (oneObj a.xs.length w.heap.size (w.heap.size + 1))).cell? ⟨w2.heap.size, 0, none⟩ = some (.int .i64 a.xs.length)) := by show _ = _; simp [go_sem]
  have L5 : Hid ((w2.alloc (oneObj a.xs.length w.heap.size (w.heap.size + 1))).cell? ⟨w2.heap.size, 1, none⟩ = some (.func (.func 61) #[] #[.pointer (some ⟨w.heap.size, 0, none⟩), .pointer (some ⟨w.heap.size + 1, 0, none⟩)])) := by show _ = _; simp [go_sem]
  have R0 : Hid ((w2.alloc (oneObj a.xs.length w.heap.size (w.heap.size + 1))).cell? ⟨w.heap.size + 1 + 1, 0, none⟩ = some (.int .i64 0)) := by show _ = _; simp [go_sem, hc, hc2, zw12, zw22]
  have R1 : Hid ((w2.alloc (oneObj a.xs.length w.heap.size (w.heap.size + 1))).cell? ⟨w.heap.size + 1 + 1, 1, none⟩ = some (.int .i64 0)) := by show _ = _; simp [go_sem, hc, hc2, zw12, zw22]
  have R2 : Hid ((w2.alloc (oneObj a.xs.length w.heap.size (w.heap.size + 1))).cell? ⟨w.heap.size + 1 + 1, 2, none⟩ = some (.int .i64 0)) := by show _ = _; simp [go_sem, hc, hc2, zw12, zw22]
  have R3 : Hid ((w2.alloc (oneObj a.xs.length w.heap.size (w.heap.size + 1))).cell? ⟨w.heap.size + 1 + 1, 3, none⟩ = some (.int .i64 0)) := by show _ = _; simp [go_sem, hc, hc2, zw12, zw22]
  have R4 : Hid ((w2.alloc (oneObj a.xs.length w.heap.size (w.heap.size + 1))).cell? ⟨w.heap.size + 1 + 1, 4, none⟩ = some (.slice none 0 0)) := by show _ = _; simp [go_sem, hc, hc2, zw12, zw22]
  have RE : Hid ((w2.alloc (oneObj a.xs.length w.heap.size (w.heap.size + 1))).cell? ⟨w.heap.size + 1 + 1 + 1, 0, none⟩ = some (.int .i64 0)) := by show _ = _; simp [go_sem, hc, hc2, zw13, zw23]
  have FA : Hid (∀ i, (w2.alloc (oneObj a.xs.length w.heap.size (w.heap.size + 1))).frozen? ⟨w.heap.size + 1 + 1, i, none⟩ = false) := by show ∀ i, _ = _; intro i; simp [go_sem, hf, hf2, zw12, zw22]
  have FE : Hid ((w2.alloc (oneObj a.xs.length w.heap.size (w.heap.size + 1))).frozen? ⟨w.heap.size + 1 + 1 + 1, 0, none⟩ = false) := by show _ = _; simp [go_sem, hf, hf2, zw13, zw23]
  have zw32 : w.heap.size + 1 + 1 < (w2.alloc (oneObj a.xs.length w.heap.size (w.heap.size + 1))).heap.size := by simp; omega
  have zw33 : w.heap.size + 1 + 1 + 1 < (w2.alloc (oneObj a.xs.length w.heap.size (w.heap.size + 1))).heap.size := by simp; omega
  have hb3 : Below w.heap.size w (w2.alloc (oneObj a.xs.length w.heap.size (w.heap.size + 1))) := by (repeat (first | with_reducible exact Below.refl _ _ | with_reducible assumption | (with_reducible refine bl_set ?_ (by simp; try omega) _) | (with_reducible refine bl_alloc ?_ _) | (with_reducible refine bl_dn ?_ _) | (with_reducible refine bl_drew ?_) | (with_reducible refine bl_then ?_ (by with_reducible assumption))))
  clear hc hf hc2 hf2 hmf
  change Code.wp _ _ _ _ (w2.alloc (oneObj a.xs.length w.heap.size (w.heap.size + 1)))
  generalize (w2.alloc (oneObj a.xs.length w.heap.size (w.heap.size + 1))) = W3 at *
  have l1 := L1.out; have l2 := L2.out; have l3 := L3.out; have l4 := L4.out; have l5 := L5.out
  refine Code.wp_mono (Q := PanicPost [{ target := Target.fn (.func 60) #[], args := #[.pointer (some ⟨w.heap.size + 1 + 1, 0, none⟩), .pointer (some ⟨w.heap.size + 1 + 1 + 1, 0, none⟩)] }] 4 5 (.pointer (some ⟨w.heap.size + 1 + 1, 0, none⟩)) (.pointer (some ⟨w.heap.size + 1 + 1 + 1, 0, none⟩)) er W3) ?_ ?_
  · rintro e a' w4 hp
    cases e <;> first | exact absurd hp id | skip
    obtain ⟨rfl, hD, h4, h5, hg4⟩ := hp
    show Leaves _ _ _ _ _ _ _
    rw [hD]
    refine leaves_cons (f := 60) (args := #[.pointer (some ⟨w.heap.size + 1 + 1, 0, none⟩), .pointer (some ⟨w.heap.size + 1 + 1 + 1, 0, none⟩)]) (by simp) (by simp [go_sem]) ?_
    have hcell : ∀ b o, b < W3.heap.size → w4.cell? ⟨b, o, none⟩ = W3.cell? ⟨b, o, none⟩ := fun b o h => hg4.cell (p := ⟨b, o, none⟩) h
    have hfroz : ∀ b o, b < W3.heap.size → w4.frozen? ⟨b, o, none⟩ = W3.frozen? ⟨b, o, none⟩ := fun b o h => hg4.frozen (p := ⟨b, o, none⟩) h
    have hsz : W3.heap.size ≤ w4.heap.size := hg4.size
    refine (caught_panicking (w.heap.size + 1 + 1) (w.heap.size + 1 + 1 + 1) er _ _ _ _ _ _ [] w4 (by omega) (by omega) (by omega) ((hcell _ _ zw32).trans R0.out) ((hcell _ _ zw32).trans R1.out) ((hcell _ _ zw32).trans R2.out) ((hcell _ _ zw32).trans R3.out) ((hcell _ _ zw32).trans R4.out) ((hcell _ _ zw33).trans RE.out) (fun i => (hfroz _ _ zw32).trans (FA.out i)) ((hfroz _ _ zw33).trans FE.out)).mono ?_
    rintro e u' w'' ⟨rfl, rfl, rfl⟩
    have z0 := (hcell _ _ zw32).trans R0.out
    have z1 := (hcell _ _ zw32).trans R1.out
    have z2 := (hcell _ _ zw32).trans R2.out
    have z3 := (hcell _ _ zw32).trans R3.out
    have z4 := (hcell _ _ zw32).trans R4.out
    have ze := (hcell _ _ zw33).trans RE.out
    have zs : w.heap.size + 1 + 1 < w4.heap.size := by omega
    have zt : w.heap.size + 1 + 1 + 1 < w4.heap.size := by omega
    unfold caughtW
    rw [Array.getD_eq_getD_getElem?] at h4 h5
    simp [Leaves, settle, results, Try.results21, h4, h5, go_sem, z0, z1, z2, z3, z4, ze, zs, zt]
    exact arr_zero _ (by have hb4 : Below w.heap.size w w4 := bl_then hb3 hg4; (repeat (first | with_reducible exact Below.refl _ _ | with_reducible assumption | (with_reducible refine bl_set ?_ (by simp; try omega) _) | (with_reducible refine bl_alloc ?_ _) | (with_reducible refine bl_dn ?_ _) | (with_reducible refine bl_drew ?_) | (with_reducible refine bl_then ?_ (by with_reducible assumption)))))
  refine wp_region_held_drew (S := fun w' => w'.cell? ⟨w.heap.size + 1, 1, none⟩ = some (.int .i64 a.r) ∧ w'.cell? ⟨w.heap.size + 1, 2, none⟩ = some (.int .i64 a.l0) ∧ w'.cell? ⟨w.heap.size + 1, 3, none⟩ = some (.int .i64 a.l1) ∧
      w'.cell? ⟨w2.heap.size, 0, none⟩ = some (.int .i64 a.xs.length) ∧ w'.cell? ⟨w2.heap.size, 1, none⟩ = some (.func (.func 61) #[] #[.pointer (some ⟨w.heap.size, 0, none⟩), .pointer (some ⟨w.heap.size + 1, 0, none⟩)]))
    (by kernel_rfl) ⟨l1, l2, l3, l4, l5⟩ (fun hHeld => ?_)
  refine wpAnyH_take (i := 0) (v := ?_) rfl (by kernel_rfl) (by kernel_rfl) (by kernel_rfl) (fun c a w h => PanicPost.put (d := 37) (by decide) (by decide) h) (Or.inl ⟨by rfl, ?_⟩) (by assumption) ?_
  rotate_left
  · intro w hSw
    (try dsimp only at hSw)
    go_simp
    try with_reducible rfl
  simp only [Act.put, List.setIfInBounds_toArray, List.set_cons_zero, List.set_cons_succ]
  refine wpAnyH_take (i := 1) (v := ?_) rfl (by kernel_rfl) (by kernel_rfl) (by kernel_rfl) (fun c a w h => PanicPost.put (d := 38) (by decide) (by decide) h) (Or.inl ⟨by rfl, ?_⟩) (by assumption) ?_
  rotate_left
  · intro w hSw
    (try dsimp only at hSw)
    go_simp
    try with_reducible rfl
  simp only [Act.put, List.setIfInBounds_toArray, List.set_cons_zero, List.set_cons_succ]
  refine wpAnyH_take (i := 2) (v := ?_) rfl (by kernel_rfl) (by kernel_rfl) (by kernel_rfl) (fun c a w h => PanicPost.put (d := 39) (by decide) (by decide) h) (Or.inl ⟨by rfl, ?_⟩) (by assumption) ?_
  rotate_left
  · intro w hSw
    (try dsimp only at hSw)
    go_simp
    try with_reducible rfl
  simp only [Act.put, List.setIfInBounds_toArray, List.set_cons_zero, List.set_cons_succ]
  refine wpAnyH_take (i := 3) (v := ?_) rfl (by kernel_rfl) (by kernel_rfl) (by kernel_rfl) (fun c a w h => PanicPost.put (d := 40) (by decide) (by decide) h) (Or.inl ⟨by rfl, ?_⟩) (by assumption) ?_
  rotate_left
  · intro w hSw
    (try dsimp only at hSw)
    go_simp
    try with_reducible rfl
  simp only [Act.put, List.setIfInBounds_toArray, List.set_cons_zero, List.set_cons_succ]
  refine wpAnyH_take (i := 4) (v := ?_) rfl (by kernel_rfl) (by kernel_rfl) (by kernel_rfl) (fun c a w h => PanicPost.put (d := 41) (by decide) (by decide) h) (Or.inl ⟨by rfl, ?_⟩) (by assumption) ?_
  rotate_left
  · intro w hSw
    (try dsimp only at hSw)
    go_simp
    try with_reducible rfl
  simp only [Act.put, List.setIfInBounds_toArray, List.set_cons_zero, List.set_cons_succ]
  refine wpAnyH_ready (rs := [5]) (by kernel_rfl) (by simp) ?_
  refine AllReadyH.cons rfl (fun K hK => ?_) AllReadyH.nil
  go_simp
  refine (all_one_err p a.xs A c w.heap.size (w.heap.size + 1) HX.out _ hl'.out (by exact hP3.out) (by exact hQ3.out) (by exact hS3.out) er HM.out HER.out).mono ?_
  rintro e w4 ⟨hg4, rfl⟩
  exact ⟨rfl, rfl, rfl, rfl, bl_then (bl_drew (Below.refl _ _)) hg4⟩

theorem one_any (p : Int) (a : Arr) (A : Option Addr) (c : Nat) (hl : a.xs.length ≤ 100000) (f0 : Fits a.l0) (f1 : Fits a.l1) (hx : ∀ x ∈ a.xs, Fits x) (w : World) (hs : Sl w A a.xs) :
    Calls Try.prog 21 #[.int .i64 p, .agg #[.int .i64 a.k, .int .i64 a.r, .int .i64 a.l0, .int .i64 a.l1, .slice A a.xs.length c]] w (ArrRet w (extOne p a)) := by
  unfold extOne
  by_cases h : arity p = (1, 0)
  · rw [if_neg (by simpa using h)]
    by_cases h2 : chk a = 0
    · rw [if_neg (by simpa using h2)]
      by_cases h3 : a.k = 1
      · rw [if_neg (by simpa using h3)]
        by_cases h4 : (mapE (one p) a.xs).1 = 0
        · rw [if_neg (by simpa using h4)]
          exact one_run p a A c hl f0 f1 hx h h2 h3 _ (by rw [← h4]) w hs
        · rw [if_pos h4]
          exact one_fail p a A c hl f0 f1 hx h h2 h3 _ rfl h4 w hs
      · rw [if_pos h3]
        exact one_kind p a A c (by omega) f0 f1 h h2 h3 w hs
    · rw [if_pos h2]
      exact one_check p a A c (by omega) f0 f1 h h2 w hs
  · rw [if_pos h]
    exact one_arity p a A c h w
end Ar
end Go.Proofs.Ytfpnafeildigaaa
