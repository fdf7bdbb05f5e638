/-
extend.One: its contract (chapter 10).
-/
import Derived.Test.YtfpnafeildigaaaArT
set_option linter.unusedSimpArgs false
set_option linter.unusedVariables false
namespace Go.Proofs.Ytfpnafeildigaaa
namespace Ar
open Go.RowKit Sc

/-- what a function hands back that answers an array and an error: the array's cells lie in a new block -/
def ArrRet (w : World) (r : Int × Arr) (e : Ending) (w' : World) : Prop :=
  Below w.heap.size w w' ∧ ∃ (A : Option Addr) (c : Nat), e = .returned (.tuple #[.agg #[.int .i64 r.2.k, .int .i64 r.2.r, .int .i64 r.2.l0, .int .i64 r.2.l1, .slice A r.2.xs.length c], .int .i64 r.1]) ∧ Sl w' A r.2.xs ∧ ∀ g o, A = some ⟨g, o, none⟩ → w.heap.size ≤ g
theorem bl_set {a b : World} (h : Below a.heap.size a b) {q : Addr} (hq : a.heap.size ≤ q.block) (u : Value) : Below a.heap.size a (b.setCell q u) := h.setCell hq u
theorem Out.far {w : World} {g n : Nat} {ys : List Int} (h : Out w g n ys) {q : Addr} (hq : q.block ≠ g) (u : Value) : Out (w.setCell q u) g n ys :=
  ⟨by simpa [World.setCell] using h.1, fun j hj => (h.2.1 j hj).imp fun v hv => (World.cell?_setCell_other _ _ _ _ (fun e => hq (congrArg Addr.block e))).trans hv,
    fun j hj => (World.cell?_setCell_other _ _ _ _ (fun e => hq (congrArg Addr.block e))).trans (h.2.2.1 j hj), fun j => (World.frozen?_setCell _ _ _ _).trans (h.2.2.2 j)⟩
theorem arr_zero {w w' : World} (er : Int) (hb : Below w.heap.size w w') :
    ArrRet w (er, .zero) (.returned (.tuple #[.agg #[.int .i64 0, .int .i64 0, .int .i64 0, .int .i64 0, .slice none 0 0], .int .i64 er])) w' :=
  ⟨hb, none, 0, rfl, Sl.nil _ _, fun _ _ h => by cases h⟩
theorem one_arity (p : Int) (a : Arr) (A : Option Addr) (c : Nat) (h : arity p ≠ (1, 0)) (w : World) :
    Calls Try.prog 21 #[.int .i64 p, .agg #[.int .i64 a.k, .int .i64 a.r, .int .i64 a.l0, .int .i64 a.l1, .slice A a.xs.length c]] w fun e w' => ArrRet w (2, .zero) e w' := by
  obtain ⟨h1, h2⟩ | ⟨h1, h2⟩ : (arity p = (2, 0) ∧ True) ∨ (arity p = (0, 2) ∧ True) := by
    unfold arity at h ⊢
    by_cases a : 1 ≤ p ∧ p ≤ 3
    · rw [if_pos a] at h; exact absurd rfl h
    · by_cases b : 15 ≤ p ∧ p ≤ 32
      · left; exact ⟨by rw [if_neg a, if_pos b], trivial⟩
      · right; exact ⟨by rw [if_neg a, if_neg b], trivial⟩
  all_goals
    clear h h2
    go_enter_defers Try.func21, Try.ntmps21
    go_wp2_with (go_at_call 58; refine (arity_any p _).mono ?_; rw [h1]; rintro e w' ⟨rfl, hg⟩; obtain ⟨hc, hf, hz⟩ := bcell hg)
    simp [bodyPostD, Leaves, settle, results, Try.results21, go_sem, hc]
    exact arr_zero _ (by (repeat (first | with_reducible exact Below.refl _ _ | with_reducible assumption | (with_reducible refine bl_set ?_ (by simp; try omega) _) | (with_reducible refine bl_alloc ?_ _) | (with_reducible refine bl_dn ?_ _) | (with_reducible refine bl_drew ?_) | (with_reducible refine bl_then ?_ (by with_reducible assumption)))))
theorem one_check (p : Int) (a : Arr) (A : Option Addr) (c : Nat) (hl : a.xs.length ≤ 9223372036854775807) (f0 : Fits a.l0) (f1 : Fits a.l1) (h : arity p = (1, 0)) (h2 : chk a ≠ 0) (w : World) (hs : Sl w A a.xs) :
    Calls Try.prog 21 #[.int .i64 p, .agg #[.int .i64 a.k, .int .i64 a.r, .int .i64 a.l0, .int .i64 a.l1, .slice A a.xs.length c]] w fun e w' => ArrRet w (chk a, .zero) e w' := by
  have n1 : (chk a != 0) = true := by simpa using h2
  clear h2
  have H := hide h
  clear h
  go_enter_defers Try.func21, Try.ntmps21
  go_wp2_with (first | (go_at_call 58; refine (arity_any p _).mono ?_; rw [H.out]; rintro e w1 ⟨rfl, hg⟩; obtain ⟨hc, hf, hz⟩ := bcell hg; (have zw10 : w.heap.size < w1.heap.size := by have := hg.size; simp at this; omega); (have zw11 : w.heap.size + 1 < w1.heap.size := by have := hg.size; simp at this; omega); (have zw12 : w.heap.size + 1 + 1 < w1.heap.size := by have := hg.size; simp at this; omega); (have zw13 : w.heap.size + 1 + 1 + 1 < w1.heap.size := by have := hg.size; simp at this; omega)) | (go_at_call 59; refine (ac_any a A c hl f0 f1 _ (hs.below (by (repeat (first | with_reducible exact Below.refl _ _ | with_reducible assumption | (with_reducible refine bl_set ?_ (by simp; try omega) _) | (with_reducible refine bl_alloc ?_ _) | (with_reducible refine bl_dn ?_ _) | (with_reducible refine bl_drew ?_) | (with_reducible refine bl_then ?_ (by with_reducible assumption))))))).mono ?_; rintro e w2 ⟨rfl, hg2⟩; obtain ⟨hc2, hf2, hz2⟩ := bcell hg2; (have zw20 : w.heap.size < w2.heap.size := by have := Nat.le_trans hg.size hg2.size; simp at this; omega); (have zw21 : w.heap.size + 1 < w2.heap.size := by have := Nat.le_trans hg.size hg2.size; simp at this; omega); (have zw22 : w.heap.size + 1 + 1 < w2.heap.size := by have := Nat.le_trans hg.size hg2.size; simp at this; omega); (have zw23 : w.heap.size + 1 + 1 + 1 < w2.heap.size := by have := Nat.le_trans hg.size hg2.size; simp at this; omega)))
  simp [bodyPostD, Leaves, settle, results, Try.results21, go_sem, hc, hc2, zw12, zw13, zw22, zw23]
  exact arr_zero _ (by (repeat (first | with_reducible exact Below.refl _ _ | with_reducible assumption | (with_reducible refine bl_set ?_ (by simp; try omega) _) | (with_reducible refine bl_alloc ?_ _) | (with_reducible refine bl_dn ?_ _) | (with_reducible refine bl_drew ?_) | (with_reducible refine bl_then ?_ (by with_reducible assumption)))))
theorem one_kind (p : Int) (a : Arr) (A : Option Addr) (c : Nat) (hl : a.xs.length ≤ 9223372036854775807) (f0 : Fits a.l0) (f1 : Fits a.l1) (h : arity p = (1, 0)) (h2 : chk a = 0) (h3 : a.k ≠ 1) (w : World) (hs : Sl w A a.xs) :
    Calls Try.prog 21 #[.int .i64 p, .agg #[.int .i64 a.k, .int .i64 a.r, .int .i64 a.l0, .int .i64 a.l1, .slice A a.xs.length c]] w fun e w' => ArrRet w (21, .zero) e w' := by
  have n1 : (a.k != 1) = true := by simpa using h3
  have HC := hide h2
  have H := hide h
  clear h h2 h3
  go_enter_defers Try.func21, Try.ntmps21
  go_wp2_with (first | (go_at_call 58; refine (arity_any p _).mono ?_; rw [H.out]; rintro e w1 ⟨rfl, hg⟩; obtain ⟨hc, hf, hz⟩ := bcell hg; (have zw10 : w.heap.size < w1.heap.size := by have := hg.size; simp at this; omega); (have zw11 : w.heap.size + 1 < w1.heap.size := by have := hg.size; simp at this; omega); (have zw12 : w.heap.size + 1 + 1 < w1.heap.size := by have := hg.size; simp at this; omega); (have zw13 : w.heap.size + 1 + 1 + 1 < w1.heap.size := by have := hg.size; simp at this; omega)) | (go_at_call 59; refine (ac_any a A c hl f0 f1 _ (hs.below (by (repeat (first | with_reducible exact Below.refl _ _ | with_reducible assumption | (with_reducible refine bl_set ?_ (by simp; try omega) _) | (with_reducible refine bl_alloc ?_ _) | (with_reducible refine bl_dn ?_ _) | (with_reducible refine bl_drew ?_) | (with_reducible refine bl_then ?_ (by with_reducible assumption))))))).mono ?_; rw [HC.out]; rintro e w2 ⟨rfl, hg2⟩; obtain ⟨hc2, hf2, hz2⟩ := bcell hg2; (have zw20 : w.heap.size < w2.heap.size := by have := Nat.le_trans hg.size hg2.size; simp at this; omega); (have zw21 : w.heap.size + 1 < w2.heap.size := by have := Nat.le_trans hg.size hg2.size; simp at this; omega); (have zw22 : w.heap.size + 1 + 1 < w2.heap.size := by have := Nat.le_trans hg.size hg2.size; simp at this; omega); (have zw23 : w.heap.size + 1 + 1 + 1 < w2.heap.size := by have := Nat.le_trans hg.size hg2.size; simp at this; omega)))
  simp [bodyPostD, Leaves, settle, results, Try.results21, go_sem, hc, hc2, zw12, zw13, zw22, zw23]
  exact arr_zero _ (by (repeat (first | with_reducible exact Below.refl _ _ | with_reducible assumption | (with_reducible refine bl_set ?_ (by simp; try omega) _) | (with_reducible refine bl_alloc ?_ _) | (with_reducible refine bl_dn ?_ _) | (with_reducible refine bl_drew ?_) | (with_reducible refine bl_then ?_ (by with_reducible assumption)))))
theorem one_run (p : Int) (a : Arr) (A : Option Addr) (c : Nat) (hl : a.xs.length ≤ 100000) (f0 : Fits a.l0) (f1 : Fits a.l1) (hx : ∀ x ∈ a.xs, Fits x) (h : arity p = (1, 0)) (h2 : chk a = 0) (h3 : a.k = 1) (ys : List Int) (hm : mapE (one p) a.xs = (0, ys)) (w : World) (hs : Sl w A a.xs) :
    Calls Try.prog 21 #[.int .i64 p, .agg #[.int .i64 a.k, .int .i64 a.r, .int .i64 a.l0, .int .i64 a.l1, .slice A a.xs.length c]] w fun e w' => ArrRet w (0, ⟨1, a.r, a.l0, a.l1, ys⟩) e w' := by
  have n1 : (a.k != 1) = false := by rw [h3]; rfl
  have HC := hide h2
  have H := hide h
  have HM := hide hm
  have HX := hide hx
  have hl' := hide hl
  clear h h2 h3 hm hx
  have hl : a.xs.length ≤ 9223372036854775807 := by omega
  have hmf : ∀ (fn : Fn) (first cap : Array Value) (w : World), (Instr.makeFunc fn first cap).run Try.prog w = .ok (.func fn first cap) w := fun _ _ _ _ => rfl
  go_enter_defers Try.func21, Try.ntmps21
  go_wp2_with (first | (go_at_call 58; refine (arity_any p _).mono ?_; rw [H.out]; rintro e w1 ⟨rfl, hg⟩; obtain ⟨hc, hf, hz⟩ := bcell hg; (have zw10 : w.heap.size < w1.heap.size := by have := hg.size; simp at this; omega); (have zw11 : w.heap.size + 1 < w1.heap.size := by have := hg.size; simp at this; omega); (have zw12 : w.heap.size + 1 + 1 < w1.heap.size := by have := hg.size; simp at this; omega); (have zw13 : w.heap.size + 1 + 1 + 1 < w1.heap.size := by have := hg.size; simp at this; omega)) | (go_at_call 59; refine (ac_any a A c hl f0 f1 _ (hs.below (by (repeat (first | with_reducible exact Below.refl _ _ | with_reducible assumption | (with_reducible refine bl_set ?_ (by simp; try omega) _) | (with_reducible refine bl_alloc ?_ _) | (with_reducible refine bl_dn ?_ _) | (with_reducible refine bl_drew ?_) | (with_reducible refine bl_then ?_ (by with_reducible assumption))))))).mono ?_; rw [HC.out]; rintro e w2 ⟨rfl, hg2⟩; obtain ⟨hc2, hf2, hz2⟩ := bcell hg2; (have zw20 : w.heap.size < w2.heap.size := by have := Nat.le_trans hg.size hg2.size; simp at this; omega); (have zw21 : w.heap.size + 1 < w2.heap.size := by have := Nat.le_trans hg.size hg2.size; simp at this; omega); (have zw22 : w.heap.size + 1 + 1 < w2.heap.size := by have := Nat.le_trans hg.size hg2.size; simp at this; omega); (have zw23 : w.heap.size + 1 + 1 + 1 < w2.heap.size := by have := Nat.le_trans hg.size hg2.size; simp at this; omega)))
  have hP3 := hide (show (w2.alloc (.cells #[.int .i64 a.xs.length, .func (.func 61) #[] #[.pointer (some ⟨w.heap.size, 0, none⟩), .pointer (some ⟨w.heap.size + 1, 0, none⟩)]] 68)).cell? ⟨w.heap.size, 0, none⟩ = some (.int .i64 p) by simp [go_sem, hc, hc2, zw10, zw20])
  have hQ3 := hide (show (w2.alloc (.cells #[.int .i64 a.xs.length, .func (.func 61) #[] #[.pointer (some ⟨w.heap.size, 0, none⟩), .pointer (some ⟨w.heap.size + 1, 0, none⟩)]] 68)).cell? ⟨w.heap.size + 1, 4, none⟩ = some (.slice A a.xs.length c) by simp [go_sem, hc, hc2, zw11, zw21])
  have hS3 := hide (show Sl (w2.alloc (.cells #[.int .i64 a.xs.length, .func (.func 61) #[] #[.pointer (some ⟨w.heap.size, 0, none⟩), .pointer (some ⟨w.heap.size + 1, 0, none⟩)]] 68)) A a.xs from hs.below (by (repeat (first | with_reducible exact Below.refl _ _ | with_reducible assumption | (with_reducible refine bl_set ?_ (by simp; try omega) _) | (with_reducible refine bl_alloc ?_ _) | (with_reducible refine bl_dn ?_ _) | (with_reducible refine bl_drew ?_) | (with_reducible refine bl_then ?_ (by with_reducible assumption))))))
  go_region_held3 (fun w' => w'.cell? ⟨w.heap.size + 1, 1, none⟩ = some (.int .i64 a.r) ∧ w'.cell? ⟨w.heap.size + 1, 2, none⟩ = some (.int .i64 a.l0) ∧ w'.cell? ⟨w.heap.size + 1, 3, none⟩ = some (.int .i64 a.l1) ∧
      w'.cell? ⟨w2.heap.size, 0, none⟩ = some (.int .i64 a.xs.length) ∧ w'.cell? ⟨w2.heap.size, 1, none⟩ = some (.func (.func 61) #[] #[.pointer (some ⟨w.heap.size, 0, none⟩), .pointer (some ⟨w.heap.size + 1, 0, none⟩)]))
    (simp [go_sem, *]) ((go_at_call 63; refine (all_one_ok p a.xs A c w.heap.size (w.heap.size + 1) HX.out _ hl'.out (by exact hP3.out) (by exact hQ3.out) (by exact hS3.out) ys HM.out).mono ?_; rintro e w4 ⟨hg4, g, rfl, hgg, ho⟩; (have hc4 : ∀ b o, b < w2.heap.size + 1 → w4.cell? ⟨b, o, none⟩ = (w2.alloc (.cells #[.int .i64 a.xs.length, .func (.func 61) #[] #[.pointer (some ⟨w.heap.size, 0, none⟩), .pointer (some ⟨w.heap.size + 1, 0, none⟩)]] 68)).cell? ⟨b, o, none⟩ := fun b o h => hg4.cell (p := ⟨b, o, none⟩) (by simpa using h)); (have hf4 : ∀ b o, b < w2.heap.size + 1 → w4.frozen? ⟨b, o, none⟩ = (w2.alloc (.cells #[.int .i64 a.xs.length, .func (.func 61) #[] #[.pointer (some ⟨w.heap.size, 0, none⟩), .pointer (some ⟨w.heap.size + 1, 0, none⟩)]] 68)).frozen? ⟨b, o, none⟩ := fun b o h => hg4.frozen (p := ⟨b, o, none⟩) (by simpa using h)); (have ho := hide ho)))
  go_wp2
  refine leaves_cons (f := 60) (args := #[.pointer (some ⟨w.heap.size + 1 + 1, 0, none⟩), .pointer (some ⟨w.heap.size + 1 + 1 + 1, 0, none⟩)]) (by simp) (by simp [go_sem]) ?_
  refine (caught_idle _ _ _).mono ?_
  rintro e u' w'' ⟨rfl, rfl, rfl⟩
  have zw42 : w.heap.size + 1 + 1 < w2.heap.size + 1 := by omega
  have zw43 : w.heap.size + 1 + 1 + 1 < w2.heap.size + 1 := by omega
  simp [Leaves, settle, results, Try.results21, go_sem, hc, hc2, hc4, zw12, zw13, zw22, zw23, zw42, zw43]
  have hlen := mapE_len HM.out
  have hgg' : w2.heap.size + 1 ≤ g := by have := hgg; simp at this; exact this
  refine ⟨by (repeat (first | with_reducible exact Below.refl _ _ | with_reducible assumption | (with_reducible refine bl_set ?_ (by simp; try omega) _) | (with_reducible refine bl_alloc ?_ _) | (with_reducible refine bl_dn ?_ _) | (with_reducible refine bl_drew ?_) | (with_reducible refine bl_then ?_ (by with_reducible assumption)))), some ⟨g, 0, none⟩, a.xs.length, by show _ = Ending.returned (.tuple #[.agg #[_, _, _, _, .slice _ ys.length _], _]); rw [hlen], ?_, ?_⟩
  · have := ((((((ho.out.far (q := ⟨w.heap.size + 1 + 1, 0, none⟩) (by simp; omega) (.int .i64 1)).far (q := ⟨w.heap.size + 1 + 1, 1, none⟩) (by simp; omega) (.int .i64 a.r)).far (q := ⟨w.heap.size + 1 + 1, 2, none⟩) (by simp; omega) (.int .i64 a.l0)).far (q := ⟨w.heap.size + 1 + 1, 3, none⟩) (by simp; omega) (.int .i64 a.l1)).far (q := ⟨w.heap.size + 1 + 1, 4, none⟩) (by simp; omega) (.slice (some ⟨g, 0, none⟩) a.xs.length a.xs.length)).far (q := ⟨w.heap.size + 1 + 1 + 1, 0, none⟩) (by simp; omega) (.int .i64 0))
    rw [← hlen] at this
    have := this.sl
    rw [hlen] at this
    exact this
  · intro g' o' h
    injection h with h
    injection h with h1 h2 h3
    subst h1
    omega
end Ar
end Go.Proofs.Ytfpnafeildigaaa
