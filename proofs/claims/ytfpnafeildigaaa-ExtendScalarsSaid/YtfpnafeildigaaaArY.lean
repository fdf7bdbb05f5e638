/-
The closure of extend.Two over the cells of its operands (chapter 10).
-/
import Derived.Test.YtfpnafeildigaaaArX2
set_option linter.unusedSimpArgs false
set_option linter.unusedVariables false
namespace Go.Proofs.Ytfpnafeildigaaa
namespace Ar
open Go.RowKit Sc
theorem two1_1_1 (p : Int) (xs ys : List Int) (A B : Option Addr) (c d P X Y QX QY k : Nat) (x y : Int) (hx : Fits x) (hy : Fits y) (w : World) (hkx : 0 < xs.length) (hky : 0 < ys.length) (hlx : xs.length ≤ 9223372036854775807) (hly : ys.length ≤ 9223372036854775807)
    (hP : w.cell? ⟨P, 0, none⟩ = some (.int .i64 p)) (hX : w.cell? ⟨X, 0, none⟩ = some (.func (.func 102) #[] #[.pointer (some ⟨QX, 0, none⟩)])) (hY : w.cell? ⟨Y, 0, none⟩ = some (.func (.func 102) #[] #[.pointer (some ⟨QY, 0, none⟩)]))
    (hQX : w.cell? ⟨QX, 4, none⟩ = some (.slice A xs.length c)) (hQY : w.cell? ⟨QY, 4, none⟩ = some (.slice B ys.length d)) (hsx : Sl w A xs) (hsy : Sl w B ys) (hxk : xs.getD 0 0 = x) (hyk : ys.getD 0 0 = y) :
    Calls Try.prog 68 #[.int .i64 k, .pointer (some ⟨P, 0, none⟩), .pointer (some ⟨X, 0, none⟩), .pointer (some ⟨Y, 0, none⟩)] w fun e w' => e = ret2 (two p x y) ∧ Below w.heap.size w w' := by
  have HX : Hid (Calls Try.prog 102 #[.int .i64 k, .pointer (some ⟨QX, 0, none⟩)] w.drew fun e w' => e = .returned (.int .i64 x) ∧ w.drew = w') := spread1_any xs A c k QX x _ hkx hlx hQX hsx hxk
  have HY : Hid (Calls Try.prog 102 #[.int .i64 k, .pointer (some ⟨QY, 0, none⟩)] w.drew fun e w' => e = .returned (.int .i64 y) ∧ w.drew = w') := spread1_any ys B d k QY y _ hky hly hQY hsy hyk
  have hPl := block_lt_of_cell hP
  have hXl := block_lt_of_cell hX
  have hYl := block_lt_of_cell hY
  have hx' := hide hx
  have hy' := hide hy
  clear hx hy hQX hQY hsx hsy hxk hyk hkx hky hlx hly
  go_enter Try.func68, Try.ntmps68
  go_wp2
  go_region_held3 (fun w' => w'.cell? ⟨P, 0, none⟩ = some (.int .i64 p) ∧ w'.cell? ⟨X, 0, none⟩ = some (.func (.func 102) #[] #[.pointer (some ⟨QX, 0, none⟩)]) ∧ w'.cell? ⟨Y, 0, none⟩ = some (.func (.func 102) #[] #[.pointer (some ⟨QY, 0, none⟩)])) (simp [go_sem, *])
    ((first | (with_reducible refine HX.out.mono ?_; rintro e w' ⟨rfl, rfl⟩) | (with_reducible refine HY.out.mono ?_; rintro e w' ⟨rfl, rfl⟩) | (go_at_call 69; refine (Two_any p x y hx'.out hy'.out _).mono ?_; rintro e w' ⟨rfl, hg⟩; have hc' : ∀ b o, b < w.heap.size → w'.cell? ⟨b, o, none⟩ = w.cell? ⟨b, o, none⟩ := fun b o h => hg.cell (p := ⟨b, o, none⟩) h)))
  all_goals
    go_wp2
    go_ret2
    exact ⟨rfl, by (repeat (first | with_reducible exact Below.refl _ _ | with_reducible assumption | (with_reducible refine bl_set ?_ (by simp; try omega) _) | (with_reducible refine bl_alloc ?_ _) | (with_reducible refine bl_dn ?_ _) | (with_reducible refine bl_drew ?_) | (with_reducible refine bl_then ?_ (by with_reducible assumption))))⟩
theorem two1_1_2 (p : Int) (xs ys : List Int) (A B : Option Addr) (c d P X Y QX QY k : Nat) (x y : Int) (hx : Fits x) (hy : Fits y) (w : World) (hkx : 0 < xs.length) (hky : k < ys.length) (hlx : xs.length ≤ 9223372036854775807) (hly : ys.length ≤ 9223372036854775807)
    (hP : w.cell? ⟨P, 0, none⟩ = some (.int .i64 p)) (hX : w.cell? ⟨X, 0, none⟩ = some (.func (.func 102) #[] #[.pointer (some ⟨QX, 0, none⟩)])) (hY : w.cell? ⟨Y, 0, none⟩ = some (.func (.func 103) #[] #[.pointer (some ⟨QY, 0, none⟩)]))
    (hQX : w.cell? ⟨QX, 4, none⟩ = some (.slice A xs.length c)) (hQY : w.cell? ⟨QY, 4, none⟩ = some (.slice B ys.length d)) (hsx : Sl w A xs) (hsy : Sl w B ys) (hxk : xs.getD 0 0 = x) (hyk : ys.getD k 0 = y) :
    Calls Try.prog 68 #[.int .i64 k, .pointer (some ⟨P, 0, none⟩), .pointer (some ⟨X, 0, none⟩), .pointer (some ⟨Y, 0, none⟩)] w fun e w' => e = ret2 (two p x y) ∧ Below w.heap.size w w' := by
  have HX : Hid (Calls Try.prog 102 #[.int .i64 k, .pointer (some ⟨QX, 0, none⟩)] w.drew fun e w' => e = .returned (.int .i64 x) ∧ w.drew = w') := spread1_any xs A c k QX x _ hkx hlx hQX hsx hxk
  have HY : Hid (Calls Try.prog 103 #[.int .i64 k, .pointer (some ⟨QY, 0, none⟩)] w.drew fun e w' => e = .returned (.int .i64 y) ∧ w.drew = w') := spread2_any ys B d k QY y _ hky hly hQY hsy hyk
  have hPl := block_lt_of_cell hP
  have hXl := block_lt_of_cell hX
  have hYl := block_lt_of_cell hY
  have hx' := hide hx
  have hy' := hide hy
  clear hx hy hQX hQY hsx hsy hxk hyk hkx hky hlx hly
  go_enter Try.func68, Try.ntmps68
  go_wp2
  go_region_held3 (fun w' => w'.cell? ⟨P, 0, none⟩ = some (.int .i64 p) ∧ w'.cell? ⟨X, 0, none⟩ = some (.func (.func 102) #[] #[.pointer (some ⟨QX, 0, none⟩)]) ∧ w'.cell? ⟨Y, 0, none⟩ = some (.func (.func 103) #[] #[.pointer (some ⟨QY, 0, none⟩)])) (simp [go_sem, *])
    ((first | (with_reducible refine HX.out.mono ?_; rintro e w' ⟨rfl, rfl⟩) | (with_reducible refine HY.out.mono ?_; rintro e w' ⟨rfl, rfl⟩) | (go_at_call 69; refine (Two_any p x y hx'.out hy'.out _).mono ?_; rintro e w' ⟨rfl, hg⟩; have hc' : ∀ b o, b < w.heap.size → w'.cell? ⟨b, o, none⟩ = w.cell? ⟨b, o, none⟩ := fun b o h => hg.cell (p := ⟨b, o, none⟩) h)))
  all_goals
    go_wp2
    go_ret2
    exact ⟨rfl, by (repeat (first | with_reducible exact Below.refl _ _ | with_reducible assumption | (with_reducible refine bl_set ?_ (by simp; try omega) _) | (with_reducible refine bl_alloc ?_ _) | (with_reducible refine bl_dn ?_ _) | (with_reducible refine bl_drew ?_) | (with_reducible refine bl_then ?_ (by with_reducible assumption))))⟩
theorem two1_2_1 (p : Int) (xs ys : List Int) (A B : Option Addr) (c d P X Y QX QY k : Nat) (x y : Int) (hx : Fits x) (hy : Fits y) (w : World) (hkx : k < xs.length) (hky : 0 < ys.length) (hlx : xs.length ≤ 9223372036854775807) (hly : ys.length ≤ 9223372036854775807)
    (hP : w.cell? ⟨P, 0, none⟩ = some (.int .i64 p)) (hX : w.cell? ⟨X, 0, none⟩ = some (.func (.func 103) #[] #[.pointer (some ⟨QX, 0, none⟩)])) (hY : w.cell? ⟨Y, 0, none⟩ = some (.func (.func 102) #[] #[.pointer (some ⟨QY, 0, none⟩)]))
    (hQX : w.cell? ⟨QX, 4, none⟩ = some (.slice A xs.length c)) (hQY : w.cell? ⟨QY, 4, none⟩ = some (.slice B ys.length d)) (hsx : Sl w A xs) (hsy : Sl w B ys) (hxk : xs.getD k 0 = x) (hyk : ys.getD 0 0 = y) :
    Calls Try.prog 68 #[.int .i64 k, .pointer (some ⟨P, 0, none⟩), .pointer (some ⟨X, 0, none⟩), .pointer (some ⟨Y, 0, none⟩)] w fun e w' => e = ret2 (two p x y) ∧ Below w.heap.size w w' := by
  have HX : Hid (Calls Try.prog 103 #[.int .i64 k, .pointer (some ⟨QX, 0, none⟩)] w.drew fun e w' => e = .returned (.int .i64 x) ∧ w.drew = w') := spread2_any xs A c k QX x _ hkx hlx hQX hsx hxk
  have HY : Hid (Calls Try.prog 102 #[.int .i64 k, .pointer (some ⟨QY, 0, none⟩)] w.drew fun e w' => e = .returned (.int .i64 y) ∧ w.drew = w') := spread1_any ys B d k QY y _ hky hly hQY hsy hyk
  have hPl := block_lt_of_cell hP
  have hXl := block_lt_of_cell hX
  have hYl := block_lt_of_cell hY
  have hx' := hide hx
  have hy' := hide hy
  clear hx hy hQX hQY hsx hsy hxk hyk hkx hky hlx hly
  go_enter Try.func68, Try.ntmps68
  go_wp2
  go_region_held3 (fun w' => w'.cell? ⟨P, 0, none⟩ = some (.int .i64 p) ∧ w'.cell? ⟨X, 0, none⟩ = some (.func (.func 103) #[] #[.pointer (some ⟨QX, 0, none⟩)]) ∧ w'.cell? ⟨Y, 0, none⟩ = some (.func (.func 102) #[] #[.pointer (some ⟨QY, 0, none⟩)])) (simp [go_sem, *])
    ((first | (with_reducible refine HX.out.mono ?_; rintro e w' ⟨rfl, rfl⟩) | (with_reducible refine HY.out.mono ?_; rintro e w' ⟨rfl, rfl⟩) | (go_at_call 69; refine (Two_any p x y hx'.out hy'.out _).mono ?_; rintro e w' ⟨rfl, hg⟩; have hc' : ∀ b o, b < w.heap.size → w'.cell? ⟨b, o, none⟩ = w.cell? ⟨b, o, none⟩ := fun b o h => hg.cell (p := ⟨b, o, none⟩) h)))
  all_goals
    go_wp2
    go_ret2
    exact ⟨rfl, by (repeat (first | with_reducible exact Below.refl _ _ | with_reducible assumption | (with_reducible refine bl_set ?_ (by simp; try omega) _) | (with_reducible refine bl_alloc ?_ _) | (with_reducible refine bl_dn ?_ _) | (with_reducible refine bl_drew ?_) | (with_reducible refine bl_then ?_ (by with_reducible assumption))))⟩
theorem two1_2_2 (p : Int) (xs ys : List Int) (A B : Option Addr) (c d P X Y QX QY k : Nat) (x y : Int) (hx : Fits x) (hy : Fits y) (w : World) (hkx : k < xs.length) (hky : k < ys.length) (hlx : xs.length ≤ 9223372036854775807) (hly : ys.length ≤ 9223372036854775807)
    (hP : w.cell? ⟨P, 0, none⟩ = some (.int .i64 p)) (hX : w.cell? ⟨X, 0, none⟩ = some (.func (.func 103) #[] #[.pointer (some ⟨QX, 0, none⟩)])) (hY : w.cell? ⟨Y, 0, none⟩ = some (.func (.func 103) #[] #[.pointer (some ⟨QY, 0, none⟩)]))
    (hQX : w.cell? ⟨QX, 4, none⟩ = some (.slice A xs.length c)) (hQY : w.cell? ⟨QY, 4, none⟩ = some (.slice B ys.length d)) (hsx : Sl w A xs) (hsy : Sl w B ys) (hxk : xs.getD k 0 = x) (hyk : ys.getD k 0 = y) :
    Calls Try.prog 68 #[.int .i64 k, .pointer (some ⟨P, 0, none⟩), .pointer (some ⟨X, 0, none⟩), .pointer (some ⟨Y, 0, none⟩)] w fun e w' => e = ret2 (two p x y) ∧ Below w.heap.size w w' := by
  have HX : Hid (Calls Try.prog 103 #[.int .i64 k, .pointer (some ⟨QX, 0, none⟩)] w.drew fun e w' => e = .returned (.int .i64 x) ∧ w.drew = w') := spread2_any xs A c k QX x _ hkx hlx hQX hsx hxk
  have HY : Hid (Calls Try.prog 103 #[.int .i64 k, .pointer (some ⟨QY, 0, none⟩)] w.drew fun e w' => e = .returned (.int .i64 y) ∧ w.drew = w') := spread2_any ys B d k QY y _ hky hly hQY hsy hyk
  have hPl := block_lt_of_cell hP
  have hXl := block_lt_of_cell hX
  have hYl := block_lt_of_cell hY
  have hx' := hide hx
  have hy' := hide hy
  clear hx hy hQX hQY hsx hsy hxk hyk hkx hky hlx hly
  go_enter Try.func68, Try.ntmps68
  go_wp2
  go_region_held3 (fun w' => w'.cell? ⟨P, 0, none⟩ = some (.int .i64 p) ∧ w'.cell? ⟨X, 0, none⟩ = some (.func (.func 103) #[] #[.pointer (some ⟨QX, 0, none⟩)]) ∧ w'.cell? ⟨Y, 0, none⟩ = some (.func (.func 103) #[] #[.pointer (some ⟨QY, 0, none⟩)])) (simp [go_sem, *])
    ((first | (with_reducible refine HX.out.mono ?_; rintro e w' ⟨rfl, rfl⟩) | (with_reducible refine HY.out.mono ?_; rintro e w' ⟨rfl, rfl⟩) | (go_at_call 69; refine (Two_any p x y hx'.out hy'.out _).mono ?_; rintro e w' ⟨rfl, hg⟩; have hc' : ∀ b o, b < w.heap.size → w'.cell? ⟨b, o, none⟩ = w.cell? ⟨b, o, none⟩ := fun b o h => hg.cell (p := ⟨b, o, none⟩) h)))
  all_goals
    go_wp2
    go_ret2
    exact ⟨rfl, by (repeat (first | with_reducible exact Below.refl _ _ | with_reducible assumption | (with_reducible refine bl_set ?_ (by simp; try omega) _) | (with_reducible refine bl_alloc ?_ _) | (with_reducible refine bl_dn ?_ _) | (with_reducible refine bl_drew ?_) | (with_reducible refine bl_then ?_ (by with_reducible assumption))))⟩
end Ar
end Go.Proofs.Ytfpnafeildigaaa
