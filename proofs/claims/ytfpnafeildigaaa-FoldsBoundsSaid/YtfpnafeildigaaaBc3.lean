/-
Contracts of chapter 11: folds.Sum, Least, Most, Count, whole.
-/
import Derived.Test.YtfpnafeildigaaaBc2
set_option linter.unusedSimpArgs false
set_option linter.unusedVariables false
namespace Go.Proofs.Ytfpnafeildigaaa
namespace Ar
open Go.RowKit Sc
theorem sl_cells {w : World} {g B : Nat} {V : Option Addr} {xs : List Int} (h : Sl w V xs) (hge : ∀ b o, V = some ⟨b, o, none⟩ → B ≤ b) (hg : g < B) (u0 u1 u2 u3 u4 : Value) :
    Sl (((((w.setCell ⟨g, 0, none⟩ u0).setCell ⟨g, 1, none⟩ u1).setCell ⟨g, 2, none⟩ u2).setCell ⟨g, 3, none⟩ u3).setCell ⟨g, 4, none⟩ u4) V xs :=
  (((((h.set hge (by simpa using hg) _).set hge (by simpa using hg) _).set hge (by simpa using hg) _).set hge (by simpa using hg) _).set hge (by simpa using hg) _)
set_option maxRecDepth 100000 in
theorem fsum_any (a : Arr) (A : Option Addr) (c : Nat) (hla : a.xs.length ≤ 9223372036854775807) (f0 : Fits a.l0) (f1 : Fits a.l1) (hx : ∀ x ∈ a.xs, Fits x) (hcA : a.xs.length ≤ c) (w : World) (hs : Sl w A a.xs) : Calls Try.prog 42 #[.agg #[.int .i64 a.k, .int .i64 a.r, .int .i64 a.l0, .int .i64 a.l1, .slice A a.xs.length c]] w (ArrRet w (extSum a)) := by
  have HX := hide hx
  clear hx
  obtain ⟨er, R, hE⟩ : ∃ er R, extSum a = (er, R) := ⟨_, _, rfl⟩
  have HE := hide hE
  clear hE
  go_enter Try.func42, Try.ntmps42
  go_wp2_with fail
  refine (fold_sum true sumRow a A c 0 hla f0 f1 hcA _ (hs.below (by (repeat (first | with_reducible exact Below.refl _ _ | with_reducible assumption | (with_reducible refine bl_set ?_ (by simp; try omega) _) | (with_reducible refine bl_alloc ?_ _) | (with_reducible refine bl_dn ?_ _) | (with_reducible refine bl_drew ?_) | (with_reducible refine bl_then ?_ (by with_reducible assumption)))))) (fun hk hr row B d W hm hb hsr => sum1_any row B d (by have := (rowsL_mem hk hr hm).1; omega) (fun x hx' => HX.out x ((rowsL_mem hk hr hm).2 x hx')) W hsr)).mono ?_
  rw [show extFold true sumRow a = (er, R) from HE.out]
  rintro e w1 ⟨hg1, V, cv, rfl, hsV, hge, hcp⟩
  have rb1 := hide ((RBox.new _ _).below hg1)
  simp only [World.size_alloc] at rb1
  have zw1 := hg1.size
  simp only [World.size_alloc] at zw1
  obtain ⟨⟨r0, r1, r2, r3, r4⟩, rf, zr⟩ := rb1.out
  go_wp2
  rw [HE.out]
  refine bodyPost_ret (v := .tuple #[.agg #[.int .i64 R.k, .int .i64 R.r, .int .i64 R.l0, .int .i64 R.l1, .slice V R.xs.length cv], .int .i64 er]) (by simp [results, Try.results42, go_sem, *]) rfl ⟨by (repeat (first | with_reducible exact Below.refl _ _ | with_reducible assumption | (with_reducible refine bl_set ?_ (by simp; try omega) _) | (with_reducible refine bl_alloc ?_ _) | (with_reducible refine bl_dn ?_ _) | (with_reducible refine bl_drew ?_) | (with_reducible refine bl_then ?_ (by with_reducible assumption)))), V, cv, rfl, ?_, ?_, hcp⟩
  · exact sl_cells hsV hge (by simp) _ _ _ _ _
  · intro g o e; have hh := hge g o e; (try simp at hh); omega
set_option maxRecDepth 100000 in
theorem fcount_any (a : Arr) (A : Option Addr) (c : Nat) (hla : a.xs.length ≤ 9223372036854775807) (f0 : Fits a.l0) (f1 : Fits a.l1) (hx : ∀ x ∈ a.xs, Fits x) (hcA : a.xs.length ≤ c) (w : World) (hs : Sl w A a.xs) : Calls Try.prog 50 #[.agg #[.int .i64 a.k, .int .i64 a.r, .int .i64 a.l0, .int .i64 a.l1, .slice A a.xs.length c]] w (ArrRet w (extCount a)) := by
  have HX := hide hx
  clear hx
  obtain ⟨er, R, hE⟩ : ∃ er R, extCount a = (er, R) := ⟨_, _, rfl⟩
  have HE := hide hE
  clear hE
  go_enter Try.func50, Try.ntmps50
  go_wp2_with fail
  refine (fold_count false countRow a A c 0 hla f0 f1 hcA _ (hs.below (by (repeat (first | with_reducible exact Below.refl _ _ | with_reducible assumption | (with_reducible refine bl_set ?_ (by simp; try omega) _) | (with_reducible refine bl_alloc ?_ _) | (with_reducible refine bl_dn ?_ _) | (with_reducible refine bl_drew ?_) | (with_reducible refine bl_then ?_ (by with_reducible assumption)))))) (fun hk hr row B d W hm hb hsr => count1_any row B d W)).mono ?_
  rw [show extFold false countRow a = (er, R) from HE.out]
  rintro e w1 ⟨hg1, V, cv, rfl, hsV, hge, hcp⟩
  have rb1 := hide ((RBox.new _ _).below hg1)
  simp only [World.size_alloc] at rb1
  have zw1 := hg1.size
  simp only [World.size_alloc] at zw1
  obtain ⟨⟨r0, r1, r2, r3, r4⟩, rf, zr⟩ := rb1.out
  go_wp2
  rw [HE.out]
  refine bodyPost_ret (v := .tuple #[.agg #[.int .i64 R.k, .int .i64 R.r, .int .i64 R.l0, .int .i64 R.l1, .slice V R.xs.length cv], .int .i64 er]) (by simp [results, Try.results50, go_sem, *]) rfl ⟨by (repeat (first | with_reducible exact Below.refl _ _ | with_reducible assumption | (with_reducible refine bl_set ?_ (by simp; try omega) _) | (with_reducible refine bl_alloc ?_ _) | (with_reducible refine bl_dn ?_ _) | (with_reducible refine bl_drew ?_) | (with_reducible refine bl_then ?_ (by with_reducible assumption)))), V, cv, rfl, ?_, ?_, hcp⟩
  · exact sl_cells hsV hge (by simp) _ _ _ _ _
  · intro g o e; have hh := hge g o e; (try simp at hh); omega
set_option maxRecDepth 100000 in
theorem fend_min (a : Arr) (A : Option Addr) (c : Nat) (hla : a.xs.length ≤ 9223372036854775807) (f0 : Fits a.l0) (f1 : Fits a.l1) (hcA : a.xs.length ≤ c) (w : World) (hs : Sl w A a.xs) : Calls Try.prog 89 #[.agg #[.int .i64 a.k, .int .i64 a.r, .int .i64 a.l0, .int .i64 a.l1, .slice A a.xs.length c], .func (.func 90) #[] #[]] w (ArrRet w (extEnd 31 a)) := by
  obtain ⟨er, R, hE⟩ : ∃ er R, extEnd 31 a = (er, R) := ⟨_, _, rfl⟩
  have HE := hide hE
  clear hE
  have hmf : ∀ (fn : Fn) (first cap : Array Value) (w : World), (Instr.makeFunc fn first cap).run Try.prog w = .ok (.func fn first cap) w := fun _ _ _ _ => rfl
  go_enter Try.func89, Try.ntmps89
  go_wp2_with fail
  refine (fold_end true (endRow 31) a A c (w.heap.size + 1) hla f0 f1 hcA _ (hs.below (by (repeat (first | with_reducible exact Below.refl _ _ | with_reducible assumption | (with_reducible refine bl_set ?_ (by simp; try omega) _) | (with_reducible refine bl_alloc ?_ _) | (with_reducible refine bl_dn ?_ _) | (with_reducible refine bl_drew ?_) | (with_reducible refine bl_then ?_ (by with_reducible assumption)))))) (fun hk hr row B d W hm hb hsr => least1_any row B d (w.heap.size + 1) (by have := (rowsL_mem hk hr hm).1; omega) W hsr ((hb.cell (p := ⟨w.heap.size + 1, 0, none⟩) (by simp)).trans (by simp [go_sem])))).mono ?_
  rw [show extFold true (endRow 31) a = (er, R) from HE.out]
  rintro e w1 ⟨hg1, V, cv, rfl, hsV, hge, hcp⟩
  have rb1 := hide ((RBox.new _ _).below hg1)
  simp only [World.size_alloc] at rb1
  have zw1 := hg1.size
  simp only [World.size_alloc] at zw1
  obtain ⟨⟨r0, r1, r2, r3, r4⟩, rf, zr⟩ := rb1.out
  go_wp2
  rw [HE.out]
  refine bodyPost_ret (v := .tuple #[.agg #[.int .i64 R.k, .int .i64 R.r, .int .i64 R.l0, .int .i64 R.l1, .slice V R.xs.length cv], .int .i64 er]) (by simp [results, Try.results89, go_sem, *]) rfl ⟨by (repeat (first | with_reducible exact Below.refl _ _ | with_reducible assumption | (with_reducible refine bl_set ?_ (by simp; try omega) _) | (with_reducible refine bl_alloc ?_ _) | (with_reducible refine bl_dn ?_ _) | (with_reducible refine bl_drew ?_) | (with_reducible refine bl_then ?_ (by with_reducible assumption)))), V, cv, rfl, ?_, ?_, hcp⟩
  · exact sl_cells hsV hge (by simp) _ _ _ _ _
  · intro g o e; have hh := hge g o e; (try simp at hh); omega
set_option maxRecDepth 100000 in
theorem fend_max (a : Arr) (A : Option Addr) (c : Nat) (hla : a.xs.length ≤ 9223372036854775807) (f0 : Fits a.l0) (f1 : Fits a.l1) (hcA : a.xs.length ≤ c) (w : World) (hs : Sl w A a.xs) : Calls Try.prog 89 #[.agg #[.int .i64 a.k, .int .i64 a.r, .int .i64 a.l0, .int .i64 a.l1, .slice A a.xs.length c], .func (.func 92) #[] #[]] w (ArrRet w (extEnd 32 a)) := by
  obtain ⟨er, R, hE⟩ : ∃ er R, extEnd 32 a = (er, R) := ⟨_, _, rfl⟩
  have HE := hide hE
  clear hE
  have hmf : ∀ (fn : Fn) (first cap : Array Value) (w : World), (Instr.makeFunc fn first cap).run Try.prog w = .ok (.func fn first cap) w := fun _ _ _ _ => rfl
  go_enter Try.func89, Try.ntmps89
  go_wp2_with fail
  refine (fold_end true (endRow 32) a A c (w.heap.size + 1) hla f0 f1 hcA _ (hs.below (by (repeat (first | with_reducible exact Below.refl _ _ | with_reducible assumption | (with_reducible refine bl_set ?_ (by simp; try omega) _) | (with_reducible refine bl_alloc ?_ _) | (with_reducible refine bl_dn ?_ _) | (with_reducible refine bl_drew ?_) | (with_reducible refine bl_then ?_ (by with_reducible assumption)))))) (fun hk hr row B d W hm hb hsr => most1_any row B d (w.heap.size + 1) (by have := (rowsL_mem hk hr hm).1; omega) W hsr ((hb.cell (p := ⟨w.heap.size + 1, 0, none⟩) (by simp)).trans (by simp [go_sem])))).mono ?_
  rw [show extFold true (endRow 32) a = (er, R) from HE.out]
  rintro e w1 ⟨hg1, V, cv, rfl, hsV, hge, hcp⟩
  have rb1 := hide ((RBox.new _ _).below hg1)
  simp only [World.size_alloc] at rb1
  have zw1 := hg1.size
  simp only [World.size_alloc] at zw1
  obtain ⟨⟨r0, r1, r2, r3, r4⟩, rf, zr⟩ := rb1.out
  go_wp2
  rw [HE.out]
  refine bodyPost_ret (v := .tuple #[.agg #[.int .i64 R.k, .int .i64 R.r, .int .i64 R.l0, .int .i64 R.l1, .slice V R.xs.length cv], .int .i64 er]) (by simp [results, Try.results89, go_sem, *]) rfl ⟨by (repeat (first | with_reducible exact Below.refl _ _ | with_reducible assumption | (with_reducible refine bl_set ?_ (by simp; try omega) _) | (with_reducible refine bl_alloc ?_ _) | (with_reducible refine bl_dn ?_ _) | (with_reducible refine bl_drew ?_) | (with_reducible refine bl_then ?_ (by with_reducible assumption)))), V, cv, rfl, ?_, ?_, hcp⟩
  · exact sl_cells hsV hge (by simp) _ _ _ _ _
  · intro g o e; have hh := hge g o e; (try simp at hh); omega
set_option maxRecDepth 100000 in
theorem fleast_any (a : Arr) (A : Option Addr) (c : Nat) (hla : a.xs.length ≤ 9223372036854775807) (f0 : Fits a.l0) (f1 : Fits a.l1) (hcA : a.xs.length ≤ c) (w : World) (hs : Sl w A a.xs) : Calls Try.prog 46 #[.agg #[.int .i64 a.k, .int .i64 a.r, .int .i64 a.l0, .int .i64 a.l1, .slice A a.xs.length c]] w (ArrRet w (extEnd 31 a)) := by
  obtain ⟨er, R, hE⟩ : ∃ er R, extEnd 31 a = (er, R) := ⟨_, _, rfl⟩
  have HE := hide hE
  clear hE
  go_enter Try.func46, Try.ntmps46
  go_wp2_with fail
  refine (fend_min a A c hla f0 f1 hcA _ (hs.below (by (repeat (first | with_reducible exact Below.refl _ _ | with_reducible assumption | (with_reducible refine bl_set ?_ (by simp; try omega) _) | (with_reducible refine bl_alloc ?_ _) | (with_reducible refine bl_dn ?_ _) | (with_reducible refine bl_drew ?_) | (with_reducible refine bl_then ?_ (by with_reducible assumption))))))).mono ?_
  rw [HE.out]
  rintro e w1 ⟨hg1, V, cv, rfl, hsV, hge, hcp⟩
  have rb1 := hide ((RBox.new _ _).below hg1)
  simp only [World.size_alloc] at rb1
  have zw1 := hg1.size
  simp only [World.size_alloc] at zw1
  obtain ⟨⟨r0, r1, r2, r3, r4⟩, rf, zr⟩ := rb1.out
  go_wp2
  rw [HE.out]
  refine bodyPost_ret (v := .tuple #[.agg #[.int .i64 R.k, .int .i64 R.r, .int .i64 R.l0, .int .i64 R.l1, .slice V R.xs.length cv], .int .i64 er]) (by simp [results, Try.results46, go_sem, *]) rfl ⟨by (repeat (first | with_reducible exact Below.refl _ _ | with_reducible assumption | (with_reducible refine bl_set ?_ (by simp; try omega) _) | (with_reducible refine bl_alloc ?_ _) | (with_reducible refine bl_dn ?_ _) | (with_reducible refine bl_drew ?_) | (with_reducible refine bl_then ?_ (by with_reducible assumption)))), V, cv, rfl, ?_, ?_, hcp⟩
  · exact sl_cells hsV hge (by simp) _ _ _ _ _
  · intro g o e; have hh := hge g o e; (try simp at hh); omega
set_option maxRecDepth 100000 in
theorem fmost_any (a : Arr) (A : Option Addr) (c : Nat) (hla : a.xs.length ≤ 9223372036854775807) (f0 : Fits a.l0) (f1 : Fits a.l1) (hcA : a.xs.length ≤ c) (w : World) (hs : Sl w A a.xs) : Calls Try.prog 48 #[.agg #[.int .i64 a.k, .int .i64 a.r, .int .i64 a.l0, .int .i64 a.l1, .slice A a.xs.length c]] w (ArrRet w (extEnd 32 a)) := by
  obtain ⟨er, R, hE⟩ : ∃ er R, extEnd 32 a = (er, R) := ⟨_, _, rfl⟩
  have HE := hide hE
  clear hE
  go_enter Try.func48, Try.ntmps48
  go_wp2_with fail
  refine (fend_max a A c hla f0 f1 hcA _ (hs.below (by (repeat (first | with_reducible exact Below.refl _ _ | with_reducible assumption | (with_reducible refine bl_set ?_ (by simp; try omega) _) | (with_reducible refine bl_alloc ?_ _) | (with_reducible refine bl_dn ?_ _) | (with_reducible refine bl_drew ?_) | (with_reducible refine bl_then ?_ (by with_reducible assumption))))))).mono ?_
  rw [HE.out]
  rintro e w1 ⟨hg1, V, cv, rfl, hsV, hge, hcp⟩
  have rb1 := hide ((RBox.new _ _).below hg1)
  simp only [World.size_alloc] at rb1
  have zw1 := hg1.size
  simp only [World.size_alloc] at zw1
  obtain ⟨⟨r0, r1, r2, r3, r4⟩, rf, zr⟩ := rb1.out
  go_wp2
  rw [HE.out]
  refine bodyPost_ret (v := .tuple #[.agg #[.int .i64 R.k, .int .i64 R.r, .int .i64 R.l0, .int .i64 R.l1, .slice V R.xs.length cv], .int .i64 er]) (by simp [results, Try.results48, go_sem, *]) rfl ⟨by (repeat (first | with_reducible exact Below.refl _ _ | with_reducible assumption | (with_reducible refine bl_set ?_ (by simp; try omega) _) | (with_reducible refine bl_alloc ?_ _) | (with_reducible refine bl_dn ?_ _) | (with_reducible refine bl_drew ?_) | (with_reducible refine bl_then ?_ (by with_reducible assumption)))), V, cv, rfl, ?_, ?_, hcp⟩
  · exact sl_cells hsV hge (by simp) _ _ _ _ _
  · intro g o e; have hh := hge g o e; (try simp at hh); omega
end Ar
end Go.Proofs.Ytfpnafeildigaaa
/-
Contracts of chapter 11: Sum of the reference.
-/
set_option linter.unusedSimpArgs false
set_option linter.unusedVariables false
namespace Go.Proofs.Ytfpnafeildigaaa
namespace Ar
open Go.RowKit Sc
theorem foldR_xs (a : Arr) (ys : List Int) : (foldR a ys).xs = ys := by unfold foldR; split <;> rfl
theorem rfolded_any (a : Arr) (A : Option Addr) (c : Nat) (ys : List Int) (V : Option Addr) (cv : Nat) (w : World) :
    Calls Try.prog 85 #[.agg #[.int .i64 a.k, .int .i64 a.r, .int .i64 a.l0, .int .i64 a.l1, .slice A a.xs.length c], .slice V ys.length cv] w fun e w' => e = .returned (.agg #[.int .i64 (foldR a ys).k, .int .i64 (foldR a ys).r, .int .i64 (foldR a ys).l0, .int .i64 (foldR a ys).l1, .slice V ys.length cv]) ∧ Below w.heap.size w w' := by
  by_cases h : a.r = 1
  · have n1 : (a.r == 1) = true := by simpa using h
    rw [foldR_one n1]
    clear h
    go_enter Try.func85, Try.ntmps85
    go_wp2
    refine bodyPost_ret (v := .agg #[.int .i64 1, .int .i64 0, .int .i64 0, .int .i64 0, .slice V ys.length cv]) (by simp [results, Try.results85, go_sem]) rfl ⟨rfl, by (repeat (first | with_reducible exact Below.refl _ _ | with_reducible assumption | (with_reducible refine bl_set ?_ (by simp; try omega) _) | (with_reducible refine bl_alloc ?_ _) | (with_reducible refine bl_dn ?_ _) | (with_reducible refine bl_drew ?_) | (with_reducible refine bl_then ?_ (by with_reducible assumption))))⟩
  · have n1 : (a.r == 1) = false := by simpa using h
    rw [foldR_two n1]
    clear h
    go_enter Try.func85, Try.ntmps85
    go_wp2
    refine bodyPost_ret (v := .agg #[.int .i64 1, .int .i64 1, .int .i64 ys.length, .int .i64 0, .slice V ys.length cv]) (by simp [results, Try.results85, go_sem]) rfl ⟨rfl, by (repeat (first | with_reducible exact Below.refl _ _ | with_reducible assumption | (with_reducible refine bl_set ?_ (by simp; try omega) _) | (with_reducible refine bl_alloc ?_ _) | (with_reducible refine bl_dn ?_ _) | (with_reducible refine bl_drew ?_) | (with_reducible refine bl_then ?_ (by with_reducible assumption))))⟩
theorem rsum_bad (a : Arr) (A : Option Addr) (c : Nat) (hla : a.xs.length ≤ 9223372036854775807) (f0 : Fits a.l0) (f1 : Fits a.l1) (w : World) (hs : Sl w A a.xs) (h : chkF true a ≠ 0) : Calls Try.prog 43 #[.agg #[.int .i64 a.k, .int .i64 a.r, .int .i64 a.l0, .int .i64 a.l1, .slice A a.xs.length c]] w (ArrRet w (chkF true a, .zero)) := by
  have n1 : (chkF true a != 0) = true := by simpa using h
  clear h
  go_enter Try.func43, Try.ntmps43
  go_wp2_with fail
  refine (asked_any true a A c hla f0 f1 _ (hs.below (by (repeat (first | with_reducible exact Below.refl _ _ | with_reducible assumption | (with_reducible refine bl_set ?_ (by simp; try omega) _) | (with_reducible refine bl_alloc ?_ _) | (with_reducible refine bl_dn ?_ _) | (with_reducible refine bl_drew ?_) | (with_reducible refine bl_then ?_ (by with_reducible assumption))))))).mono ?_
  rintro e w1 ⟨rfl, hg1⟩
  obtain ⟨hc1, hf1, hz1⟩ := bcell hg1
  (have z0_w1 : w.heap.size < w1.heap.size := by have := hg1.size; simp at this; omega); (have z1_w1 : w.heap.size + 1 < w1.heap.size := by have := hg1.size; simp at this; omega)
  go_wp2
  refine bodyPost_ret (v := .tuple #[.agg #[.int .i64 0, .int .i64 0, .int .i64 0, .int .i64 0, .slice none 0 0], .int .i64 (chkF true a)]) (by simp [results, Try.results43, go_sem, *]) rfl (arr_zero _ (by (repeat (first | with_reducible exact Below.refl _ _ | with_reducible assumption | (with_reducible refine bl_set ?_ (by simp; try omega) _) | (with_reducible refine bl_alloc ?_ _) | (with_reducible refine bl_dn ?_ _) | (with_reducible refine bl_drew ?_) | (with_reducible refine bl_then ?_ (by with_reducible assumption))))))
set_option maxRecDepth 100000 in
set_option maxHeartbeats 4000000 in
theorem rsum_main (a : Arr) (A : Option Addr) (c : Nat) (hla : a.xs.length ≤ 9223372036854775807) (f0 : Fits a.l0) (f1 : Fits a.l1) (hx : ∀ x ∈ a.xs, Fits x) (hcA : a.xs.length ≤ c) (w : World) (hs : Sl w A a.xs) (h : chkF true a = 0) :
    Calls Try.prog 43 #[.agg #[.int .i64 a.k, .int .i64 a.r, .int .i64 a.l0, .int .i64 a.l1, .slice A a.xs.length c]] w (ArrRet w (extSum a)) := by
  obtain ⟨hk, hki, hr⟩ := chkF_ok h
  have hml : (rowsL a).length ≤ 400 := by obtain ⟨m, n, _, _, h2, _, e⟩ := rowsL_nat hk hr; rw [e]; simpa using h2
  have H := hide h; have HK := hide hk; have HR := hide hr; have HX := hide hx
  clear h hk hr hx hki
  go_enter Try.func43, Try.ntmps43
  go_wp2_with fail
  refine (asked_any true a A c hla f0 f1 _ (hs.below (by (repeat (first | with_reducible exact Below.refl _ _ | with_reducible assumption | (with_reducible refine bl_set ?_ (by simp; try omega) _) | (with_reducible refine bl_alloc ?_ _) | (with_reducible refine bl_dn ?_ _) | (with_reducible refine bl_drew ?_) | (with_reducible refine bl_then ?_ (by with_reducible assumption))))))).mono ?_
  rw [H.out]
  rintro e w1 ⟨rfl, hg1⟩
  have st1 := hide ((((St.init w).box c hs).alloc _).below hg1)
  have rb1 := hide ((RBox.new _ _).below hg1)
  simp only [World.size_alloc] at rb1
  clear hg1
  obtain ⟨hbw, ⟨⟨a0, a1, a2, a3, a4⟩, sa, za⟩, _⟩ := st1.out
  go_wp2_with fail
  refine (rrows_any a A c hcA _ (sa.below (by (repeat (first | with_reducible exact Below.refl _ _ | with_reducible assumption | (with_reducible refine bl_set ?_ (by simp; try omega) _) | (with_reducible refine bl_alloc ?_ _) | (with_reducible refine bl_dn ?_ _) | (with_reducible refine bl_drew ?_) | (with_reducible refine bl_then ?_ (by with_reducible assumption)))))) HK.out HR.out).mono ?_
  rintro e w2 ⟨hg2, R, rc, rfl, hRs⟩
  have st2 := hide (st1.out.below hg2)
  have rb2 := hide (rb1.out.below hg2)
  have hRs := hide hRs.rs
  clear hbw hg2; clear a0 a1 a2 a3 a4 sa za
  obtain ⟨hbw, ⟨⟨a0, a1, a2, a3, a4⟩, sa, za⟩, _⟩ := st2.out
  go_wp2
  go_loopw [5, 7] (fun s5 s7 wr => ∃ (i : Nat) (ys : List Int) (v : Value), i ≤ (rowsL a).length ∧ v = s5 ∧ s7 = .int .i64 i ∧ Hid (mapG sumRow ((rowsL a).take i) = (0, ys)) ∧ Hid (ys.length = i) ∧ Hid (Acc wr w2.heap.size v ys) ∧ Hid (Below w2.heap.size w2 wr)) (fun _ s7 _ => (rowsL a).length - (intOf s7).toNat)
  case atStart => exact ⟨0, [], _, Nat.zero_le _, rfl, rfl, rfl, rfl, Acc.nil _ _, Below.refl _ _⟩
  case round =>
    obtain ⟨i, ys, v, hi, rfl, rfl, hm, hy, hac, hbl⟩ := hrel
    clear hbw; clear a0 a1 a2 a3 a4 sa za
    by_cases hlt : i < (rowsL a).length
    · obtain ⟨b, o, row, B, d, rfl, hbk, hcx, hsr, hcr, hrow⟩ := (hRs.out.below hbl.out).at_ hlt
      have hmem : row ∈ rowsL a := by rw [← hrow.out, List.getD_eq_getElem?_getD, List.getElem?_eq_getElem hlt]; exact List.getElem_mem hlt
      obtain ⟨hrl, hrm⟩ := rowsL_mem HK.out HR.out hmem
      have hrf : Hid (∀ x ∈ row, Fits x) := fun x hx => HX.out x (hrm x hx)
      have hil : (i : Int) < ((rowsL a).length : Int) := by omega
      have HRowAt := hide hrow.out
      clear hmem hcr hrm
      obtain ⟨er, zs, hsc⟩ : ∃ er ys, scanE 0 row = (er, ys) := ⟨_, _, rfl⟩
      have HS := hide hsc
      clear hsc
      go_wp2_with fail
      refine (rsums_any row B d (by omega) hrf.out _ hsr.out).mono ?_
      rw [HS.out]
      rintro e w6 ⟨hg6, Z, cz, rfl, hsz, hgez, hcpz⟩
      have hac6 := hide (hac.out.below hg6)
      have hb6 := hide (bl_then hbl.out hg6)
      have hz6 : w2.heap.size ≤ w6.heap.size := hb6.out.size
      have HZ := hide (show Sl w6 Z zs from hsz)
      clear hg6 hgez hcpz hsz
      by_cases he : er = 0
      · subst he
        obtain ⟨m, hm1⟩ : ∃ m, lastE 0 zs = m := ⟨_, rfl⟩
        have HV : Hid (sumRow row = (m, 0)) := by show _ = _; unfold sumRow; rw [HS.out, ← hm1]; rfl
        have hlen : ys.length + [m].length ≤ 1000000 := by rw [hy.out]; simp; omega
        by_cases h0 : zs.length = 0
        · have hz : zs = [] := List.eq_nil_of_length_eq_zero h0
          subst hz
          have hm0 : m = 0 := hm1.symm
          subst hm0
          clear hm1 h0
          (go_wp2_with (at_builtin; refine wpList_app64 rfl (.tmp 46) (.tmp 48) rfl w2.heap.size v ys rfl (hac6.out.alloc _) (some ⟨w6.heap.size, 0, none⟩) 1 1 [(0 : Int)] rfl rfl (sl_1 (by simp [go_sem])) hlen (by simp; omega) ?_; intro v2 w7 hac7 hg7; have hb7 := hide (below_gb (bl_alloc hb6.out _) hg7 (by simp; omega) (fun k hk => hac6.out.own_ge k hk)); have hac7 := hide hac7; clear hg7); go_roundw; (case rel => exact ⟨i + 1, _, v2, by omega, rfl, by go_num, (by show _ = _; rw [take_at hlt hrow.out]; have := mapG_step hm.out (x := row) (by rw [HV.out]); rw [HV.out] at this; exact this), (by show _ = _; simp [hy.out]), hac7, hb7⟩); (case measure => simp [intOf]; omega))
        · obtain ⟨k, hk⟩ : ∃ k, zs.length = k + 1 := ⟨zs.length - 1, by omega⟩
          obtain ⟨b', o', x, rfl, hbk', hcx', hx1⟩ := Sl.at_ (xs := zs) (k := k) HZ.out (by omega)
          have hm2 : m = x := by rw [← hm1, lastE_get, if_neg h0, hk, Nat.add_sub_cancel]; exact hx1.out
          subst hm2
          rw [show ((0 : Int), zs).2.length = k + 1 from hk]
          have e1 : IntKind.i64.wrap (k : Int) = (k : Int) := IntWalk.i64_in _ (by have := scanE_len HS.out; omega)
          clear hk h0 hx1 hm1
          (go_wp2_with (at_builtin; refine wpList_app64 rfl (.tmp 46) (.tmp 48) rfl w2.heap.size v ys rfl (hac6.out.alloc _) (some ⟨w6.heap.size, 0, none⟩) 1 1 [m] rfl rfl (sl_1 (by simp [go_sem])) hlen (by simp; omega) ?_; intro v2 w7 hac7 hg7; have hb7 := hide (below_gb (bl_alloc hb6.out _) hg7 (by simp; omega) (fun k hk => hac6.out.own_ge k hk)); have hac7 := hide hac7; clear hg7); go_roundw; (case rel => exact ⟨i + 1, _, v2, by omega, rfl, by go_num, (by show _ = _; rw [take_at hlt hrow.out]; have := mapG_step hm.out (x := row) (by rw [HV.out]); rw [HV.out] at this; exact this), (by show _ = _; simp [hy.out]), hac7, hb7⟩); (case measure => simp [intOf]; omega))
      · have c1 : (er != 0) = true := by simpa using he
        have HV : Hid (mapG sumRow (rowsL a) = (er, [])) := by
          have e0 : sumRow row = (0, er) := by unfold sumRow; rw [HS.out, if_pos he]
          have e1 := mapG_err (r := (rowsL a).drop (i + 1)) (x := row) hm.out (by rw [e0]; exact he)
          rw [← split_at hlt hrow.out, e0] at e1
          show _ = _
          rw [mapG_bad sumRow (rowsL a) (by rw [e1]; exact he), e1]
        have HY : Hid (extSum a = (er, .zero)) := by show extFold true sumRow a = _; rw [extFold_err H.out (by rw [HV.out]; exact he), HV.out]
        clear he
        (have rb6 := hide (rb2.out.below (bl_then (Below.refl _ _) hb6.out)); have hb0 : Below w.heap.size w w6 := bl_then st2.out.1 hb6.out; obtain ⟨⟨r0, r1, r2, r3, r4⟩, rf, zr⟩ := rb6.out; go_wp2; rw [HY.out]; refine bodyPost_ret (v := .tuple #[.agg #[.int .i64 0, .int .i64 0, .int .i64 0, .int .i64 0, .slice none 0 0], .int .i64 er]) (by simp [results, Try.results43, go_sem, *]) rfl (arr_zero _ (by (repeat (first | with_reducible exact Below.refl _ _ | with_reducible assumption | (with_reducible refine bl_set ?_ (by simp; try omega) _) | (with_reducible refine bl_alloc ?_ _) | (with_reducible refine bl_dn ?_ _) | (with_reducible refine bl_drew ?_) | (with_reducible refine bl_then ?_ (by with_reducible assumption)))))))
    · have e : i = (rowsL a).length := by omega
      subst e
      have HE : Hid (extSum a = (0, foldR a ys)) := by
        have e1 := hm.out
        rw [List.take_of_length_le (Nat.le_refl _)] at e1
        show extFold true (sumRow) a = _
        exact extFold_ok H.out e1
      obtain ⟨V, cv, rfl, hsl, hge, hcp⟩ := hac.out.sl
      have hsl := hide hsl
      have st5 := hide (st2.out.below hbl.out)
      have rb5 := hide (rb2.out.below hbl.out)
      have zw2 : w.heap.size + 1 < w2.heap.size := rb2.out.2.2
      have hz5 : w2.heap.size ≤ wr.heap.size := hbl.out.size
      clear hac hm
      obtain ⟨hbw, ⟨⟨a0, a1, a2, a3, a4⟩, sa, za⟩, _⟩ := st5.out
      go_wp2_with fail
      refine (rfolded_any a A c ys V cv _).mono ?_
      rintro e w9 ⟨rfl, hg9⟩
      have rb9 := hide (rb5.out.below hg9)
      have hb9 := bl_then hbw hg9
      have hsl9 := hide (hsl.out.below hg9)
      clear hbw; clear a0 a1 a2 a3 a4 sa za
      obtain ⟨⟨r0, r1, r2, r3, r4⟩, rf, zr⟩ := rb9.out
      go_wp2
      rw [HE.out]
      refine bodyPost_ret (v := .tuple #[.agg #[.int .i64 (foldR a ys).k, .int .i64 (foldR a ys).r, .int .i64 (foldR a ys).l0, .int .i64 (foldR a ys).l1, .slice V ys.length cv], .int .i64 0]) (by simp [results, Try.results43, go_sem, *]) rfl ⟨by (repeat (first | with_reducible exact Below.refl _ _ | with_reducible assumption | (with_reducible refine bl_set ?_ (by simp; try omega) _) | (with_reducible refine bl_alloc ?_ _) | (with_reducible refine bl_dn ?_ _) | (with_reducible refine bl_drew ?_) | (with_reducible refine bl_then ?_ (by with_reducible assumption)))), V, cv, by rw [foldR_xs], ?_, ?_, by rw [foldR_xs]; exact hcp⟩
      · rw [foldR_xs]
        repeat (refine Sl.set (B := w2.heap.size) ?_ hge (by simp; omega) _)
        exact hsl9.out
      · intro g o e; have := hge g o e; omega
theorem rsum_any (a : Arr) (A : Option Addr) (c : Nat) (hla : a.xs.length ≤ 9223372036854775807) (f0 : Fits a.l0) (f1 : Fits a.l1) (hx : ∀ x ∈ a.xs, Fits x) (hcA : a.xs.length ≤ c) (w : World) (hs : Sl w A a.xs) : Calls Try.prog 43 #[.agg #[.int .i64 a.k, .int .i64 a.r, .int .i64 a.l0, .int .i64 a.l1, .slice A a.xs.length c]] w (ArrRet w (extSum a)) := by
  by_cases h : chkF true a = 0
  · exact rsum_main a A c hla f0 f1 hx hcA w hs h
  · show ArrRet w (extFold true sumRow a) |> Calls _ _ _ _
    rw [extFold_bad h]; exact rsum_bad a A c hla f0 f1 w hs h
end Ar
end Go.Proofs.Ytfpnafeildigaaa
/-
Contracts of chapter 11: Count, Least, Most of the reference.
-/
set_option linter.unusedSimpArgs false
set_option linter.unusedVariables false
namespace Go.Proofs.Ytfpnafeildigaaa
namespace Ar
open Go.RowKit Sc
theorem rcount_bad (a : Arr) (A : Option Addr) (c : Nat) (hla : a.xs.length ≤ 9223372036854775807) (f0 : Fits a.l0) (f1 : Fits a.l1) (w : World) (hs : Sl w A a.xs) (h : chkF false a ≠ 0) : Calls Try.prog 51 #[.agg #[.int .i64 a.k, .int .i64 a.r, .int .i64 a.l0, .int .i64 a.l1, .slice A a.xs.length c]] w (ArrRet w (chkF false a, .zero)) := by
  have n1 : (chkF false a != 0) = true := by simpa using h
  clear h
  go_enter Try.func51, Try.ntmps51
  go_wp2_with fail
  refine (asked_any false a A c hla f0 f1 _ (hs.below (by (repeat (first | with_reducible exact Below.refl _ _ | with_reducible assumption | (with_reducible refine bl_set ?_ (by simp; try omega) _) | (with_reducible refine bl_alloc ?_ _) | (with_reducible refine bl_dn ?_ _) | (with_reducible refine bl_drew ?_) | (with_reducible refine bl_then ?_ (by with_reducible assumption))))))).mono ?_
  rintro e w1 ⟨rfl, hg1⟩
  obtain ⟨hc1, hf1, hz1⟩ := bcell hg1
  (have z0_w1 : w.heap.size < w1.heap.size := by have := hg1.size; simp at this; omega); (have z1_w1 : w.heap.size + 1 < w1.heap.size := by have := hg1.size; simp at this; omega)
  go_wp2
  refine bodyPost_ret (v := .tuple #[.agg #[.int .i64 0, .int .i64 0, .int .i64 0, .int .i64 0, .slice none 0 0], .int .i64 (chkF false a)]) (by simp [results, Try.results51, go_sem, *]) rfl (arr_zero _ (by (repeat (first | with_reducible exact Below.refl _ _ | with_reducible assumption | (with_reducible refine bl_set ?_ (by simp; try omega) _) | (with_reducible refine bl_alloc ?_ _) | (with_reducible refine bl_dn ?_ _) | (with_reducible refine bl_drew ?_) | (with_reducible refine bl_then ?_ (by with_reducible assumption))))))
set_option maxRecDepth 100000 in
set_option maxHeartbeats 4000000 in
theorem rcount_main (a : Arr) (A : Option Addr) (c : Nat) (hla : a.xs.length ≤ 9223372036854775807) (f0 : Fits a.l0) (f1 : Fits a.l1) (hx : ∀ x ∈ a.xs, Fits x) (hcA : a.xs.length ≤ c) (w : World) (hs : Sl w A a.xs) (h : chkF false a = 0) :
    Calls Try.prog 51 #[.agg #[.int .i64 a.k, .int .i64 a.r, .int .i64 a.l0, .int .i64 a.l1, .slice A a.xs.length c]] w (ArrRet w (extCount a)) := by
  obtain ⟨hk, hki, hr⟩ := chkF_ok h
  have hml : (rowsL a).length ≤ 400 := by obtain ⟨m, n, _, _, h2, _, e⟩ := rowsL_nat hk hr; rw [e]; simpa using h2
  have H := hide h; have HK := hide hk; have HR := hide hr; have HX := hide hx
  clear h hk hr hx hki
  go_enter Try.func51, Try.ntmps51
  go_wp2_with fail
  refine (asked_any false a A c hla f0 f1 _ (hs.below (by (repeat (first | with_reducible exact Below.refl _ _ | with_reducible assumption | (with_reducible refine bl_set ?_ (by simp; try omega) _) | (with_reducible refine bl_alloc ?_ _) | (with_reducible refine bl_dn ?_ _) | (with_reducible refine bl_drew ?_) | (with_reducible refine bl_then ?_ (by with_reducible assumption))))))).mono ?_
  rw [H.out]
  rintro e w1 ⟨rfl, hg1⟩
  have st1 := hide ((((St.init w).box c hs).alloc _).below hg1)
  have rb1 := hide ((RBox.new _ _).below hg1)
  simp only [World.size_alloc] at rb1
  clear hg1
  obtain ⟨hbw, ⟨⟨a0, a1, a2, a3, a4⟩, sa, za⟩, _⟩ := st1.out
  go_wp2_with fail
  refine (rrows_any a A c hcA _ (sa.below (by (repeat (first | with_reducible exact Below.refl _ _ | with_reducible assumption | (with_reducible refine bl_set ?_ (by simp; try omega) _) | (with_reducible refine bl_alloc ?_ _) | (with_reducible refine bl_dn ?_ _) | (with_reducible refine bl_drew ?_) | (with_reducible refine bl_then ?_ (by with_reducible assumption)))))) HK.out HR.out).mono ?_
  rintro e w2 ⟨hg2, R, rc, rfl, hRs⟩
  have st2 := hide (st1.out.below hg2)
  have rb2 := hide (rb1.out.below hg2)
  have hRs := hide hRs.rs
  clear hbw hg2; clear a0 a1 a2 a3 a4 sa za
  obtain ⟨hbw, ⟨⟨a0, a1, a2, a3, a4⟩, sa, za⟩, _⟩ := st2.out
  go_wp2
  go_loopw [5, 7] (fun s4 s6 wr => ∃ (i : Nat) (ys : List Int) (v : Value), i ≤ (rowsL a).length ∧ v = s4 ∧ s6 = .int .i64 i ∧ Hid (mapG countRow ((rowsL a).take i) = (0, ys)) ∧ Hid (ys.length = i) ∧ Hid (Acc wr w2.heap.size v ys) ∧ Hid (Below w2.heap.size w2 wr)) (fun _ s6 _ => (rowsL a).length - (intOf s6).toNat)
  case atStart => exact ⟨0, [], _, Nat.zero_le _, rfl, rfl, rfl, rfl, Acc.nil _ _, Below.refl _ _⟩
  case round =>
    obtain ⟨i, ys, v, hi, rfl, rfl, hm, hy, hac, hbl⟩ := hrel
    clear hbw; clear a0 a1 a2 a3 a4 sa za
    by_cases hlt : i < (rowsL a).length
    · obtain ⟨b, o, row, B, d, rfl, hbk, hcx, hsr, hcr, hrow⟩ := (hRs.out.below hbl.out).at_ hlt
      have hmem : row ∈ rowsL a := by rw [← hrow.out, List.getD_eq_getElem?_getD, List.getElem?_eq_getElem hlt]; exact List.getElem_mem hlt
      obtain ⟨hrl, hrm⟩ := rowsL_mem HK.out HR.out hmem
      have hil : (i : Int) < ((rowsL a).length : Int) := by omega
      have e1 : IntKind.i64.wrap (row.length : Int) = (row.length : Int) := IntWalk.i64_in _ (by omega)
      have HV : Hid (countRow row = ((row.length : Int), 0)) := rfl
      have hlen : ys.length + [(row.length : Int)].length ≤ 1000000 := by rw [hy.out]; simp; omega
      have hzr : w2.heap.size ≤ wr.heap.size := hbl.out.size
      clear hmem hcr hrm
      go_wp2_with (at_builtin; refine wpList_app64 rfl (.tmp 22) (.tmp 28) rfl w2.heap.size v ys rfl (hac.out.alloc _) (some ⟨wr.heap.size, 0, none⟩) 1 1 [(row.length : Int)] rfl rfl (sl_1 (by simp [go_sem])) hlen (by simp; omega) ?_; intro v2 w7 hac7 hg7; have hb7 := hide (below_gb (bl_alloc hbl.out _) hg7 (by simp; omega) (fun k hk => hac.out.own_ge k hk)); have hac7 := hide hac7; clear hg7)
      go_roundw
      case rel => exact ⟨i + 1, _, v2, by omega, rfl, by go_num, (by show _ = _; rw [take_at hlt hrow.out]; have := mapG_step hm.out (x := row) (by rw [HV.out]); rw [HV.out] at this; exact this), (by show _ = _; simp [hy.out]), hac7, hb7⟩
      case measure => simp [intOf]; omega
    · have e : i = (rowsL a).length := by omega
      subst e
      have HE : Hid (extCount a = (0, foldR a ys)) := by
        have e1 := hm.out
        rw [List.take_of_length_le (Nat.le_refl _)] at e1
        show extFold false (countRow) a = _
        exact extFold_ok H.out e1
      obtain ⟨V, cv, rfl, hsl, hge, hcp⟩ := hac.out.sl
      have hsl := hide hsl
      have st5 := hide (st2.out.below hbl.out)
      have rb5 := hide (rb2.out.below hbl.out)
      have zw2 : w.heap.size + 1 < w2.heap.size := rb2.out.2.2
      have hz5 : w2.heap.size ≤ wr.heap.size := hbl.out.size
      clear hac hm
      obtain ⟨hbw, ⟨⟨a0, a1, a2, a3, a4⟩, sa, za⟩, _⟩ := st5.out
      go_wp2_with fail
      refine (rfolded_any a A c ys V cv _).mono ?_
      rintro e w9 ⟨rfl, hg9⟩
      have rb9 := hide (rb5.out.below hg9)
      have hb9 := bl_then hbw hg9
      have hsl9 := hide (hsl.out.below hg9)
      clear hbw; clear a0 a1 a2 a3 a4 sa za
      obtain ⟨⟨r0, r1, r2, r3, r4⟩, rf, zr⟩ := rb9.out
      go_wp2
      rw [HE.out]
      refine bodyPost_ret (v := .tuple #[.agg #[.int .i64 (foldR a ys).k, .int .i64 (foldR a ys).r, .int .i64 (foldR a ys).l0, .int .i64 (foldR a ys).l1, .slice V ys.length cv], .int .i64 0]) (by simp [results, Try.results51, go_sem, *]) rfl ⟨by (repeat (first | with_reducible exact Below.refl _ _ | with_reducible assumption | (with_reducible refine bl_set ?_ (by simp; try omega) _) | (with_reducible refine bl_alloc ?_ _) | (with_reducible refine bl_dn ?_ _) | (with_reducible refine bl_drew ?_) | (with_reducible refine bl_then ?_ (by with_reducible assumption)))), V, cv, by rw [foldR_xs], ?_, ?_, by rw [foldR_xs]; exact hcp⟩
      · rw [foldR_xs]
        repeat (refine Sl.set (B := w2.heap.size) ?_ hge (by simp; omega) _)
        exact hsl9.out
      · intro g o e; have := hge g o e; omega
theorem rcount_any (a : Arr) (A : Option Addr) (c : Nat) (hla : a.xs.length ≤ 9223372036854775807) (f0 : Fits a.l0) (f1 : Fits a.l1) (hx : ∀ x ∈ a.xs, Fits x) (hcA : a.xs.length ≤ c) (w : World) (hs : Sl w A a.xs) : Calls Try.prog 51 #[.agg #[.int .i64 a.k, .int .i64 a.r, .int .i64 a.l0, .int .i64 a.l1, .slice A a.xs.length c]] w (ArrRet w (extCount a)) := by
  by_cases h : chkF false a = 0
  · exact rcount_main a A c hla f0 f1 hx hcA w hs h
  · show ArrRet w (extFold false countRow a) |> Calls _ _ _ _
    rw [extFold_bad h]; exact rcount_bad a A c hla f0 f1 w hs h
theorem two_end_fit {p x y : Int} (hp : p = 31 ∨ p = 32) (hx : Fits x) (hy : Fits y) : Fits (two p x y).1 := by
  rcases hp with rfl | rfl
  · show Fits (min x y); unfold Fits at *; omega
  · show Fits (max x y); unfold Fits at *; omega
theorem end_fold_fit {p : Int} (hp : p = 31 ∨ p = 32) : ∀ (xs : List Int) {x : Int}, Fits x → (∀ y ∈ xs, Fits y) → Fits (xs.foldl (fun n y => (two p n y).1) x)
  | [], _, hx, _ => hx
  | y :: ys, _, hx, h => end_fold_fit hp ys (two_end_fit hp hx (h y (by simp))) (fun z hz => h z (by simp [hz]))
theorem rends_bad (p : Int) (a : Arr) (A : Option Addr) (c : Nat) (hla : a.xs.length ≤ 9223372036854775807) (f0 : Fits a.l0) (f1 : Fits a.l1) (w : World) (hs : Sl w A a.xs) (h : chkF true a ≠ 0) : Calls Try.prog 91 #[.agg #[.int .i64 a.k, .int .i64 a.r, .int .i64 a.l0, .int .i64 a.l1, .slice A a.xs.length c], .int .i64 p] w (ArrRet w (chkF true a, .zero)) := by
  have n1 : (chkF true a != 0) = true := by simpa using h
  clear h
  go_enter Try.func91, Try.ntmps91
  go_wp2_with fail
  refine (asked_any true a A c hla f0 f1 _ (hs.below (by (repeat (first | with_reducible exact Below.refl _ _ | with_reducible assumption | (with_reducible refine bl_set ?_ (by simp; try omega) _) | (with_reducible refine bl_alloc ?_ _) | (with_reducible refine bl_dn ?_ _) | (with_reducible refine bl_drew ?_) | (with_reducible refine bl_then ?_ (by with_reducible assumption))))))).mono ?_
  rintro e w1 ⟨rfl, hg1⟩
  obtain ⟨hc1, hf1, hz1⟩ := bcell hg1
  (have z0_w1 : w.heap.size < w1.heap.size := by have := hg1.size; simp at this; omega); (have z1_w1 : w.heap.size + 1 < w1.heap.size := by have := hg1.size; simp at this; omega)
  go_wp2
  refine bodyPost_ret (v := .tuple #[.agg #[.int .i64 0, .int .i64 0, .int .i64 0, .int .i64 0, .slice none 0 0], .int .i64 (chkF true a)]) (by simp [results, Try.results91, go_sem, *]) rfl (arr_zero _ (by (repeat (first | with_reducible exact Below.refl _ _ | with_reducible assumption | (with_reducible refine bl_set ?_ (by simp; try omega) _) | (with_reducible refine bl_alloc ?_ _) | (with_reducible refine bl_dn ?_ _) | (with_reducible refine bl_drew ?_) | (with_reducible refine bl_then ?_ (by with_reducible assumption))))))
set_option maxRecDepth 100000 in
set_option maxHeartbeats 4000000 in
theorem rends_main (p : Int) (hp : p = 31 ∨ p = 32) (a : Arr) (A : Option Addr) (c : Nat) (hla : a.xs.length ≤ 9223372036854775807) (f0 : Fits a.l0) (f1 : Fits a.l1) (hx : ∀ x ∈ a.xs, Fits x) (hcA : a.xs.length ≤ c) (w : World) (hs : Sl w A a.xs) (h : chkF true a = 0) :
    Calls Try.prog 91 #[.agg #[.int .i64 a.k, .int .i64 a.r, .int .i64 a.l0, .int .i64 a.l1, .slice A a.xs.length c], .int .i64 p] w (ArrRet w (extEnd p a)) := by
  have HP := hide hp
  clear hp
  obtain ⟨hk, hki, hr⟩ := chkF_ok h
  have hml : (rowsL a).length ≤ 400 := by obtain ⟨m, n, _, _, h2, _, e⟩ := rowsL_nat hk hr; rw [e]; simpa using h2
  have H := hide h; have HK := hide hk; have HR := hide hr; have HX := hide hx
  clear h hk hr hx hki
  go_enter Try.func91, Try.ntmps91
  go_wp2_with fail
  refine (asked_any true a A c hla f0 f1 _ (hs.below (by (repeat (first | with_reducible exact Below.refl _ _ | with_reducible assumption | (with_reducible refine bl_set ?_ (by simp; try omega) _) | (with_reducible refine bl_alloc ?_ _) | (with_reducible refine bl_dn ?_ _) | (with_reducible refine bl_drew ?_) | (with_reducible refine bl_then ?_ (by with_reducible assumption))))))).mono ?_
  rw [H.out]
  rintro e w1 ⟨rfl, hg1⟩
  have st1 := hide ((((St.init w).box c hs).alloc _).below hg1)
  have rb1 := hide ((RBox.new _ _).below hg1)
  simp only [World.size_alloc] at rb1
  clear hg1
  obtain ⟨hbw, ⟨⟨a0, a1, a2, a3, a4⟩, sa, za⟩, _⟩ := st1.out
  go_wp2_with fail
  refine (rrows_any a A c hcA _ (sa.below (by (repeat (first | with_reducible exact Below.refl _ _ | with_reducible assumption | (with_reducible refine bl_set ?_ (by simp; try omega) _) | (with_reducible refine bl_alloc ?_ _) | (with_reducible refine bl_dn ?_ _) | (with_reducible refine bl_drew ?_) | (with_reducible refine bl_then ?_ (by with_reducible assumption)))))) HK.out HR.out).mono ?_
  rintro e w2 ⟨hg2, R, rc, rfl, hRs⟩
  have st2 := hide (st1.out.below hg2)
  have rb2 := hide (rb1.out.below hg2)
  have hRs := hide hRs.rs
  clear hbw hg2; clear a0 a1 a2 a3 a4 sa za
  obtain ⟨hbw, ⟨⟨a0, a1, a2, a3, a4⟩, sa, za⟩, _⟩ := st2.out
  go_wp2
  go_loopw [7, 9] (fun s7 s9 wr => ∃ (i : Nat) (ys : List Int) (v : Value), i ≤ (rowsL a).length ∧ v = s7 ∧ s9 = .int .i64 i ∧ Hid (mapG (endRow p) ((rowsL a).take i) = (0, ys)) ∧ Hid (ys.length = i) ∧ Hid (Acc wr w2.heap.size v ys) ∧ Hid (Below w2.heap.size w2 wr)) (fun _ s9 _ => (rowsL a).length - (intOf s9).toNat)
  case atStart => exact ⟨0, [], _, Nat.zero_le _, rfl, rfl, rfl, rfl, Acc.nil _ _, Below.refl _ _⟩
  case round =>
    obtain ⟨i, ys, v, hi, rfl, rfl, hm, hy, hac, hbl⟩ := hrel
    clear hbw; clear a0 a1 a2 a3 a4 sa za
    by_cases hlt : i < (rowsL a).length
    · obtain ⟨b, o, row, B, d, rfl, hbk, hcx, hsr, hcr, hrow⟩ := (hRs.out.below hbl.out).at_ hlt
      have hmem : row ∈ rowsL a := by rw [← hrow.out, List.getD_eq_getElem?_getD, List.getElem?_eq_getElem hlt]; exact List.getElem_mem hlt
      obtain ⟨hrl, hrm⟩ := rowsL_mem HK.out HR.out hmem
      have hrf : Hid (∀ x ∈ row, Fits x) := fun x hx => HX.out x (hrm x hx)
      have hil : (i : Int) < ((rowsL a).length : Int) := by omega
      have hzr : w2.heap.size ≤ wr.heap.size := hbl.out.size
      clear hmem hcr hrm
      cases row with
      | nil =>
        have HV : Hid (mapG (endRow p) (rowsL a) = (13, [])) := by
          have e1 := mapG_err (r := (rowsL a).drop (i + 1)) (x := ([] : List Int)) hm.out (by show (13 : Int) ≠ 0; decide)
          rw [← split_at hlt hrow.out] at e1
          have e2 : (mapG (endRow p) (rowsL a)).1 = 13 := e1
          show _ = _
          rw [mapG_bad (endRow p) (rowsL a) (by rw [e2]; decide), e2]
        have HY : Hid (extEnd p a = (13, .zero)) := by show extFold true (endRow p) a = _; rw [extFold_err H.out (by rw [HV.out]; decide), HV.out]
        have hb6 := hbl
        obtain ⟨w6, rfl⟩ : ∃ w6 : World, w6 = wr := ⟨_, rfl⟩
        (have rb6 := hide (rb2.out.below (bl_then (Below.refl _ _) hb6.out)); have hb0 : Below w.heap.size w w6 := bl_then st2.out.1 hb6.out; obtain ⟨⟨r0, r1, r2, r3, r4⟩, rf, zr⟩ := rb6.out; go_wp2; rw [HY.out]; refine bodyPost_ret (v := .tuple #[.agg #[.int .i64 0, .int .i64 0, .int .i64 0, .int .i64 0, .slice none 0 0], .int .i64 13]) (by simp [results, Try.results91, go_sem, *]) rfl (arr_zero _ (by (repeat (first | with_reducible exact Below.refl _ _ | with_reducible assumption | (with_reducible refine bl_set ?_ (by simp; try omega) _) | (with_reducible refine bl_alloc ?_ _) | (with_reducible refine bl_dn ?_ _) | (with_reducible refine bl_drew ?_) | (with_reducible refine bl_then ?_ (by with_reducible assumption)))))))
      | cons x xs =>
        obtain ⟨wo, rfl⟩ : ∃ wo : World, wo = wr := ⟨_, rfl⟩
        have HE : Hid (endRow p (x :: xs) = (xs.foldl (fun n y => (two p n y).1) x, 0)) := rfl
        have hsr' := hide hsr.out
        obtain ⟨b0, o0, x0, rfl, hb0, hc0, hx0⟩ := Sl.at_ (k := 0) hsr.out (by simp)
        have ex : x0 = x := hx0.out.symm
        subst ex
        have hc0 : wo.cell? ⟨b0, o0, none⟩ = some (.int .i64 x0) := hc0
        rw [show (x0 :: xs).length = xs.length + 1 from rfl] at hcx
        have hfx : Hid (Fits x0) := hrf.out x0 (by simp)
        have hfs : Hid (∀ y ∈ xs, Fits y) := fun y hy => hrf.out y (by simp [hy])
        have n1 : ((xs.length : Int) + 1 == 0) = false := by simp; omega
        have hxl : xs.length ≤ 400 := by simp at hrl; omega
        clear hx0 hsr hrl
        go_wp2
        go_loopw [10, 11] (fun s10 s11 wr' => ∃ (j : Nat), j ≤ xs.length ∧ s10 = .int .i64 ((xs.take j).foldl (fun n y => (two p n y).1) x0) ∧ s11 = .int .i64 ((j : Int) + 1) ∧ Hid (Below wo.heap.size wo wr')) (fun _ s11 _ => xs.length + 1 - (intOf s11).toNat)
        case atStart => exact ⟨0, Nat.zero_le _, rfl, rfl, Below.refl _ _⟩
        case round =>
          obtain ⟨j, hj, rfl, rfl, hbj⟩ := hrel
          have hcx2 := (hbj.out.cell (p := ⟨b, o + i, none⟩) hbk).trans hcx
          by_cases hlt2 : j < xs.length
          · obtain ⟨b', o', y, eA, hbk', hcy, hy'⟩ := Sl.at_ (k := j + 1) (hsr'.out.below hbj.out) (by simp; omega)
            injection eA with eA; injection eA with e1 e2
            subst e1 e2
            have hyv : Hid (xs.getD j 0 = y) := by show _ = _; rw [← hy'.out]; simp
            have hfy : Hid (Fits y) := hfs.out y (by rw [← hyv.out]; exact getD_in 0 hlt2)
            have hfm : Hid (Fits ((xs.take j).foldl (fun n y => (two p n y).1) x0)) := end_fold_fit HP.out _ hfx.out (fun z hz => hfs.out z (List.mem_of_mem_take hz))
            have HF : Hid ((xs.take (j + 1)).foldl (fun n y => (two p n y).1) x0 = (two p ((xs.take j).foldl (fun n y => (two p n y).1) x0) y).1) := by
              show _ = _
              rw [take_succ_getD hlt2, List.foldl_append, hyv.out]; rfl
            obtain ⟨m, hm1⟩ : ∃ m, (xs.take j).foldl (fun n y => (two p n y).1) x0 = m := ⟨_, rfl⟩
            rw [hm1] at HF hfm ⊢
            have n2 : (j : Int) + 1 < (xs.length : Int) + 1 := by omega
            clear hm1 hyv hy'
            go_wp2_with fail
            refine (Sc.Ref.Two_any p m y hfm.out hfy.out _).mono ?_
            rintro e w6 ⟨rfl, hg6⟩
            have hb6 := hide (bl_then hbj.out hg6)
            clear hg6
            go_wp2
            go_roundw
            case rel => exact ⟨j + 1, by omega, by rw [HF.out], by go_num, hb6⟩
            case measure => simp [intOf]; omega
          · have e : j = xs.length := by omega
            subst e
            rw [List.take_of_length_le (Nat.le_refl _)]
            obtain ⟨m, hm1⟩ : ∃ m, xs.foldl (fun n y => (two p n y).1) x0 = m := ⟨_, rfl⟩
            rw [hm1] at HE ⊢
            have hac6 := hide (hac.out.below hbj.out)
            have hb6 := hide (bl_then hbl.out hbj.out)
            have hz6 : w2.heap.size ≤ wr.heap.size := hb6.out.size
            have hlen : ys.length + [m].length ≤ 1000000 := by rw [hy.out]; simp; omega
            clear hm1
            go_wp2_with (at_builtin; refine wpList_app64 rfl (.tmp 61) (.tmp 63) rfl w2.heap.size v ys rfl (hac6.out.alloc _) (some ⟨wr.heap.size, 0, none⟩) 1 1 [m] rfl rfl (sl_1 (by simp [go_sem])) hlen (by simp; omega) ?_; intro v2 w7 hac7 hg7; have hb7 := hide (below_gb (bl_alloc hb6.out _) hg7 (by simp; omega) (fun k hk => hac6.out.own_ge k hk)); have hac7 := hide hac7; clear hg7)
            go_roundw
            case rel => exact ⟨i + 1, _, v2, by omega, rfl, by go_num, (by show _ = _; rw [take_at hlt hrow.out]; have := mapG_step hm.out (x := x0 :: xs) (by rw [HE.out]); rw [HE.out] at this; exact this), (by show _ = _; simp [hy.out]), hac7, hb7⟩
            case measure => simp [intOf]; omega
    · have e : i = (rowsL a).length := by omega
      subst e
      have HE : Hid (extEnd p a = (0, foldR a ys)) := by
        have e1 := hm.out
        rw [List.take_of_length_le (Nat.le_refl _)] at e1
        show extFold true (endRow p) a = _
        exact extFold_ok H.out e1
      obtain ⟨V, cv, rfl, hsl, hge, hcp⟩ := hac.out.sl
      have hsl := hide hsl
      have st5 := hide (st2.out.below hbl.out)
      have rb5 := hide (rb2.out.below hbl.out)
      have zw2 : w.heap.size + 1 < w2.heap.size := rb2.out.2.2
      have hz5 : w2.heap.size ≤ wr.heap.size := hbl.out.size
      clear hac hm
      obtain ⟨hbw, ⟨⟨a0, a1, a2, a3, a4⟩, sa, za⟩, _⟩ := st5.out
      go_wp2_with fail
      refine (rfolded_any a A c ys V cv _).mono ?_
      rintro e w9 ⟨rfl, hg9⟩
      have rb9 := hide (rb5.out.below hg9)
      have hb9 := bl_then hbw hg9
      have hsl9 := hide (hsl.out.below hg9)
      clear hbw; clear a0 a1 a2 a3 a4 sa za
      obtain ⟨⟨r0, r1, r2, r3, r4⟩, rf, zr⟩ := rb9.out
      go_wp2
      rw [HE.out]
      refine bodyPost_ret (v := .tuple #[.agg #[.int .i64 (foldR a ys).k, .int .i64 (foldR a ys).r, .int .i64 (foldR a ys).l0, .int .i64 (foldR a ys).l1, .slice V ys.length cv], .int .i64 0]) (by simp [results, Try.results91, go_sem, *]) rfl ⟨by (repeat (first | with_reducible exact Below.refl _ _ | with_reducible assumption | (with_reducible refine bl_set ?_ (by simp; try omega) _) | (with_reducible refine bl_alloc ?_ _) | (with_reducible refine bl_dn ?_ _) | (with_reducible refine bl_drew ?_) | (with_reducible refine bl_then ?_ (by with_reducible assumption)))), V, cv, by rw [foldR_xs], ?_, ?_, by rw [foldR_xs]; exact hcp⟩
      · rw [foldR_xs]
        repeat (refine Sl.set (B := w2.heap.size) ?_ hge (by simp; omega) _)
        exact hsl9.out
      · intro g o e; have := hge g o e; omega
theorem rends_any (p : Int) (hp : p = 31 ∨ p = 32) (a : Arr) (A : Option Addr) (c : Nat) (hla : a.xs.length ≤ 9223372036854775807) (f0 : Fits a.l0) (f1 : Fits a.l1) (hx : ∀ x ∈ a.xs, Fits x) (hcA : a.xs.length ≤ c) (w : World) (hs : Sl w A a.xs) : Calls Try.prog 91 #[.agg #[.int .i64 a.k, .int .i64 a.r, .int .i64 a.l0, .int .i64 a.l1, .slice A a.xs.length c], .int .i64 p] w (ArrRet w (extEnd p a)) := by
  by_cases h : chkF true a = 0
  · exact rends_main p hp a A c hla f0 f1 hx hcA w hs h
  · show ArrRet w (extFold true (endRow p) a) |> Calls _ _ _ _
    rw [extFold_bad h]; exact rends_bad p a A c hla f0 f1 w hs h
end Ar
end Go.Proofs.Ytfpnafeildigaaa
/-
Contracts of chapter 11: Least, Most, Scan of the reference.
-/
set_option linter.unusedSimpArgs false
set_option linter.unusedVariables false
namespace Go.Proofs.Ytfpnafeildigaaa
namespace Ar
open Go.RowKit Sc
set_option maxRecDepth 100000 in
theorem rleast_any (a : Arr) (A : Option Addr) (c : Nat) (hla : a.xs.length ≤ 9223372036854775807) (f0 : Fits a.l0) (f1 : Fits a.l1) (hx : ∀ x ∈ a.xs, Fits x) (hcA : a.xs.length ≤ c) (w : World) (hs : Sl w A a.xs) : Calls Try.prog 47 #[.agg #[.int .i64 a.k, .int .i64 a.r, .int .i64 a.l0, .int .i64 a.l1, .slice A a.xs.length c]] w (ArrRet w (extEnd 31 a)) := by
  have HX := hide hx
  clear hx
  obtain ⟨er, R, hE⟩ : ∃ er R, extEnd 31 a = (er, R) := ⟨_, _, rfl⟩
  have HE := hide hE
  clear hE
  go_enter Try.func47, Try.ntmps47
  go_wp2_with fail
  refine (rends_any 31 (.inl rfl) a A c hla f0 f1 HX.out hcA _ (hs.below (by (repeat (first | with_reducible exact Below.refl _ _ | with_reducible assumption | (with_reducible refine bl_set ?_ (by simp; try omega) _) | (with_reducible refine bl_alloc ?_ _) | (with_reducible refine bl_dn ?_ _) | (with_reducible refine bl_drew ?_) | (with_reducible refine bl_then ?_ (by with_reducible assumption))))))).mono ?_
  rw [HE.out]
  rintro e w1 ⟨hg1, V, cv, rfl, hsV, hge, hcp⟩
  have rb1 := hide ((RBox.new _ _).below hg1)
  simp only [World.size_alloc] at rb1
  have zw1 := hg1.size
  simp only [World.size_alloc] at zw1
  obtain ⟨⟨r0, r1, r2, r3, r4⟩, rf, zr⟩ := rb1.out
  go_wp2
  rw [HE.out]
  refine bodyPost_ret (v := .tuple #[.agg #[.int .i64 R.k, .int .i64 R.r, .int .i64 R.l0, .int .i64 R.l1, .slice V R.xs.length cv], .int .i64 er]) (by simp [results, Try.results47, go_sem, *]) rfl ⟨by (repeat (first | with_reducible exact Below.refl _ _ | with_reducible assumption | (with_reducible refine bl_set ?_ (by simp; try omega) _) | (with_reducible refine bl_alloc ?_ _) | (with_reducible refine bl_dn ?_ _) | (with_reducible refine bl_drew ?_) | (with_reducible refine bl_then ?_ (by with_reducible assumption)))), V, cv, rfl, ?_, ?_, hcp⟩
  · exact sl_cells hsV hge (by simp) _ _ _ _ _
  · intro g o e; have hh := hge g o e; (try simp at hh); omega
set_option maxRecDepth 100000 in
theorem rmost_any (a : Arr) (A : Option Addr) (c : Nat) (hla : a.xs.length ≤ 9223372036854775807) (f0 : Fits a.l0) (f1 : Fits a.l1) (hx : ∀ x ∈ a.xs, Fits x) (hcA : a.xs.length ≤ c) (w : World) (hs : Sl w A a.xs) : Calls Try.prog 49 #[.agg #[.int .i64 a.k, .int .i64 a.r, .int .i64 a.l0, .int .i64 a.l1, .slice A a.xs.length c]] w (ArrRet w (extEnd 32 a)) := by
  have HX := hide hx
  clear hx
  obtain ⟨er, R, hE⟩ : ∃ er R, extEnd 32 a = (er, R) := ⟨_, _, rfl⟩
  have HE := hide hE
  clear hE
  go_enter Try.func49, Try.ntmps49
  go_wp2_with fail
  refine (rends_any 32 (.inr rfl) a A c hla f0 f1 HX.out hcA _ (hs.below (by (repeat (first | with_reducible exact Below.refl _ _ | with_reducible assumption | (with_reducible refine bl_set ?_ (by simp; try omega) _) | (with_reducible refine bl_alloc ?_ _) | (with_reducible refine bl_dn ?_ _) | (with_reducible refine bl_drew ?_) | (with_reducible refine bl_then ?_ (by with_reducible assumption))))))).mono ?_
  rw [HE.out]
  rintro e w1 ⟨hg1, V, cv, rfl, hsV, hge, hcp⟩
  have rb1 := hide ((RBox.new _ _).below hg1)
  simp only [World.size_alloc] at rb1
  have zw1 := hg1.size
  simp only [World.size_alloc] at zw1
  obtain ⟨⟨r0, r1, r2, r3, r4⟩, rf, zr⟩ := rb1.out
  go_wp2
  rw [HE.out]
  refine bodyPost_ret (v := .tuple #[.agg #[.int .i64 R.k, .int .i64 R.r, .int .i64 R.l0, .int .i64 R.l1, .slice V R.xs.length cv], .int .i64 er]) (by simp [results, Try.results49, go_sem, *]) rfl ⟨by (repeat (first | with_reducible exact Below.refl _ _ | with_reducible assumption | (with_reducible refine bl_set ?_ (by simp; try omega) _) | (with_reducible refine bl_alloc ?_ _) | (with_reducible refine bl_dn ?_ _) | (with_reducible refine bl_drew ?_) | (with_reducible refine bl_then ?_ (by with_reducible assumption)))), V, cv, rfl, ?_, ?_, hcp⟩
  · exact sl_cells hsV hge (by simp) _ _ _ _ _
  · intro g o e; have hh := hge g o e; (try simp at hh); omega
theorem Off.grown {lo hi : Nat} {a w w' : World} {row : Option Nat} (h : Off lo hi a w) (hg : w.grownBy w' row) (hr : ∀ k, row = some k → a.heap.size ≤ k) : Off lo hi a w' :=
  ⟨hg.os.trans h.1, hg.tape.trans h.2.1, hg.output.trans h.2.2.1, Nat.le_trans h.2.2.2.1 hg.size, fun k hk hq => (hg.block k (Nat.lt_of_lt_of_le hk h.2.2.2.1) (fun e => by have := hr k e.symm; omega)).trans (h.2.2.2.2 k hk hq)⟩
/-- a local array in block G whose cells are appended to, in a row of its own from B on; nothing else has turned since a -/
def BoxSt (a w : World) (G : Nat) (k r l0 l1 v : Value) (ys : List Int) : Prop :=
  Off G (G + 1) a w ∧ Arr5 w G k r l0 l1 v ∧ (∀ i, w.frozen? ⟨G, i, none⟩ = false) ∧ Acc w a.heap.size v ys ∧ G < a.heap.size
theorem BoxSt.below {a w w' : World} {G : Nat} {k r l0 l1 v : Value} {ys : List Int} (h : BoxSt a w G k r l0 l1 v ys) (hb : Below w.heap.size w w') : BoxSt a w' G k r l0 l1 v ys :=
  ⟨h.1.then hb, h.2.1.below hb, fun i => (hb.frozen (p := ⟨G, i, none⟩) (show G < w.heap.size from block_lt_of_cell h.2.1.1)).trans (h.2.2.1 i), h.2.2.2.1.below hb, h.2.2.2.2⟩
theorem BoxSt.put {a w w' : World} {G : Nat} {k r l0 l1 v v' : Value} {ys zs : List Int} (h : BoxSt a w G k r l0 l1 v ys) (hg : w.grownBy w' v.ownBlock) (ha : Acc w' a.heap.size v' zs) : BoxSt a (w'.setCell ⟨G, 4, none⟩ v') G k r l0 l1 v' zs := by
  obtain ⟨h1, ⟨c0, c1, c2, c3, c4⟩, h3, h4, h5⟩ := h
  obtain ⟨fc, ff⟩ := Acc.far (G := G) h4 h5 hg (block_lt_of_cell c0)
  exact ⟨(h1.grown hg (fun k hk => h4.own_ge k hk)).set (by simp) (by simp) _,
    ⟨(cel_off _ _ _ _ _ _ (by decide)).trans ((fc 0).trans c0), (cel_off _ _ _ _ _ _ (by decide)).trans ((fc 1).trans c1), (cel_off _ _ _ _ _ _ (by decide)).trans ((fc 2).trans c2), (cel_off _ _ _ _ _ _ (by decide)).trans ((fc 3).trans c3), World.cell?_setCell_same _ _ _ ((fc 4).trans c4)⟩,
    fun i => (fro_set _ _ _ _).trans ((ff i).trans (h3 i)), ha.set (by simpa using h5) _, h5⟩
theorem RsA.off {w0 w w' : World} {A R : Option Addr} {rs : List (List Int)} {G : Nat} (h : RsA w0 w A R rs) (ho : Off G (G + 1) w w') (hG : G < w0.heap.size)
    (hA : ∀ j, j < rs.length → rs.getD j [] ≠ [] → ∀ o, A ≠ some ⟨G, o, none⟩) : Rs w' R rs := fun hn => by
  obtain ⟨b, o, e, hl, h0, hc⟩ := h hn
  refine ⟨b, o, e, Nat.lt_of_lt_of_le hl ho.2.2.2.1, fun j hj => ?_⟩
  obtain ⟨B, d, h1, h2, h3, h4⟩ := hc j hj
  refine ⟨B, d, (ho.cell (o + j) hl (by omega)).trans h1, fun hne => ?_, h3⟩
  obtain ⟨g, o1, o2, e1, e2⟩ := h4 hne
  have hg : g ≠ G := fun e => hA j hj hne o2 (by rw [e2, e])
  exact ho.sl h2 (fun g' o' e' => by rw [e1] at e'; injection e' with e'; injection e' with e'; omega) hne
theorem extScan_bad {a : Arr} (h : chkF true a ≠ 0) : extScan a = (chkF true a, .zero) := if_pos h
theorem extScan_err {a : Arr} (h : chkF true a = 0) (h2 : (mapG scanRow (rowsL a)).1 ≠ 0) : extScan a = ((mapG scanRow (rowsL a)).1, .zero) := by
  unfold extScan; rw [if_neg (by simpa using h), if_pos h2]
theorem extScan_ok {a : Arr} {ys : List (List Int)} (h : chkF true a = 0) (h2 : mapG scanRow (rowsL a) = (0, ys)) : extScan a = (0, ⟨1, a.r, a.l0, a.l1, ys.flatten⟩) := by
  unfold extScan; rw [if_neg (by simpa using h), h2, if_neg (by simp)]
theorem flat_len {n : Nat} : ∀ {l : List (List Int)}, (∀ r ∈ l, r.length ≤ n) → l.flatten.length ≤ l.length * n
  | [], _ => by simp
  | r :: l, h => by
    have h1 := h r (by simp)
    have h2 := flat_len (fun r' hr => h r' (List.mem_cons_of_mem _ hr) : ∀ r' ∈ l, r'.length ≤ n)
    rw [List.flatten_cons, List.length_append, List.length_cons, Nat.succ_mul]; omega
theorem rscan_bad (a : Arr) (A : Option Addr) (c : Nat) (hla : a.xs.length ≤ 9223372036854775807) (f0 : Fits a.l0) (f1 : Fits a.l1) (w : World) (hs : Sl w A a.xs) (h : chkF true a ≠ 0) : Calls Try.prog 45 #[.agg #[.int .i64 a.k, .int .i64 a.r, .int .i64 a.l0, .int .i64 a.l1, .slice A a.xs.length c]] w (ArrRet w (chkF true a, .zero)) := by
  have n1 : (chkF true a != 0) = true := by simpa using h
  clear h
  go_enter Try.func45, Try.ntmps45
  go_wp2_with fail
  refine (asked_any true a A c hla f0 f1 _ (hs.below (by (repeat (first | with_reducible exact Below.refl _ _ | with_reducible assumption | (with_reducible refine bl_set ?_ (by simp; try omega) _) | (with_reducible refine bl_alloc ?_ _) | (with_reducible refine bl_dn ?_ _) | (with_reducible refine bl_drew ?_) | (with_reducible refine bl_then ?_ (by with_reducible assumption))))))).mono ?_
  rintro e w1 ⟨rfl, hg1⟩
  obtain ⟨hc1, hf1, hz1⟩ := bcell hg1
  (have z0_w1 : w.heap.size < w1.heap.size := by have := hg1.size; simp at this; omega); (have z1_w1 : w.heap.size + 1 < w1.heap.size := by have := hg1.size; simp at this; omega)
  go_wp2
  refine bodyPost_ret (v := .tuple #[.agg #[.int .i64 0, .int .i64 0, .int .i64 0, .int .i64 0, .slice none 0 0], .int .i64 (chkF true a)]) (by simp [results, Try.results45, go_sem, *]) rfl (arr_zero _ (by (repeat (first | with_reducible exact Below.refl _ _ | with_reducible assumption | (with_reducible refine bl_set ?_ (by simp; try omega) _) | (with_reducible refine bl_alloc ?_ _) | (with_reducible refine bl_dn ?_ _) | (with_reducible refine bl_drew ?_) | (with_reducible refine bl_then ?_ (by with_reducible assumption))))))
set_option maxRecDepth 100000 in
set_option maxHeartbeats 4000000 in
theorem rscan_main (a : Arr) (A : Option Addr) (c : Nat) (hla : a.xs.length ≤ 9223372036854775807) (f0 : Fits a.l0) (f1 : Fits a.l1) (hx : ∀ x ∈ a.xs, Fits x) (hcA : a.xs.length ≤ c) (w : World) (hs : Sl w A a.xs) (h : chkF true a = 0) :
    Calls Try.prog 45 #[.agg #[.int .i64 a.k, .int .i64 a.r, .int .i64 a.l0, .int .i64 a.l1, .slice A a.xs.length c]] w (ArrRet w (extScan a)) := by
  obtain ⟨hk, hki, hr⟩ := chkF_ok h
  have hml : (rowsL a).length ≤ 400 := by obtain ⟨m, n, _, _, h2, _, e⟩ := rowsL_nat hk hr; rw [e]; simpa using h2
  have H := hide h; have HK := hide hk; have HR := hide hr; have HX := hide hx
  clear h hk hr hx hki
  go_enter Try.func45, Try.ntmps45
  go_wp2_with fail
  refine (asked_any true a A c hla f0 f1 _ (hs.below (by (repeat (first | with_reducible exact Below.refl _ _ | with_reducible assumption | (with_reducible refine bl_set ?_ (by simp; try omega) _) | (with_reducible refine bl_alloc ?_ _) | (with_reducible refine bl_dn ?_ _) | (with_reducible refine bl_drew ?_) | (with_reducible refine bl_then ?_ (by with_reducible assumption))))))).mono ?_
  rw [H.out]
  rintro e w1 ⟨rfl, hg1⟩
  have st1 := hide ((((St.init w).box c hs).alloc _).below hg1)
  have rb1 := hide ((RBox.new _ _).below hg1)
  simp only [World.size_alloc] at rb1
  clear hg1
  obtain ⟨hbw, ⟨⟨a0, a1, a2, a3, a4⟩, sa, za⟩, _⟩ := st1.out
  have zw1 : w.heap.size + 1 < w1.heap.size := rb1.out.2.2
  go_upto_region 5 with fail
  have o1 := hide (arr5_new w1 1 a.r a.l0 a.l1 none 0 0 25)
  have of1 : Hid (∀ i, (w1.alloc (.cells #[.int .i64 1, .int .i64 a.r, .int .i64 a.l0, .int .i64 a.l1, .slice none 0 0] 25)).frozen? ⟨w1.heap.size, i, none⟩ = false) := by intro i; simp [go_sem]
  have st2 := hide (st1.out.alloc (.cells #[.int .i64 1, .int .i64 a.r, .int .i64 a.l0, .int .i64 a.l1, .slice none 0 0] 25))
  have rb2 := hide (rb1.out.below (bl_new w1 (.cells #[.int .i64 1, .int .i64 a.r, .int .i64 a.l0, .int .i64 a.l1, .slice none 0 0] 25)))
  have zg : w1.heap.size < (w1.alloc (.cells #[.int .i64 1, .int .i64 a.r, .int .i64 a.l0, .int .i64 a.l1, .slice none 0 0] 25)).heap.size := by simp
  change Code.wp _ _ _ _ (w1.alloc (.cells #[.int .i64 1, .int .i64 a.r, .int .i64 a.l0, .int .i64 a.l1, .slice none 0 0] 25))
  generalize (w1.alloc (.cells #[.int .i64 1, .int .i64 a.r, .int .i64 a.l0, .int .i64 a.l1, .slice none 0 0] 25)) = w2 at *
  generalize w1.heap.size = G at *
  clear hbw; clear a0 a1 a2 a3 a4 sa za
  obtain ⟨hbw, ⟨⟨a0, a1, a2, a3, a4⟩, sa, za⟩, _⟩ := st2.out
  go_wp2_with fail
  refine (rrows_any a A c hcA _ (sa.below (by (repeat (first | with_reducible exact Below.refl _ _ | with_reducible assumption | (with_reducible refine bl_set ?_ (by simp; try omega) _) | (with_reducible refine bl_alloc ?_ _) | (with_reducible refine bl_dn ?_ _) | (with_reducible refine bl_drew ?_) | (with_reducible refine bl_then ?_ (by with_reducible assumption)))))) HK.out HR.out).mono ?_
  rintro e w3 ⟨hg3, R, rc, rfl, hRs⟩
  have st3 := hide (st2.out.below hg3)
  have rb3 := hide (rb2.out.below hg3)
  have z3 : w2.heap.size ≤ w3.heap.size := hg3.size
  have bs3 : Hid (BoxSt w3 w3 G (.int .i64 1) (.int .i64 a.r) (.int .i64 a.l0) (.int .i64 a.l1) (.slice none 0 0) []) := ⟨Off.refl _ _ _, o1.out.below hg3, fun i => (hg3.frozen (p := ⟨G, i, none⟩) zg).trans (of1.out i), Acc.nil _ _, by omega⟩
  have hRs := hide hRs
  have zG : w.heap.size + 1 < G := zw1
  have HGA : Hid (∀ j, j < (rowsL a).length → (rowsL a).getD j [] ≠ [] → ∀ o, A ≠ some ⟨G, o, none⟩) := by
    intro j hj hne o e
    obtain ⟨x, hx⟩ := List.exists_mem_of_ne_nil _ hne
    have hm : (rowsL a).getD j [] ∈ rowsL a := by rw [List.getD_eq_getElem?_getD, List.getElem?_eq_getElem hj]; exact List.getElem_mem hj
    have hxa := (rowsL_mem HK.out HR.out hm).2 x hx
    obtain ⟨b, o', e', hl, _⟩ := hs (List.ne_nil_of_mem hxa)
    rw [e] at e'; injection e' with e'; injection e' with e1 e2 e3; omega
  clear hbw hg3 of1 o1 rb1 rb2 st1 st2; clear a0 a1 a2 a3 a4 sa za
  obtain ⟨hbw, ⟨⟨a0, a1, a2, a3, a4⟩, sa, za⟩, _⟩ := st3.out
  obtain ⟨q0, q1, q2, q3, q4⟩ := bs3.out.2.1
  go_wp2
  clear q0 q1 q2 q3 q4
  go_loopw [7] (fun s7 wr => ∃ (i : Nat) (ys : List Int) (yss : List (List Int)) (v : Value), i ≤ (rowsL a).length ∧ s7 = .int .i64 i ∧ Hid (mapG scanRow ((rowsL a).take i) = (0, yss)) ∧ Hid (ys = yss.flatten) ∧ Hid (ys.length ≤ i * 400) ∧ Hid (BoxSt w3 wr G (.int .i64 1) (.int .i64 a.r) (.int .i64 a.l0) (.int .i64 a.l1) v ys)) (fun s7 _ => (rowsL a).length - (intOf s7).toNat)
  case atStart => exact ⟨0, [], [], _, Nat.zero_le _, rfl, rfl, rfl, Nat.zero_le _, bs3⟩
  case round =>
    obtain ⟨i, ys, yss, v, hi, rfl, hm, hf, hyl, bs⟩ := hrel
    clear hbw; clear a0 a1 a2 a3 a4 sa za
    have hbw := hide (bs.out.1.base st3.out.1 (by omega) st3.out.1.size)
    have zwr : w3.heap.size ≤ wr.heap.size := bs.out.1.2.2.2.1
    obtain ⟨V', n', c', rfl, hn'⟩ := bs.out.2.2.2.1.shape
    by_cases hlt : i < (rowsL a).length
    · obtain ⟨b, o, row, B, d, rfl, hbk, hcx, hsr, hcr, hrow⟩ := (hRs.out.off bs.out.1 zg HGA.out).at_ hlt
      have hmem : row ∈ rowsL a := by rw [← hrow.out, List.getD_eq_getElem?_getD, List.getElem?_eq_getElem hlt]; exact List.getElem_mem hlt
      obtain ⟨hrl, hrm⟩ := rowsL_mem HK.out HR.out hmem
      have hrf : Hid (∀ x ∈ row, Fits x) := fun x hx => HX.out x (hrm x hx)
      have hil : (i : Int) < ((rowsL a).length : Int) := by omega
      clear hmem hcr hrm
      obtain ⟨er, zs, hsc⟩ : ∃ er ys, scanE 0 row = (er, ys) := ⟨_, _, rfl⟩
      have HS := hide hsc
      clear hsc
      go_wp2_with fail
      refine (rsums_any row B d (by omega) hrf.out _ hsr.out).mono ?_
      rw [HS.out]
      rintro e w6 ⟨hg6, Z, cz, rfl, hsz, hgez, hcpz⟩
      have bs6 := hide (bs.out.below hg6)
      have hb6 := hide (bl_then hbw.out hg6)
      have HZ := hide (show Sl w6 Z zs from hsz)
      have z6 : w3.heap.size ≤ w6.heap.size := bs6.out.1.2.2.2.1
      clear hg6 hgez hcpz hsz
      by_cases he : er = 0
      · subst he
        have HV : Hid (scanRow row = (zs, 0)) := by show _ = _; unfold scanRow; rw [HS.out]
        have hzl : zs.length ≤ 400 := by rw [scanE_len HS.out]; exact hrl
        have hlen : ys.length + zs.length ≤ 1000000 := by have := hyl.out; omega
        have hyl2 : Hid ((ys ++ zs).length ≤ (i + 1) * 400) := by show _ ≤ _; rw [List.length_append]; have := hyl.out; omega
        obtain ⟨q0, q1, q2, q3, q4⟩ := bs6.out.2.1
        have hz0 : ((0 : Int), zs).2.length = zs.length := rfl
        go_wp2_with (at_builtin; refine wpList_app64 rfl (.tmp 42) (.tmp 43) rfl w3.heap.size (.slice V' n' c') ys rfl bs6.out.2.2.2.1 Z cz zs.length zs rfl rfl HZ.out hlen z6 ?_; intro v2 w7 hac7 hg7; (obtain ⟨fc, ff⟩ := Acc.far (G := G) bs6.out.2.2.2.1 bs6.out.2.2.2.2 hg7 (block_lt_of_cell q0)); have e4 := (fc 4).trans q4; have ef4 := (ff 4).trans (bs6.out.2.2.1 4); have bs7 := hide (bs6.out.put hg7 hac7); (obtain ⟨V2, n2, c2, rfl, hn2⟩ := hac7.shape); clear fc ff hg7 hac7)
        go_roundw
        case rel => exact ⟨i + 1, ys ++ zs, yss ++ [zs], _, by omega, by go_num, (by show _ = _; rw [take_at hlt hrow.out]; have := mapG_step hm.out (x := row) (by rw [HV.out]); rw [HV.out] at this; exact this), (by show _ = _; rw [hf.out]; simp), hyl2, bs7⟩
        case measure => simp [intOf]; omega
      · have c1 : (er != 0) = true := by simpa using he
        have HV : Hid (mapG scanRow (rowsL a) = (er, [])) := by
          have e0 : (scanRow row).2 = er := by unfold scanRow; rw [HS.out]
          have e1 := mapG_err (r := (rowsL a).drop (i + 1)) (x := row) hm.out (by rw [e0]; exact he)
          rw [← split_at hlt hrow.out, e0] at e1
          show _ = _
          rw [mapG_bad scanRow (rowsL a) (by rw [e1]; exact he), e1]
        have HY : Hid (extScan a = (er, .zero)) := by show _ = _; rw [extScan_err H.out (by rw [HV.out]; exact he), HV.out]
        clear he
        have rb6 := hide (rb3.out.off bs6.out.1 (.inl (by omega)))
        have hb0 := hb6.out
        obtain ⟨⟨r0, r1, r2, r3, r4⟩, rf, zr⟩ := rb6.out
        go_wp2
        rw [HY.out]
        refine bodyPost_ret (v := .tuple #[.agg #[.int .i64 0, .int .i64 0, .int .i64 0, .int .i64 0, .slice none 0 0], .int .i64 er]) (by simp [results, Try.results45, go_sem, *]) rfl (arr_zero _ (by (repeat (first | with_reducible exact Below.refl _ _ | with_reducible assumption | (with_reducible refine bl_set ?_ (by simp; try omega) _) | (with_reducible refine bl_alloc ?_ _) | (with_reducible refine bl_dn ?_ _) | (with_reducible refine bl_drew ?_) | (with_reducible refine bl_then ?_ (by with_reducible assumption))))))
    · have e : i = (rowsL a).length := by omega
      subst e
      have HE : Hid (extScan a = (0, ⟨1, a.r, a.l0, a.l1, ys⟩)) := by
        have e1 := hm.out
        rw [List.take_of_length_le (Nat.le_refl _)] at e1
        show _ = _
        rw [extScan_ok H.out e1, hf.out]
      obtain ⟨V, cv, ev, hsl, hge, hcp⟩ := bs.out.2.2.2.1.sl
      injection ev with ev1 ev2 ev3
      subst ev1 ev2 ev3
      obtain ⟨q0, q1, q2, q3, q4⟩ := bs.out.2.1
      have rb6 := hide (rb3.out.off bs.out.1 (.inl (by omega)))
      obtain ⟨⟨r0, r1, r2, r3, r4⟩, rf, zr⟩ := rb6.out
      have hb0 := hbw.out
      have hsl := hide hsl
      clear hm hf
      go_wp2
      rw [HE.out]
      refine bodyPost_ret (v := .tuple #[.agg #[.int .i64 1, .int .i64 a.r, .int .i64 a.l0, .int .i64 a.l1, .slice V' ys.length c'], .int .i64 0]) (by simp [results, Try.results45, go_sem, *]) rfl ⟨by (repeat (first | with_reducible exact Below.refl _ _ | with_reducible assumption | (with_reducible refine bl_set ?_ (by simp; try omega) _) | (with_reducible refine bl_alloc ?_ _) | (with_reducible refine bl_dn ?_ _) | (with_reducible refine bl_drew ?_) | (with_reducible refine bl_then ?_ (by with_reducible assumption)))), V', c', rfl, ?_, ?_, hcp⟩
      · exact sl_cells hsl.out hge (by omega) _ _ _ _ _
      · intro g o e; have := hge g o e; omega
theorem rscan_any (a : Arr) (A : Option Addr) (c : Nat) (hla : a.xs.length ≤ 9223372036854775807) (f0 : Fits a.l0) (f1 : Fits a.l1) (hx : ∀ x ∈ a.xs, Fits x) (hcA : a.xs.length ≤ c) (w : World) (hs : Sl w A a.xs) : Calls Try.prog 45 #[.agg #[.int .i64 a.k, .int .i64 a.r, .int .i64 a.l0, .int .i64 a.l1, .slice A a.xs.length c]] w (ArrRet w (extScan a)) := by
  by_cases h : chkF true a = 0
  · exact rscan_main a A c hla f0 f1 hx hcA w hs h
  · rw [extScan_bad h]; exact rscan_bad a A c hla f0 f1 w hs h
end Ar
end Go.Proofs.Ytfpnafeildigaaa
