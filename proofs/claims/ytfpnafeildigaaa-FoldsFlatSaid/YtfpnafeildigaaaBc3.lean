/-
Contracts of chapter 11: folds.Sum, Least, Most, Count, whole.
-/
import Derived.Test.YtfpnafeildigaaaBc2
set_option linter.unusedSimpArgs false
set_option linter.unusedVariables false
namespace Go.Proofs.Ytfpnafeildigaaa
namespace Ar
open Go.RowKit Sc
theorem sl_cells {w : World} {g B : Nat} {V : Option Addr} {xs : List Int} (h : Sl w V xs) (hge : ∀ b o, V = some ⟨b, o, none⟩ → B ≤ b) (hg : g < B) (u0 u1 u2 u3 u4 : Value) :
    Sl (((((w.setCell ⟨g, 0, none⟩ u0).setCell ⟨g, 1, none⟩ u1).setCell ⟨g, 2, none⟩ u2).setCell ⟨g, 3, none⟩ u3).setCell ⟨g, 4, none⟩ u4) V xs :=
  (((((h.set hge (by simpa using hg) _).set hge (by simpa using hg) _).set hge (by simpa using hg) _).set hge (by simpa using hg) _).set hge (by simpa using hg) _)
set_option maxRecDepth 100000 in
theorem fsum_any (a : Arr) (A : Option Addr) (c : Nat) (hla : a.xs.length ≤ 9223372036854775807) (f0 : Fits a.l0) (f1 : Fits a.l1) (hx : ∀ x ∈ a.xs, Fits x) (hcA : a.xs.length ≤ c) (w : World) (hs : Sl w A a.xs) : Calls Try.prog 42 #[.agg #[.int .i64 a.k, .int .i64 a.r, .int .i64 a.l0, .int .i64 a.l1, .slice A a.xs.length c]] w (ArrRet w (extSum a)) := by
  have HX := hide hx
  clear hx
  obtain ⟨er, R, hE⟩ : ∃ er R, extSum a = (er, R) := ⟨_, _, rfl⟩
  have HE := hide hE
  clear hE
  go_enter Try.func42, Try.ntmps42
  go_wp2_with fail
  refine (fold_sum true sumRow a A c 0 hla f0 f1 hcA _ (hs.below (by (repeat (first | with_reducible exact Below.refl _ _ | with_reducible assumption | (with_reducible refine bl_set ?_ (by simp; try omega) _) | (with_reducible refine bl_alloc ?_ _) | (with_reducible refine bl_dn ?_ _) | (with_reducible refine bl_drew ?_) | (with_reducible refine bl_then ?_ (by with_reducible assumption)))))) (fun hk hr row B d W hm hb hsr => sum1_any row B d (by have := (rowsL_mem hk hr hm).1; omega) (fun x hx' => HX.out x ((rowsL_mem hk hr hm).2 x hx')) W hsr)).mono ?_
  rw [show extFold true sumRow a = (er, R) from HE.out]
  rintro e w1 ⟨hg1, V, cv, rfl, hsV, hge, hcp⟩
  have rb1 := hide ((RBox.new _ _).below hg1)
  simp only [World.size_alloc] at rb1
  have zw1 := hg1.size
  simp only [World.size_alloc] at zw1
  obtain ⟨⟨r0, r1, r2, r3, r4⟩, rf, zr⟩ := rb1.out
  go_wp2
  rw [HE.out]
  refine bodyPost_ret (v := .tuple #[.agg #[.int .i64 R.k, .int .i64 R.r, .int .i64 R.l0, .int .i64 R.l1, .slice V R.xs.length cv], .int .i64 er]) (by simp [results, Try.results42, go_sem, *]) rfl ⟨by (repeat (first | with_reducible exact Below.refl _ _ | with_reducible assumption | (with_reducible refine bl_set ?_ (by simp; try omega) _) | (with_reducible refine bl_alloc ?_ _) | (with_reducible refine bl_dn ?_ _) | (with_reducible refine bl_drew ?_) | (with_reducible refine bl_then ?_ (by with_reducible assumption)))), V, cv, rfl, ?_, ?_, hcp⟩
  · exact sl_cells hsV hge (by simp) _ _ _ _ _
  · intro g o e; have hh := hge g o e; (try simp at hh); omega
set_option maxRecDepth 100000 in
theorem fcount_any (a : Arr) (A : Option Addr) (c : Nat) (hla : a.xs.length ≤ 9223372036854775807) (f0 : Fits a.l0) (f1 : Fits a.l1) (hx : ∀ x ∈ a.xs, Fits x) (hcA : a.xs.length ≤ c) (w : World) (hs : Sl w A a.xs) : Calls Try.prog 50 #[.agg #[.int .i64 a.k, .int .i64 a.r, .int .i64 a.l0, .int .i64 a.l1, .slice A a.xs.length c]] w (ArrRet w (extCount a)) := by
  have HX := hide hx
  clear hx
  obtain ⟨er, R, hE⟩ : ∃ er R, extCount a = (er, R) := ⟨_, _, rfl⟩
  have HE := hide hE
  clear hE
  go_enter Try.func50, Try.ntmps50
  go_wp2_with fail
  refine (fold_count false countRow a A c 0 hla f0 f1 hcA _ (hs.below (by (repeat (first | with_reducible exact Below.refl _ _ | with_reducible assumption | (with_reducible refine bl_set ?_ (by simp; try omega) _) | (with_reducible refine bl_alloc ?_ _) | (with_reducible refine bl_dn ?_ _) | (with_reducible refine bl_drew ?_) | (with_reducible refine bl_then ?_ (by with_reducible assumption)))))) (fun hk hr row B d W hm hb hsr => count1_any row B d W)).mono ?_
  rw [show extFold false countRow a = (er, R) from HE.out]
  rintro e w1 ⟨hg1, V, cv, rfl, hsV, hge, hcp⟩
  have rb1 := hide ((RBox.new _ _).below hg1)
  simp only [World.size_alloc] at rb1
  have zw1 := hg1.size
  simp only [World.size_alloc] at zw1
  obtain ⟨⟨r0, r1, r2, r3, r4⟩, rf, zr⟩ := rb1.out
  go_wp2
  rw [HE.out]
  refine bodyPost_ret (v := .tuple #[.agg #[.int .i64 R.k, .int .i64 R.r, .int .i64 R.l0, .int .i64 R.l1, .slice V R.xs.length cv], .int .i64 er]) (by simp [results, Try.results50, go_sem, *]) rfl ⟨by (repeat (first | with_reducible exact Below.refl _ _ | with_reducible assumption | (with_reducible refine bl_set ?_ (by simp; try omega) _) | (with_reducible refine bl_alloc ?_ _) | (with_reducible refine bl_dn ?_ _) | (with_reducible refine bl_drew ?_) | (with_reducible refine bl_then ?_ (by with_reducible assumption)))), V, cv, rfl, ?_, ?_, hcp⟩
  · exact sl_cells hsV hge (by simp) _ _ _ _ _
  · intro g o e; have hh := hge g o e; (try simp at hh); omega
set_option maxRecDepth 100000 in
theorem fend_min (a : Arr) (A : Option Addr) (c : Nat) (hla : a.xs.length ≤ 9223372036854775807) (f0 : Fits a.l0) (f1 : Fits a.l1) (hcA : a.xs.length ≤ c) (w : World) (hs : Sl w A a.xs) : Calls Try.prog 89 #[.agg #[.int .i64 a.k, .int .i64 a.r, .int .i64 a.l0, .int .i64 a.l1, .slice A a.xs.length c], .func (.func 90) #[] #[]] w (ArrRet w (extEnd 31 a)) := by
  obtain ⟨er, R, hE⟩ : ∃ er R, extEnd 31 a = (er, R) := ⟨_, _, rfl⟩
  have HE := hide hE
  clear hE
  have hmf : ∀ (fn : Fn) (first cap : Array Value) (w : World), (Instr.makeFunc fn first cap).run Try.prog w = .ok (.func fn first cap) w := fun _ _ _ _ => rfl
  go_enter Try.func89, Try.ntmps89
  go_wp2_with fail
  refine (fold_end true (endRow 31) a A c (w.heap.size + 1) hla f0 f1 hcA _ (hs.below (by (repeat (first | with_reducible exact Below.refl _ _ | with_reducible assumption | (with_reducible refine bl_set ?_ (by simp; try omega) _) | (with_reducible refine bl_alloc ?_ _) | (with_reducible refine bl_dn ?_ _) | (with_reducible refine bl_drew ?_) | (with_reducible refine bl_then ?_ (by with_reducible assumption)))))) (fun hk hr row B d W hm hb hsr => least1_any row B d (w.heap.size + 1) (by have := (rowsL_mem hk hr hm).1; omega) W hsr ((hb.cell (p := ⟨w.heap.size + 1, 0, none⟩) (by simp)).trans (by simp [go_sem])))).mono ?_
  rw [show extFold true (endRow 31) a = (er, R) from HE.out]
  rintro e w1 ⟨hg1, V, cv, rfl, hsV, hge, hcp⟩
  have rb1 := hide ((RBox.new _ _).below hg1)
  simp only [World.size_alloc] at rb1
  have zw1 := hg1.size
  simp only [World.size_alloc] at zw1
  obtain ⟨⟨r0, r1, r2, r3, r4⟩, rf, zr⟩ := rb1.out
  go_wp2
  rw [HE.out]
  refine bodyPost_ret (v := .tuple #[.agg #[.int .i64 R.k, .int .i64 R.r, .int .i64 R.l0, .int .i64 R.l1, .slice V R.xs.length cv], .int .i64 er]) (by simp [results, Try.results89, go_sem, *]) rfl ⟨by (repeat (first | with_reducible exact Below.refl _ _ | with_reducible assumption | (with_reducible refine bl_set ?_ (by simp; try omega) _) | (with_reducible refine bl_alloc ?_ _) | (with_reducible refine bl_dn ?_ _) | (with_reducible refine bl_drew ?_) | (with_reducible refine bl_then ?_ (by with_reducible assumption)))), V, cv, rfl, ?_, ?_, hcp⟩
  · exact sl_cells hsV hge (by simp) _ _ _ _ _
  · intro g o e; have hh := hge g o e; (try simp at hh); omega
set_option maxRecDepth 100000 in
theorem fend_max (a : Arr) (A : Option Addr) (c : Nat) (hla : a.xs.length ≤ 9223372036854775807) (f0 : Fits a.l0) (f1 : Fits a.l1) (hcA : a.xs.length ≤ c) (w : World) (hs : Sl w A a.xs) : Calls Try.prog 89 #[.agg #[.int .i64 a.k, .int .i64 a.r, .int .i64 a.l0, .int .i64 a.l1, .slice A a.xs.length c], .func (.func 92) #[] #[]] w (ArrRet w (extEnd 32 a)) := by
  obtain ⟨er, R, hE⟩ : ∃ er R, extEnd 32 a = (er, R) := ⟨_, _, rfl⟩
  have HE := hide hE
  clear hE
  have hmf : ∀ (fn : Fn) (first cap : Array Value) (w : World), (Instr.makeFunc fn first cap).run Try.prog w = .ok (.func fn first cap) w := fun _ _ _ _ => rfl
  go_enter Try.func89, Try.ntmps89
  go_wp2_with fail
  refine (fold_end true (endRow 32) a A c (w.heap.size + 1) hla f0 f1 hcA _ (hs.below (by (repeat (first | with_reducible exact Below.refl _ _ | with_reducible assumption | (with_reducible refine bl_set ?_ (by simp; try omega) _) | (with_reducible refine bl_alloc ?_ _) | (with_reducible refine bl_dn ?_ _) | (with_reducible refine bl_drew ?_) | (with_reducible refine bl_then ?_ (by with_reducible assumption)))))) (fun hk hr row B d W hm hb hsr => most1_any row B d (w.heap.size + 1) (by have := (rowsL_mem hk hr hm).1; omega) W hsr ((hb.cell (p := ⟨w.heap.size + 1, 0, none⟩) (by simp)).trans (by simp [go_sem])))).mono ?_
  rw [show extFold true (endRow 32) a = (er, R) from HE.out]
  rintro e w1 ⟨hg1, V, cv, rfl, hsV, hge, hcp⟩
  have rb1 := hide ((RBox.new _ _).below hg1)
  simp only [World.size_alloc] at rb1
  have zw1 := hg1.size
  simp only [World.size_alloc] at zw1
  obtain ⟨⟨r0, r1, r2, r3, r4⟩, rf, zr⟩ := rb1.out
  go_wp2
  rw [HE.out]
  refine bodyPost_ret (v := .tuple #[.agg #[.int .i64 R.k, .int .i64 R.r, .int .i64 R.l0, .int .i64 R.l1, .slice V R.xs.length cv], .int .i64 er]) (by simp [results, Try.results89, go_sem, *]) rfl ⟨by (repeat (first | with_reducible exact Below.refl _ _ | with_reducible assumption | (with_reducible refine bl_set ?_ (by simp; try omega) _) | (with_reducible refine bl_alloc ?_ _) | (with_reducible refine bl_dn ?_ _) | (with_reducible refine bl_drew ?_) | (with_reducible refine bl_then ?_ (by with_reducible assumption)))), V, cv, rfl, ?_, ?_, hcp⟩
  · exact sl_cells hsV hge (by simp) _ _ _ _ _
  · intro g o e; have hh := hge g o e; (try simp at hh); omega
set_option maxRecDepth 100000 in
theorem fleast_any (a : Arr) (A : Option Addr) (c : Nat) (hla : a.xs.length ≤ 9223372036854775807) (f0 : Fits a.l0) (f1 : Fits a.l1) (hcA : a.xs.length ≤ c) (w : World) (hs : Sl w A a.xs) : Calls Try.prog 46 #[.agg #[.int .i64 a.k, .int .i64 a.r, .int .i64 a.l0, .int .i64 a.l1, .slice A a.xs.length c]] w (ArrRet w (extEnd 31 a)) := by
  obtain ⟨er, R, hE⟩ : ∃ er R, extEnd 31 a = (er, R) := ⟨_, _, rfl⟩
  have HE := hide hE
  clear hE
  go_enter Try.func46, Try.ntmps46
  go_wp2_with fail
  refine (fend_min a A c hla f0 f1 hcA _ (hs.below (by (repeat (first | with_reducible exact Below.refl _ _ | with_reducible assumption | (with_reducible refine bl_set ?_ (by simp; try omega) _) | (with_reducible refine bl_alloc ?_ _) | (with_reducible refine bl_dn ?_ _) | (with_reducible refine bl_drew ?_) | (with_reducible refine bl_then ?_ (by with_reducible assumption))))))).mono ?_
  rw [HE.out]
  rintro e w1 ⟨hg1, V, cv, rfl, hsV, hge, hcp⟩
  have rb1 := hide ((RBox.new _ _).below hg1)
  simp only [World.size_alloc] at rb1
  have zw1 := hg1.size
  simp only [World.size_alloc] at zw1
  obtain ⟨⟨r0, r1, r2, r3, r4⟩, rf, zr⟩ := rb1.out
  go_wp2
  rw [HE.out]
  refine bodyPost_ret (v := .tuple #[.agg #[.int .i64 R.k, .int .i64 R.r, .int .i64 R.l0, .int .i64 R.l1, .slice V R.xs.length cv], .int .i64 er]) (by simp [results, Try.results46, go_sem, *]) rfl ⟨by (repeat (first | with_reducible exact Below.refl _ _ | with_reducible assumption | (with_reducible refine bl_set ?_ (by simp; try omega) _) | (with_reducible refine bl_alloc ?_ _) | (with_reducible refine bl_dn ?_ _) | (with_reducible refine bl_drew ?_) | (with_reducible refine bl_then ?_ (by with_reducible assumption)))), V, cv, rfl, ?_, ?_, hcp⟩
  · exact sl_cells hsV hge (by simp) _ _ _ _ _
  · intro g o e; have hh := hge g o e; (try simp at hh); omega
set_option maxRecDepth 100000 in
theorem fmost_any (a : Arr) (A : Option Addr) (c : Nat) (hla : a.xs.length ≤ 9223372036854775807) (f0 : Fits a.l0) (f1 : Fits a.l1) (hcA : a.xs.length ≤ c) (w : World) (hs : Sl w A a.xs) : Calls Try.prog 48 #[.agg #[.int .i64 a.k, .int .i64 a.r, .int .i64 a.l0, .int .i64 a.l1, .slice A a.xs.length c]] w (ArrRet w (extEnd 32 a)) := by
  obtain ⟨er, R, hE⟩ : ∃ er R, extEnd 32 a = (er, R) := ⟨_, _, rfl⟩
  have HE := hide hE
  clear hE
  go_enter Try.func48, Try.ntmps48
  go_wp2_with fail
  refine (fend_max a A c hla f0 f1 hcA _ (hs.below (by (repeat (first | with_reducible exact Below.refl _ _ | with_reducible assumption | (with_reducible refine bl_set ?_ (by simp; try omega) _) | (with_reducible refine bl_alloc ?_ _) | (with_reducible refine bl_dn ?_ _) | (with_reducible refine bl_drew ?_) | (with_reducible refine bl_then ?_ (by with_reducible assumption))))))).mono ?_
  rw [HE.out]
  rintro e w1 ⟨hg1, V, cv, rfl, hsV, hge, hcp⟩
  have rb1 := hide ((RBox.new _ _).below hg1)
  simp only [World.size_alloc] at rb1
  have zw1 := hg1.size
  simp only [World.size_alloc] at zw1
  obtain ⟨⟨r0, r1, r2, r3, r4⟩, rf, zr⟩ := rb1.out
  go_wp2
  rw [HE.out]
  refine bodyPost_ret (v := .tuple #[.agg #[.int .i64 R.k, .int .i64 R.r, .int .i64 R.l0, .int .i64 R.l1, .slice V R.xs.length cv], .int .i64 er]) (by simp [results, Try.results48, go_sem, *]) rfl ⟨by (repeat (first | with_reducible exact Below.refl _ _ | with_reducible assumption | (with_reducible refine bl_set ?_ (by simp; try omega) _) | (with_reducible refine bl_alloc ?_ _) | (with_reducible refine bl_dn ?_ _) | (with_reducible refine bl_drew ?_) | (with_reducible refine bl_then ?_ (by with_reducible assumption)))), V, cv, rfl, ?_, ?_, hcp⟩
  · exact sl_cells hsV hge (by simp) _ _ _ _ _
  · intro g o e; have hh := hge g o e; (try simp at hh); omega
end Ar
end Go.Proofs.Ytfpnafeildigaaa
/-
Contracts of chapter 11: Sum of the reference.
-/
set_option linter.unusedSimpArgs false
set_option linter.unusedVariables false
namespace Go.Proofs.Ytfpnafeildigaaa
namespace Ar
open Go.RowKit Sc
theorem foldR_xs (a : Arr) (ys : List Int) : (foldR a ys).xs = ys := by unfold foldR; split <;> rfl
end Ar
end Go.Proofs.Ytfpnafeildigaaa
/-
Contracts of chapter 11: Count, Least, Most of the reference.
-/
set_option linter.unusedSimpArgs false
set_option linter.unusedVariables false
namespace Go.Proofs.Ytfpnafeildigaaa
namespace Ar
open Go.RowKit Sc
end Ar
end Go.Proofs.Ytfpnafeildigaaa
/-
Contracts of chapter 11: Least, Most, Scan of the reference.
-/
set_option linter.unusedSimpArgs false
set_option linter.unusedVariables false
namespace Go.Proofs.Ytfpnafeildigaaa
namespace Ar
open Go.RowKit Sc
theorem Off.grown {lo hi : Nat} {a w w' : World} {row : Option Nat} (h : Off lo hi a w) (hg : w.grownBy w' row) (hr : ∀ k, row = some k → a.heap.size ≤ k) : Off lo hi a w' :=
  ⟨hg.os.trans h.1, hg.tape.trans h.2.1, hg.output.trans h.2.2.1, Nat.le_trans h.2.2.2.1 hg.size, fun k hk hq => (hg.block k (Nat.lt_of_lt_of_le hk h.2.2.2.1) (fun e => by have := hr k e.symm; omega)).trans (h.2.2.2.2 k hk hq)⟩
/-- a local array in block G whose cells are appended to, in a row of its own from B on; nothing else has turned since a -/
def BoxSt (a w : World) (G : Nat) (k r l0 l1 v : Value) (ys : List Int) : Prop :=
  Off G (G + 1) a w ∧ Arr5 w G k r l0 l1 v ∧ (∀ i, w.frozen? ⟨G, i, none⟩ = false) ∧ Acc w a.heap.size v ys ∧ G < a.heap.size
theorem BoxSt.below {a w w' : World} {G : Nat} {k r l0 l1 v : Value} {ys : List Int} (h : BoxSt a w G k r l0 l1 v ys) (hb : Below w.heap.size w w') : BoxSt a w' G k r l0 l1 v ys :=
  ⟨h.1.then hb, h.2.1.below hb, fun i => (hb.frozen (p := ⟨G, i, none⟩) (show G < w.heap.size from block_lt_of_cell h.2.1.1)).trans (h.2.2.1 i), h.2.2.2.1.below hb, h.2.2.2.2⟩
theorem BoxSt.put {a w w' : World} {G : Nat} {k r l0 l1 v v' : Value} {ys zs : List Int} (h : BoxSt a w G k r l0 l1 v ys) (hg : w.grownBy w' v.ownBlock) (ha : Acc w' a.heap.size v' zs) : BoxSt a (w'.setCell ⟨G, 4, none⟩ v') G k r l0 l1 v' zs := by
  obtain ⟨h1, ⟨c0, c1, c2, c3, c4⟩, h3, h4, h5⟩ := h
  obtain ⟨fc, ff⟩ := Acc.far (G := G) h4 h5 hg (block_lt_of_cell c0)
  exact ⟨(h1.grown hg (fun k hk => h4.own_ge k hk)).set (by simp) (by simp) _,
    ⟨(cel_off _ _ _ _ _ _ (by decide)).trans ((fc 0).trans c0), (cel_off _ _ _ _ _ _ (by decide)).trans ((fc 1).trans c1), (cel_off _ _ _ _ _ _ (by decide)).trans ((fc 2).trans c2), (cel_off _ _ _ _ _ _ (by decide)).trans ((fc 3).trans c3), World.cell?_setCell_same _ _ _ ((fc 4).trans c4)⟩,
    fun i => (fro_set _ _ _ _).trans ((ff i).trans (h3 i)), ha.set (by simpa using h5) _, h5⟩
theorem RsA.off {w0 w w' : World} {A R : Option Addr} {rs : List (List Int)} {G : Nat} (h : RsA w0 w A R rs) (ho : Off G (G + 1) w w') (hG : G < w0.heap.size)
    (hA : ∀ j, j < rs.length → rs.getD j [] ≠ [] → ∀ o, A ≠ some ⟨G, o, none⟩) : Rs w' R rs := fun hn => by
  obtain ⟨b, o, e, hl, h0, hc⟩ := h hn
  refine ⟨b, o, e, Nat.lt_of_lt_of_le hl ho.2.2.2.1, fun j hj => ?_⟩
  obtain ⟨B, d, h1, h2, h3, h4⟩ := hc j hj
  refine ⟨B, d, (ho.cell (o + j) hl (by omega)).trans h1, fun hne => ?_, h3⟩
  obtain ⟨g, o1, o2, e1, e2⟩ := h4 hne
  have hg : g ≠ G := fun e => hA j hj hne o2 (by rw [e2, e])
  exact ho.sl h2 (fun g' o' e' => by rw [e1] at e'; injection e' with e'; injection e' with e'; omega) hne
theorem extScan_bad {a : Arr} (h : chkF true a ≠ 0) : extScan a = (chkF true a, .zero) := if_pos h
theorem extScan_err {a : Arr} (h : chkF true a = 0) (h2 : (mapG scanRow (rowsL a)).1 ≠ 0) : extScan a = ((mapG scanRow (rowsL a)).1, .zero) := by
  unfold extScan; rw [if_neg (by simpa using h), if_pos h2]
theorem extScan_ok {a : Arr} {ys : List (List Int)} (h : chkF true a = 0) (h2 : mapG scanRow (rowsL a) = (0, ys)) : extScan a = (0, ⟨1, a.r, a.l0, a.l1, ys.flatten⟩) := by
  unfold extScan; rw [if_neg (by simpa using h), h2, if_neg (by simp)]
theorem flat_len {n : Nat} : ∀ {l : List (List Int)}, (∀ r ∈ l, r.length ≤ n) → l.flatten.length ≤ l.length * n
  | [], _ => by simp
  | r :: l, h => by
    have h1 := h r (by simp)
    have h2 := flat_len (fun r' hr => h r' (List.mem_cons_of_mem _ hr) : ∀ r' ∈ l, r'.length ≤ n)
    rw [List.flatten_cons, List.length_append, List.length_cons, Nat.succ_mul]; omega
end Ar
end Go.Proofs.Ytfpnafeildigaaa
