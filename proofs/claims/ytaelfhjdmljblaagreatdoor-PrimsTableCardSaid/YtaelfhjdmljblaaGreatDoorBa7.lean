/-
The closure of extend.Two over the cells of its operands (chapter 10).
-/
import Derived.Test.YtaelfhjdmljblaaGreatDoorBa6
import Derived.WalkLawsBesides
import Derived.Deep.AppendLies
import Derived.OwnWalk
import Derived.Deep.RegionHeld3
set_option linter.unusedSimpArgs false
set_option linter.unusedVariables false
namespace Go.Proofs.YtaelfhjdmljblaaGreatDoor
namespace Ar
open Go.RowKit Sc
theorem two1_1_1 (p : Int) (xs ys : List Int) (A B : Option Addr) (c d P X Y QX QY k : Nat) (x y : Int) (hx : Fits x) (hy : Fits y) (w : World) (hkx : 0 < xs.length) (hky : 0 < ys.length) (hlx : xs.length ≤ 9223372036854775807) (hly : ys.length ≤ 9223372036854775807)
    (hP : w.cell? ⟨P, 0, none⟩ = some (.int .i64 p)) (hX : w.cell? ⟨X, 0, none⟩ = some (.func (.func 118) #[] #[.pointer (some ⟨QX, 0, none⟩)])) (hY : w.cell? ⟨Y, 0, none⟩ = some (.func (.func 118) #[] #[.pointer (some ⟨QY, 0, none⟩)]))
    (hQX : w.cell? ⟨QX, 4, none⟩ = some (.slice A xs.length c)) (hQY : w.cell? ⟨QY, 4, none⟩ = some (.slice B ys.length d)) (hsx : Sl w A xs) (hsy : Sl w B ys) (hxk : xs.getD 0 0 = x) (hyk : ys.getD 0 0 = y) :
    Calls Tryz.prog 65 #[.int .i64 k, .pointer (some ⟨P, 0, none⟩), .pointer (some ⟨X, 0, none⟩), .pointer (some ⟨Y, 0, none⟩)] w fun e w' => e = ret2 (two p x y) ∧ Below w.heap.size w w' := by
  have HX : Hid (Calls Tryz.prog 118 #[.int .i64 k, .pointer (some ⟨QX, 0, none⟩)] w.drew fun e w' => e = .returned (.int .i64 x) ∧ w.drew = w') := spread1_any xs A c k QX x _ hkx hlx hQX hsx hxk
  have HY : Hid (Calls Tryz.prog 118 #[.int .i64 k, .pointer (some ⟨QY, 0, none⟩)] w.drew fun e w' => e = .returned (.int .i64 y) ∧ w.drew = w') := spread1_any ys B d k QY y _ hky hly hQY hsy hyk
  have hPl := block_lt_of_cell hP
  have hXl := block_lt_of_cell hX
  have hYl := block_lt_of_cell hY
  have hx' := hide hx
  have hy' := hide hy
  clear hx hy hQX hQY hsx hsy hxk hyk hkx hky hlx hly
  go_enter Tryz.func65, Tryz.ntmps65
  go_wp2
  go_region_held3 (fun w' => w'.cell? ⟨P, 0, none⟩ = some (.int .i64 p) ∧ w'.cell? ⟨X, 0, none⟩ = some (.func (.func 118) #[] #[.pointer (some ⟨QX, 0, none⟩)]) ∧ w'.cell? ⟨Y, 0, none⟩ = some (.func (.func 118) #[] #[.pointer (some ⟨QY, 0, none⟩)])) (simp [go_sem, *])
    ((first | (with_reducible refine HX.out.mono ?_; rintro e w' ⟨rfl, rfl⟩) | (with_reducible refine HY.out.mono ?_; rintro e w' ⟨rfl, rfl⟩) | (go_at_call 66; refine (Two_any p x y hx'.out hy'.out _).mono ?_; rintro e w' ⟨rfl, hg⟩; have hc' : ∀ b o, b < w.heap.size → w'.cell? ⟨b, o, none⟩ = w.cell? ⟨b, o, none⟩ := fun b o h => hg.cell (p := ⟨b, o, none⟩) h)))
  all_goals
    go_wp2
    go_ret2
    exact ⟨rfl, by (repeat (first | with_reducible exact Below.refl _ _ | with_reducible assumption | (with_reducible refine bl_set ?_ (by simp; try omega) _) | (with_reducible refine bl_alloc ?_ _) | (with_reducible refine bl_dn ?_ _) | (with_reducible refine bl_drew ?_) | (with_reducible refine bl_then ?_ (by with_reducible assumption))))⟩
theorem two1_1_2 (p : Int) (xs ys : List Int) (A B : Option Addr) (c d P X Y QX QY k : Nat) (x y : Int) (hx : Fits x) (hy : Fits y) (w : World) (hkx : 0 < xs.length) (hky : k < ys.length) (hlx : xs.length ≤ 9223372036854775807) (hly : ys.length ≤ 9223372036854775807)
    (hP : w.cell? ⟨P, 0, none⟩ = some (.int .i64 p)) (hX : w.cell? ⟨X, 0, none⟩ = some (.func (.func 118) #[] #[.pointer (some ⟨QX, 0, none⟩)])) (hY : w.cell? ⟨Y, 0, none⟩ = some (.func (.func 119) #[] #[.pointer (some ⟨QY, 0, none⟩)]))
    (hQX : w.cell? ⟨QX, 4, none⟩ = some (.slice A xs.length c)) (hQY : w.cell? ⟨QY, 4, none⟩ = some (.slice B ys.length d)) (hsx : Sl w A xs) (hsy : Sl w B ys) (hxk : xs.getD 0 0 = x) (hyk : ys.getD k 0 = y) :
    Calls Tryz.prog 65 #[.int .i64 k, .pointer (some ⟨P, 0, none⟩), .pointer (some ⟨X, 0, none⟩), .pointer (some ⟨Y, 0, none⟩)] w fun e w' => e = ret2 (two p x y) ∧ Below w.heap.size w w' := by
  have HX : Hid (Calls Tryz.prog 118 #[.int .i64 k, .pointer (some ⟨QX, 0, none⟩)] w.drew fun e w' => e = .returned (.int .i64 x) ∧ w.drew = w') := spread1_any xs A c k QX x _ hkx hlx hQX hsx hxk
  have HY : Hid (Calls Tryz.prog 119 #[.int .i64 k, .pointer (some ⟨QY, 0, none⟩)] w.drew fun e w' => e = .returned (.int .i64 y) ∧ w.drew = w') := spread2_any ys B d k QY y _ hky hly hQY hsy hyk
  have hPl := block_lt_of_cell hP
  have hXl := block_lt_of_cell hX
  have hYl := block_lt_of_cell hY
  have hx' := hide hx
  have hy' := hide hy
  clear hx hy hQX hQY hsx hsy hxk hyk hkx hky hlx hly
  go_enter Tryz.func65, Tryz.ntmps65
  go_wp2
  go_region_held3 (fun w' => w'.cell? ⟨P, 0, none⟩ = some (.int .i64 p) ∧ w'.cell? ⟨X, 0, none⟩ = some (.func (.func 118) #[] #[.pointer (some ⟨QX, 0, none⟩)]) ∧ w'.cell? ⟨Y, 0, none⟩ = some (.func (.func 119) #[] #[.pointer (some ⟨QY, 0, none⟩)])) (simp [go_sem, *])
    ((first | (with_reducible refine HX.out.mono ?_; rintro e w' ⟨rfl, rfl⟩) | (with_reducible refine HY.out.mono ?_; rintro e w' ⟨rfl, rfl⟩) | (go_at_call 66; refine (Two_any p x y hx'.out hy'.out _).mono ?_; rintro e w' ⟨rfl, hg⟩; have hc' : ∀ b o, b < w.heap.size → w'.cell? ⟨b, o, none⟩ = w.cell? ⟨b, o, none⟩ := fun b o h => hg.cell (p := ⟨b, o, none⟩) h)))
  all_goals
    go_wp2
    go_ret2
    exact ⟨rfl, by (repeat (first | with_reducible exact Below.refl _ _ | with_reducible assumption | (with_reducible refine bl_set ?_ (by simp; try omega) _) | (with_reducible refine bl_alloc ?_ _) | (with_reducible refine bl_dn ?_ _) | (with_reducible refine bl_drew ?_) | (with_reducible refine bl_then ?_ (by with_reducible assumption))))⟩
theorem two1_2_1 (p : Int) (xs ys : List Int) (A B : Option Addr) (c d P X Y QX QY k : Nat) (x y : Int) (hx : Fits x) (hy : Fits y) (w : World) (hkx : k < xs.length) (hky : 0 < ys.length) (hlx : xs.length ≤ 9223372036854775807) (hly : ys.length ≤ 9223372036854775807)
    (hP : w.cell? ⟨P, 0, none⟩ = some (.int .i64 p)) (hX : w.cell? ⟨X, 0, none⟩ = some (.func (.func 119) #[] #[.pointer (some ⟨QX, 0, none⟩)])) (hY : w.cell? ⟨Y, 0, none⟩ = some (.func (.func 118) #[] #[.pointer (some ⟨QY, 0, none⟩)]))
    (hQX : w.cell? ⟨QX, 4, none⟩ = some (.slice A xs.length c)) (hQY : w.cell? ⟨QY, 4, none⟩ = some (.slice B ys.length d)) (hsx : Sl w A xs) (hsy : Sl w B ys) (hxk : xs.getD k 0 = x) (hyk : ys.getD 0 0 = y) :
    Calls Tryz.prog 65 #[.int .i64 k, .pointer (some ⟨P, 0, none⟩), .pointer (some ⟨X, 0, none⟩), .pointer (some ⟨Y, 0, none⟩)] w fun e w' => e = ret2 (two p x y) ∧ Below w.heap.size w w' := by
  have HX : Hid (Calls Tryz.prog 119 #[.int .i64 k, .pointer (some ⟨QX, 0, none⟩)] w.drew fun e w' => e = .returned (.int .i64 x) ∧ w.drew = w') := spread2_any xs A c k QX x _ hkx hlx hQX hsx hxk
  have HY : Hid (Calls Tryz.prog 118 #[.int .i64 k, .pointer (some ⟨QY, 0, none⟩)] w.drew fun e w' => e = .returned (.int .i64 y) ∧ w.drew = w') := spread1_any ys B d k QY y _ hky hly hQY hsy hyk
  have hPl := block_lt_of_cell hP
  have hXl := block_lt_of_cell hX
  have hYl := block_lt_of_cell hY
  have hx' := hide hx
  have hy' := hide hy
  clear hx hy hQX hQY hsx hsy hxk hyk hkx hky hlx hly
  go_enter Tryz.func65, Tryz.ntmps65
  go_wp2
  go_region_held3 (fun w' => w'.cell? ⟨P, 0, none⟩ = some (.int .i64 p) ∧ w'.cell? ⟨X, 0, none⟩ = some (.func (.func 119) #[] #[.pointer (some ⟨QX, 0, none⟩)]) ∧ w'.cell? ⟨Y, 0, none⟩ = some (.func (.func 118) #[] #[.pointer (some ⟨QY, 0, none⟩)])) (simp [go_sem, *])
    ((first | (with_reducible refine HX.out.mono ?_; rintro e w' ⟨rfl, rfl⟩) | (with_reducible refine HY.out.mono ?_; rintro e w' ⟨rfl, rfl⟩) | (go_at_call 66; refine (Two_any p x y hx'.out hy'.out _).mono ?_; rintro e w' ⟨rfl, hg⟩; have hc' : ∀ b o, b < w.heap.size → w'.cell? ⟨b, o, none⟩ = w.cell? ⟨b, o, none⟩ := fun b o h => hg.cell (p := ⟨b, o, none⟩) h)))
  all_goals
    go_wp2
    go_ret2
    exact ⟨rfl, by (repeat (first | with_reducible exact Below.refl _ _ | with_reducible assumption | (with_reducible refine bl_set ?_ (by simp; try omega) _) | (with_reducible refine bl_alloc ?_ _) | (with_reducible refine bl_dn ?_ _) | (with_reducible refine bl_drew ?_) | (with_reducible refine bl_then ?_ (by with_reducible assumption))))⟩
theorem two1_2_2 (p : Int) (xs ys : List Int) (A B : Option Addr) (c d P X Y QX QY k : Nat) (x y : Int) (hx : Fits x) (hy : Fits y) (w : World) (hkx : k < xs.length) (hky : k < ys.length) (hlx : xs.length ≤ 9223372036854775807) (hly : ys.length ≤ 9223372036854775807)
    (hP : w.cell? ⟨P, 0, none⟩ = some (.int .i64 p)) (hX : w.cell? ⟨X, 0, none⟩ = some (.func (.func 119) #[] #[.pointer (some ⟨QX, 0, none⟩)])) (hY : w.cell? ⟨Y, 0, none⟩ = some (.func (.func 119) #[] #[.pointer (some ⟨QY, 0, none⟩)]))
    (hQX : w.cell? ⟨QX, 4, none⟩ = some (.slice A xs.length c)) (hQY : w.cell? ⟨QY, 4, none⟩ = some (.slice B ys.length d)) (hsx : Sl w A xs) (hsy : Sl w B ys) (hxk : xs.getD k 0 = x) (hyk : ys.getD k 0 = y) :
    Calls Tryz.prog 65 #[.int .i64 k, .pointer (some ⟨P, 0, none⟩), .pointer (some ⟨X, 0, none⟩), .pointer (some ⟨Y, 0, none⟩)] w fun e w' => e = ret2 (two p x y) ∧ Below w.heap.size w w' := by
  have HX : Hid (Calls Tryz.prog 119 #[.int .i64 k, .pointer (some ⟨QX, 0, none⟩)] w.drew fun e w' => e = .returned (.int .i64 x) ∧ w.drew = w') := spread2_any xs A c k QX x _ hkx hlx hQX hsx hxk
  have HY : Hid (Calls Tryz.prog 119 #[.int .i64 k, .pointer (some ⟨QY, 0, none⟩)] w.drew fun e w' => e = .returned (.int .i64 y) ∧ w.drew = w') := spread2_any ys B d k QY y _ hky hly hQY hsy hyk
  have hPl := block_lt_of_cell hP
  have hXl := block_lt_of_cell hX
  have hYl := block_lt_of_cell hY
  have hx' := hide hx
  have hy' := hide hy
  clear hx hy hQX hQY hsx hsy hxk hyk hkx hky hlx hly
  go_enter Tryz.func65, Tryz.ntmps65
  go_wp2
  go_region_held3 (fun w' => w'.cell? ⟨P, 0, none⟩ = some (.int .i64 p) ∧ w'.cell? ⟨X, 0, none⟩ = some (.func (.func 119) #[] #[.pointer (some ⟨QX, 0, none⟩)]) ∧ w'.cell? ⟨Y, 0, none⟩ = some (.func (.func 119) #[] #[.pointer (some ⟨QY, 0, none⟩)])) (simp [go_sem, *])
    ((first | (with_reducible refine HX.out.mono ?_; rintro e w' ⟨rfl, rfl⟩) | (with_reducible refine HY.out.mono ?_; rintro e w' ⟨rfl, rfl⟩) | (go_at_call 66; refine (Two_any p x y hx'.out hy'.out _).mono ?_; rintro e w' ⟨rfl, hg⟩; have hc' : ∀ b o, b < w.heap.size → w'.cell? ⟨b, o, none⟩ = w.cell? ⟨b, o, none⟩ := fun b o h => hg.cell (p := ⟨b, o, none⟩) h)))
  all_goals
    go_wp2
    go_ret2
    exact ⟨rfl, by (repeat (first | with_reducible exact Below.refl _ _ | with_reducible assumption | (with_reducible refine bl_set ?_ (by simp; try omega) _) | (with_reducible refine bl_alloc ?_ _) | (with_reducible refine bl_dn ?_ _) | (with_reducible refine bl_drew ?_) | (with_reducible refine bl_then ?_ (by with_reducible assumption))))⟩
end Ar
end Go.Proofs.YtaelfhjdmljblaaGreatDoor
/-
The loop that fills a new block with what the closure of extend.Two returns, or raises the first error (chapter 10).
-/
set_option linter.unusedSimpArgs false
set_option linter.unusedVariables false
namespace Go.Proofs.YtaelfhjdmljblaaGreatDoor
namespace Ar
open Go.RowKit Sc
theorem mapP_cons (f : Int × Int → Int × Int) (a : Int × Int) (l : List (Int × Int)) : mapP f (a :: l) = if (f a).2 ≠ 0 then ((f a).2, []) else if (mapP f l).1 ≠ 0 then ((mapP f l).1, []) else (0, (f a).1 :: (mapP f l).2) := rfl
theorem mapP_step {f : Int × Int → Int × Int} {l : List (Int × Int)} {ys : List Int} {x : Int × Int} (h : mapP f l = (0, ys)) (hx : (f x).2 = 0) : mapP f (l ++ [x]) = (0, ys ++ [(f x).1]) := by
  induction l generalizing ys with
  | nil => simp [mapP] at h; subst h; simp [mapP, hx]
  | cons a l ih =>
    rw [mapP_cons] at h
    by_cases ha : (f a).2 = 0
    · rw [if_neg (by simpa using ha)] at h
      by_cases hl : (mapP f l).1 = 0
      · rw [if_neg (by simpa using hl)] at h
        have e : mapP f l = (0, (mapP f l).2) := by rw [← hl]
        have := ih e
        simp only [Prod.mk.injEq, true_and] at h
        subst h
        show mapP f (a :: (l ++ [x])) = _
        rw [mapP_cons]
        rw [if_neg (by simpa using ha), this]
        simp
      · rw [if_pos hl] at h
        exact absurd (congrArg Prod.fst h) hl
    · rw [if_pos ha] at h
      exact absurd (congrArg Prod.fst h) ha
theorem mapP_err {f : Int × Int → Int × Int} {l r : List (Int × Int)} {ys : List Int} {x : Int × Int} (h : mapP f l = (0, ys)) (hx : (f x).2 ≠ 0) : (mapP f (l ++ x :: r)).1 = (f x).2 := by
  induction l generalizing ys with
  | nil => simp [mapP, hx]
  | cons a l ih =>
    rw [mapP_cons] at h
    by_cases ha : (f a).2 = 0
    · rw [if_neg (by simpa using ha)] at h
      by_cases hl : (mapP f l).1 = 0
      · have e : mapP f l = (0, (mapP f l).2) := by rw [← hl]
        have := ih e
        show (mapP f (a :: (l ++ x :: r))).1 = _
        rw [mapP_cons]
        rw [if_neg (by simpa using ha), if_pos (by rw [this]; exact hx)]
        exact this
      · rw [if_pos hl] at h
        exact absurd (congrArg Prod.fst h) hl
    · rw [if_pos ha] at h
      exact absurd (congrArg Prod.fst h) ha
theorem mapP_len {f : Int × Int → Int × Int} {l : List (Int × Int)} {ys : List Int} (h : mapP f l = (0, ys)) : ys.length = l.length := by
  induction l generalizing ys with
  | nil => simp [mapP] at h; subst h; rfl
  | cons a l ih =>
    rw [mapP_cons] at h
    by_cases ha : (f a).2 = 0
    · rw [if_neg (by simpa using ha)] at h
      by_cases hl : (mapP f l).1 = 0
      · rw [if_neg (by simpa using hl)] at h
        simp only [Prod.mk.injEq, true_and] at h
        subst h
        simp [ih (show mapP f l = (0, (mapP f l).2) by rw [← hl])]
      · rw [if_pos hl] at h
        exact absurd (congrArg Prod.fst h) hl
    · rw [if_pos ha] at h
      exact absurd (congrArg Prod.fst h) ha
theorem take_splitP {xs : List (Int × Int)} {k : Nat} (hk : k < xs.length) : xs = xs.take k ++ xs.getD k (0, 0) :: xs.drop (k + 1) := by
  rw [List.getD_eq_getElem?_getD, List.getElem?_eq_getElem hk]
  simp
theorem take_succ_getDP {xs : List (Int × Int)} {k : Nat} (hk : k < xs.length) : xs.take (k + 1) = xs.take k ++ [xs.getD k (0, 0)] := by
  rw [List.take_succ_eq_append_getElem hk, List.getD_eq_getElem?_getD, List.getElem?_eq_getElem hk]
  rfl
set_option maxHeartbeats 400000 in
theorem all_two (f : Int × Int → Int × Int) (xs : List (Int × Int)) (P X Y : Nat) (w : World) (hl : xs.length ≤ 100000)
    (hcl : ∀ (k : Nat) (W : World), k < xs.length → Below w.heap.size w W → Calls Tryz.prog 65 #[.int .i64 k, .pointer (some ⟨P, 0, none⟩), .pointer (some ⟨X, 0, none⟩), .pointer (some ⟨Y, 0, none⟩)] W fun e w' => e = ret2 (f (xs.getD k (0, 0))) ∧ Below W.heap.size W w') :
    Calls Tryz.prog 60 #[.agg #[.int .i64 xs.length, .func (.func 65) #[] #[.pointer (some ⟨P, 0, none⟩), .pointer (some ⟨X, 0, none⟩), .pointer (some ⟨Y, 0, none⟩)]]] w fun e w' => AllPost w xs.length (mapP f xs) e w' := by
  have HCL := hide hcl
  have hmk := fun W => make_i64 xs.length hl W
  clear hcl
  obtain ⟨n, hn⟩ : ∃ n, xs.length = n := ⟨_, rfl⟩
  rw [hn] at hmk hl ⊢
  have HN := hide hn
  clear hn
  go_enter Tryz.func60, Tryz.ntmps60
  go_wp2
  go_loopw [12] (fun i wr => ∃ k : Nat, ∃ ys : List Int, k ≤ n ∧ i = .int .i64 k ∧ Hid (mapP f (xs.take k) = (0, ys)) ∧ Hid (ys.length = k) ∧ Hid (Out wr (w.heap.size + 1) n ys) ∧ Below w.heap.size w wr ∧
      wr.cell? ⟨w.heap.size, 1, none⟩ = some (.func (.func 65) #[] #[.pointer (some ⟨P, 0, none⟩), .pointer (some ⟨X, 0, none⟩), .pointer (some ⟨Y, 0, none⟩)])) (fun i _ => n - (intOf i).toNat)
  case atStart => exact ⟨0, [], Nat.zero_le _, rfl, rfl, rfl, (by have := Out.new (w.alloc (.cells #[.int .i64 n, .func (.func 65) #[] #[.pointer (some ⟨P, 0, none⟩), .pointer (some ⟨X, 0, none⟩), .pointer (some ⟨Y, 0, none⟩)]] 89)) n 2; exact hide (by simpa using this)), by (repeat (first | with_reducible exact Below.refl _ _ | with_reducible assumption | (with_reducible refine bl_set ?_ (by simp; try omega) _) | (with_reducible refine bl_alloc ?_ _) | (with_reducible refine bl_dn ?_ _) | (with_reducible refine bl_drew ?_) | (with_reducible refine bl_then ?_ (by with_reducible assumption)))), by simp [go_sem]⟩
  case round =>
    obtain ⟨k, ys, hk, rfl, hm, hy, ho, hb, hbox⟩ := hrel
    by_cases hlt : k < n
    · have hkx : k < xs.length := by have := HN.out; omega
      obtain ⟨x, hxk⟩ : ∃ x, Hid (xs.getD k (0, 0) = x) := ⟨_, rfl⟩
      have hcl : Hid (∀ W, Below wr.heap.size wr W → Calls Tryz.prog 65 #[.int .i64 k, .pointer (some ⟨P, 0, none⟩), .pointer (some ⟨X, 0, none⟩), .pointer (some ⟨Y, 0, none⟩)] W fun e w' => e = ret2 (f x) ∧ Below W.heap.size W w') := by
        intro W hW
        have := HCL.out k W hkx (hb.trans (hW.mono hb.size))
        rw [hxk.out] at this
        exact this
      clear hkx
      by_cases he : (f x).2 = 0
      · have c1 : ((f x).2 != 0) = false := by simpa using he
        have HE := hide he
        clear he
        go_wp2_with (go_at_call 65; refine (hcl.out _ (by (repeat (first | with_reducible exact Below.refl _ _ | with_reducible assumption | (with_reducible refine bl_set ?_ (by simp; try omega) _) | (with_reducible refine bl_alloc ?_ _) | (with_reducible refine bl_dn ?_ _) | (with_reducible refine bl_drew ?_) | (with_reducible refine bl_then ?_ (by with_reducible assumption)))))).mono ?_; rintro e w2 ⟨rfl, hg⟩; (have HO2 := hide (Out.below ho.out hg)); (obtain ⟨v, hv⟩ := HO2.out.2.1 k hlt); (have hfz := HO2.out.2.2.2 k))
        have hHO := HO2.out
        go_roundw
        case rel => exact ⟨k + 1, ys ++ [(f x).1], by omega, by go_num, (by show _ = _; rw [take_succ_getDP (by have := HN.out; omega), hxk.out]; exact mapP_step hm.out HE.out), (by show _ = _; simp [hy.out]),
          (by have := Out.set HO2.out (by rw [hy.out]; exact hlt) (f x).1; rw [hy.out] at this; exact this), (hb.trans (hg.mono hb.size)).setCell (by simp) _,
          (World.cell?_setCell_other _ _ _ _ (by simp)).trans ((hg.cell (p := ⟨w.heap.size, 1, none⟩) (block_lt_of_cell hbox)).trans hbox)⟩
        case measure => simp [intOf]; omega
      · have c1 : ((f x).2 != 0) = true := by simpa using he
        have HE : Hid ((mapP f xs).1 = (f x).2) := by
          show _ = _
          have := mapP_err (r := xs.drop (k + 1)) hm.out (by exact he)
          rw [← hxk.out, ← take_splitP (by have := HN.out; omega)] at this
          rw [← hxk.out]; exact this
        have HE2 := hide he
        clear he
        go_wp2_with (go_at_call 65; refine (hcl.out _ (by (repeat (first | with_reducible exact Below.refl _ _ | with_reducible assumption | (with_reducible refine bl_set ?_ (by simp; try omega) _) | (with_reducible refine bl_alloc ?_ _) | (with_reducible refine bl_dn ?_ _) | (with_reducible refine bl_drew ?_) | (with_reducible refine bl_then ?_ (by with_reducible assumption)))))).mono ?_; rintro e w2 ⟨rfl, hg⟩)
        exact ⟨rfl, hb.trans (hg.mono hb.size), Or.inr ⟨by rw [HE.out]; exact HE2.out, by rw [HE.out]⟩⟩
    · have HE : Hid (mapP f xs = (0, ys)) := by
        have e := hm.out
        rw [List.take_of_length_le (by have := HN.out; omega)] at e
        exact e
      go_wp2
      go_ret
      refine ⟨hb, Or.inl ⟨by rw [HE.out], w.heap.size + 1, rfl, by omega, ?_⟩⟩
      rw [HE.out]; exact ho.out
end Ar
end Go.Proofs.YtaelfhjdmljblaaGreatDoor
/-
Words for cells: what a cell holds behind draws, new blocks and stores (for every seat).
-/
set_option linter.unusedSimpArgs false
set_option linter.unusedVariables false
namespace Go.Proofs.YtaelfhjdmljblaaGreatDoor
namespace Ar
open Go.RowKit Sc
theorem cel_alloc (w : World) (b o : Nat) (x : Obj) (h : b < w.heap.size) : (w.alloc x).cell? ⟨b, o, none⟩ = w.cell? ⟨b, o, none⟩ := World.cell?_alloc_lt w x ⟨b, o, none⟩ h
theorem cel_set (w : World) (b o b' o' : Nat) (v : Value) (h : b' ≠ b) : (w.setCell ⟨b', o', none⟩ v).cell? ⟨b, o, none⟩ = w.cell? ⟨b, o, none⟩ :=
  World.cell?_setCell_other w _ _ v (fun e => h (congrArg Addr.block e))
theorem cel_off (w : World) (b o b' o' : Nat) (v : Value) (h : o' ≠ o) : (w.setCell ⟨b', o', none⟩ v).cell? ⟨b, o, none⟩ = w.cell? ⟨b, o, none⟩ :=
  World.cell?_setCell_other w _ _ v (fun e => h (congrArg Addr.off e))
theorem cel_drew (w : World) (p : Addr) : w.drew.cell? p = w.cell? p := rfl
theorem cel_drewN (w : World) (n : Nat) (p : Addr) : (w.drewN n).cell? p = w.cell? p := rfl
theorem cel_new (w : World) (b o : Nat) (cs : Array Value) (t : TypeId) (h : b = w.heap.size) : (w.alloc (.cells cs t)).cell? ⟨b, o, none⟩ = cs[o]? := by
  subst h; rw [World.cell?_alloc_at (hn := rfl)]
theorem fro_set (w : World) (p q : Addr) (v : Value) : (w.setCell p v).frozen? q = w.frozen? q := World.frozen?_setCell _ _ _ _
def Arr5 (w : World) (g : Nat) (k r l0 l1 s : Value) : Prop :=
  w.cell? ⟨g, 0, none⟩ = some k ∧ w.cell? ⟨g, 1, none⟩ = some r ∧ w.cell? ⟨g, 2, none⟩ = some l0 ∧ w.cell? ⟨g, 3, none⟩ = some l1 ∧ w.cell? ⟨g, 4, none⟩ = some s
theorem Arr5.below {w w' : World} {g : Nat} {k r l0 l1 s : Value} (h : Arr5 w g k r l0 l1 s) (hb : Below w.heap.size w w') : Arr5 w' g k r l0 l1 s := by
  obtain ⟨h1, h2, h3, h4, h5⟩ := h
  have hl := block_lt_of_cell h1
  exact ⟨(hb.cell (p := ⟨g, 0, none⟩) hl).trans h1, (hb.cell (p := ⟨g, 1, none⟩) hl).trans h2, (hb.cell (p := ⟨g, 2, none⟩) hl).trans h3, (hb.cell (p := ⟨g, 3, none⟩) hl).trans h4, (hb.cell (p := ⟨g, 4, none⟩) hl).trans h5⟩
theorem getD_in {α : Type} {xs : List α} {k : Nat} (d : α) (h : k < xs.length) : xs.getD k d ∈ xs := by
  rw [List.getD_eq_getElem?_getD, List.getElem?_eq_getElem h]; exact List.getElem_mem h
end Ar
end Go.Proofs.YtaelfhjdmljblaaGreatDoor
/-
Words for a list that is appended to, in a field of a local struct or in a variable (for every seat).
-/
set_option linter.unusedSimpArgs false
set_option linter.unusedVariables false
namespace Go.Proofs.YtaelfhjdmljblaaGreatDoor
namespace Ar
open Go.RowKit Sc
theorem gb_below {a w w' : World} {row : Option Nat} (h : a.grownBy w row) (hb : Below w.heap.size w w') : a.grownBy w' row :=
  ⟨hb.os.trans h.os, hb.tape.trans h.tape, hb.output.trans h.output, Nat.le_trans h.size hb.size, fun k hk hne => (hb.block k (Nat.lt_of_lt_of_le hk h.size)).trans (h.block k hk hne)⟩
theorem gb_grown {a w w' : World} {row row' : Option Nat} (h : a.grownBy w row) (hg : w.grownBy w' row') (hr : ∀ k, row' = some k → a.heap.size ≤ k ∨ some k = row) : a.grownBy w' row :=
  ⟨hg.os.trans h.os, hg.tape.trans h.tape, hg.output.trans h.output, Nat.le_trans h.size hg.size, fun k hk hne => (hg.block k (Nat.lt_of_lt_of_le hk h.size) (fun e => by
    rcases hr k e.symm with h1 | h1
    · omega
    · exact hne h1)).trans (h.block k hk hne)⟩
theorem gb_set {a w : World} {g : Nat} (h : a.grownBy w (some g)) {p : Addr} (hp : p.block = g ∨ a.heap.size ≤ p.block) (u : Value) : a.grownBy (w.setCell p u) (some g) :=
  ⟨h.os, h.tape, h.output, by simpa [World.setCell] using h.size, fun i hi hne => (Below.heap_setCell w p u i (by
    rintro rfl
    rcases hp with hp | hp
    · exact hne (by rw [hp])
    · omega)).trans (h.block i hi hne)⟩
theorem gb_cell {a w : World} {g : Nat} (h : a.grownBy w (some g)) : (∀ b o, b < a.heap.size → b ≠ g → w.cell? ⟨b, o, none⟩ = a.cell? ⟨b, o, none⟩) ∧ (∀ b o, b < a.heap.size → b ≠ g → w.frozen? ⟨b, o, none⟩ = a.frozen? ⟨b, o, none⟩) :=
  ⟨fun b o hb hne => World.cell?_of_block (h.block b hb (fun e => hne (by injection e))), fun b o hb hne => World.frozen?_of_block (h.block b hb (fun e => hne (by injection e)))⟩
theorem below_gb {B : Nat} {a w : World} (h : Below B a w) : ∀ {w' : World} {row : Option Nat}, w.grownBy w' row → B ≤ w.heap.size → (∀ k, row = some k → B ≤ k) → Below B a w' := fun hg hB hr => h.grown hg hB hr
/-- the numbers ys, in a row of the call's own -/
def Acc (w : World) (base : Nat) (v : Value) (ys : List Int) : Prop := w.ownsRow base 2 1 v ys.length (ys.map (Value.int .i64))
theorem Acc.nil (w : World) (base : Nat) : Acc w base (.slice none 0 0) [] := World.ownsRow_nil w base _ 1
theorem Acc.kept {w w' : World} {base : Nat} {v : Value} {ys : List Int} (h : Acc w base v ys) {row : Option Nat} (hg : w.grownBy w' row) (hr : ∀ k, row = some k → k < base) : Acc w' base v ys := by
  refine World.ownsRow.kept h hg ?_
  cases hv : v.ownBlock with
  | none => exact .inl rfl
  | some k =>
    right
    intro e
    have := (World.ownsRow.lt h k hv).1
    have := hr k e.symm
    omega
theorem gb_of_below {w w' : World} (hb : Below w.heap.size w w') (row : Option Nat) : w.grownBy w' row := ⟨hb.os, hb.tape, hb.output, hb.size, fun k hk _ => hb.block k hk⟩
theorem Acc.below {w w' : World} {base : Nat} {v : Value} {ys : List Int} (h : Acc w base v ys) (hb : Below w.heap.size w w') : Acc w' base v ys := h.kept (gb_of_below hb none) (fun _ e => by cases e)
theorem Acc.alloc {w : World} {base : Nat} {v : Value} {ys : List Int} (h : Acc w base v ys) (o : Obj) : Acc (w.alloc o) base v ys := World.ownsRow.alloc h o
theorem Acc.drew {w : World} {base : Nat} {v : Value} {ys : List Int} (h : Acc w base v ys) : Acc w.drew base v ys := h
theorem Acc.set {w : World} {base : Nat} {v : Value} {ys : List Int} (h : Acc w base v ys) {a : Addr} (ha : a.block < base) (u : Value) : Acc (w.setCell a u) base v ys := ownsRow_setCell_below h ha u
theorem Acc.sl {w : World} {base : Nat} {v : Value} {ys : List Int} (h : Acc w base v ys) : ∃ (A : Option Addr) (c : Nat), v = .slice A ys.length c ∧ Sl w A ys ∧ (∀ g o, A = some ⟨g, o, none⟩ → base ≤ g) ∧ ys.length ≤ c := by
  rcases Nat.eq_zero_or_pos ys.length with h0 | h0
  · have hy : ys = [] := List.eq_nil_of_length_eq_zero h0
    subst hy
    rcases h.2 with ⟨rfl, _⟩ | ⟨g, cap, cur, rfl, hb, _⟩
    · exact ⟨none, 0, rfl, Sl.nil _ _, (fun _ _ e => by cases e), Nat.le_refl _⟩
    · exact ⟨_, cap, rfl, Sl.nil _ _, (fun _ _ e => by injection e with e; injection e with e1; subst e1; exact hb), Nat.zero_le _⟩
  · have hcap : ∀ g cap, v = .slice (some ⟨g, 0, none⟩) ys.length cap → ys.length ≤ cap := fun g cap e => by
      rcases h.2 with ⟨e', _⟩ | ⟨g', cap', cur, e', _, _, hnc, _⟩
      · rw [e'] at e; cases e
      · rw [e'] at e; injection e with _ _ e3; subst e3; exact hnc
    obtain ⟨g, cap, rfl, hb, hlt⟩ := World.ownsRow.form h h0
    refine ⟨_, cap, rfl, fun _ => ⟨g, 0, rfl, hlt, fun j hj => ?_⟩, (fun _ _ e => by injection e with e; injection e with e1; subst e1; exact hb), hcap g cap rfl⟩
    rw [Nat.zero_add, World.ownsRow.cellAt h j (by omega)]
    simp [List.getD_eq_getElem?_getD, List.getElem?_eq_getElem hj]
theorem Acc.len {w : World} {base : Nat} {v : Value} {ys : List Int} (h : Acc w base v ys) : ∃ (A : Option Addr) (c : Nat), v = .slice A ys.length c := by
  obtain ⟨A, c, e, _⟩ := h.sl; exact ⟨A, c, e⟩
theorem Sl.set {w : World} {A : Option Addr} {xs : List Int} {B : Nat} (h : Sl w A xs) (hge : ∀ g o, A = some ⟨g, o, none⟩ → B ≤ g) {q : Addr} (hq : q.block < B) (u : Value) : Sl (w.setCell q u) A xs := fun hn => by
  obtain ⟨b, o, e, hl, hc⟩ := h hn
  have := hge b o e
  exact ⟨b, o, e, by simpa [World.setCell] using hl, fun j hj => (World.cell?_setCell_other w _ _ u (fun e => by have := congrArg Addr.block e; simp at this; omega)).trans (hc j hj)⟩
theorem Acc.own_ge {w : World} {base : Nat} {v : Value} {ys : List Int} (h : Acc w base v ys) : ∀ k, v.ownBlock = some k → base ≤ k := fun k hk => (World.ownsRow.lt h k hk).1
theorem Acc.push {w : World} {base n : Nat} {v : Value} {ys : List Int} {y : Int} (hn : ys.length = n) (h : w.ownsRow base 2 1 v (n + 1) (ys.map (Value.int .i64) ++ [.int .i64 y])) : Acc w base v (ys ++ [y]) := by
  subst hn
  show w.ownsRow _ _ _ _ _ _
  simpa using h
theorem Arr5.gb {w w' : World} {g G : Nat} {k r l0 l1 s : Value} (h : Arr5 w g k r l0 l1 s) (hb : w.grownBy w' (some G)) (hne : g ≠ G) : Arr5 w' g k r l0 l1 s := by
  obtain ⟨h1, h2, h3, h4, h5⟩ := h
  have hl := block_lt_of_cell h1
  have hc := (gb_cell hb).1
  exact ⟨(hc _ _ hl hne).trans h1, (hc _ _ hl hne).trans h2, (hc _ _ hl hne).trans h3, (hc _ _ hl hne).trans h4, (hc _ _ hl hne).trans h5⟩
theorem Acc.own {w : World} {base n : Nat} {v : Value} {ys : List Int} (h : Acc w base v ys) (hn : ys.length = n) : w.ownsRow base 2 1 v n (ys.map (Value.int .i64)) := by subst hn; exact h
theorem Acc.far {w w' : World} {base : Nat} {v : Value} {ys : List Int} {G : Nat} (h : Acc w base v ys) (hG : G < base) {w1 : World} (hg : w1.grownBy w' v.ownBlock) (hlt : G < w1.heap.size) :
    (∀ o, w'.cell? ⟨G, o, none⟩ = w1.cell? ⟨G, o, none⟩) ∧ (∀ o, w'.frozen? ⟨G, o, none⟩ = w1.frozen? ⟨G, o, none⟩) := by
  have hne : some G ≠ v.ownBlock := fun e => by have := h.own_ge _ e.symm; omega
  exact ⟨fun o => World.cell?_of_block (hg.block G hlt hne), fun o => World.frozen?_of_block (hg.block G hlt hne)⟩
/-- a local array in block G whose cells are appended to: what it holds, and what else has turned since 'a' (nothing) -/
def OutSt (a w : World) (G : Nat) (k r l0 l1 vc va : Value) (ys : List Int) : Prop :=
  a.grownBy w (some G) ∧ Arr5 w G k r l0 l1 vc ∧ (∀ i, w.frozen? ⟨G, i, none⟩ = false) ∧ Acc w (G + 1) va ys ∧ a.heap.size ≤ G + 1
theorem OutSt.lt {a w : World} {G : Nat} {k r l0 l1 vc va : Value} {ys : List Int} (h : OutSt a w G k r l0 l1 vc va ys) : G < w.heap.size := block_lt_of_cell h.2.1.1
theorem OutSt.below {a w w' : World} {G : Nat} {k r l0 l1 vc va : Value} {ys : List Int} (h : OutSt a w G k r l0 l1 vc va ys) (hb : Below w.heap.size w w') : OutSt a w' G k r l0 l1 vc va ys :=
  ⟨gb_below h.1 hb, h.2.1.below hb, fun i => (hb.frozen (p := ⟨G, i, none⟩) h.lt).trans (h.2.2.1 i), h.2.2.2.1.below hb, h.2.2.2.2⟩
theorem OutSt.app {a w w' : World} {G n : Nat} {k r l0 l1 vc va v' : Value} {ys : List Int} {y : Int} (h : OutSt a w G k r l0 l1 vc va ys) (hg : w.grownBy w' va.ownBlock) (hn : ys.length = n)
    (hown : w'.ownsRow (G + 1) 2 1 v' (n + 1) (ys.map (Value.int .i64) ++ [.int .i64 y])) : OutSt a w' G k r l0 l1 vc v' (ys ++ [y]) := by
  obtain ⟨h1, ⟨c0, c1, c2, c3, c4⟩, h3, h4, h5⟩ := h
  obtain ⟨fc, ff⟩ := Acc.far (G := G) h4 (by omega) hg (block_lt_of_cell c0)
  exact ⟨gb_grown h1 hg (fun k hk => .inl (by have := h4.own_ge k hk; omega)), ⟨(fc 0).trans c0, (fc 1).trans c1, (fc 2).trans c2, (fc 3).trans c3, (fc 4).trans c4⟩, fun i => (ff i).trans (h3 i), Acc.push hn hown, h5⟩
theorem OutSt.put {a w : World} {G : Nat} {k r l0 l1 vc va : Value} {ys : List Int} (h : OutSt a w G k r l0 l1 vc va ys) (v : Value) : OutSt a (w.setCell ⟨G, 4, none⟩ v) G k r l0 l1 v va ys := by
  obtain ⟨h1, ⟨c0, c1, c2, c3, c4⟩, h3, h4, h5⟩ := h
  exact ⟨gb_set h1 (.inl rfl) _, ⟨(cel_off _ _ _ _ _ _ (by decide)).trans c0, (cel_off _ _ _ _ _ _ (by decide)).trans c1, (cel_off _ _ _ _ _ _ (by decide)).trans c2, (cel_off _ _ _ _ _ _ (by decide)).trans c3, World.cell?_setCell_same _ _ _ c4⟩,
    fun i => (fro_set _ _ _ _).trans (h3 i), h4.set (by simp) _, h5⟩
theorem OutSt.base {a w w0 : World} {G : Nat} {k r l0 l1 vc va : Value} {ys : List Int} (h : OutSt a w G k r l0 l1 vc va ys) (hb : Below w0.heap.size w0 a) (hG : w0.heap.size ≤ G) : Below w0.heap.size w0 w :=
  below_gb hb h.1 hb.size (by rintro g ⟨⟩; exact hG)
theorem OutSt.cell {a w : World} {G : Nat} {k r l0 l1 vc va : Value} {ys : List Int} (h : OutSt a w G k r l0 l1 vc va ys) {b o : Nat} {u : Value} (hu : a.cell? ⟨b, o, none⟩ = some u) (hne : b ≠ G) : w.cell? ⟨b, o, none⟩ = some u :=
  ((gb_cell h.1).1 _ _ (block_lt_of_cell hu) hne).trans hu
theorem OutSt.arr {a w : World} {G : Nat} {k r l0 l1 vc va : Value} {ys : List Int} (h : OutSt a w G k r l0 l1 vc va ys) {g : Nat} {x0 x1 x2 x3 x4 : Value} (hu : Arr5 a g x0 x1 x2 x3 x4) (hne : g ≠ G) : Arr5 w g x0 x1 x2 x3 x4 := hu.gb h.1 hne
end Ar
end Go.Proofs.YtaelfhjdmljblaaGreatDoor
/-
append of a slice of numbers that reads as a list; vectors and scalars of the reference (chapter 7).
-/
set_option linter.unusedSimpArgs false
set_option linter.unusedVariables false
namespace Go.Proofs.YtaelfhjdmljblaaGreatDoor
namespace Ar
open Go.RowKit Sc
theorem run_app_nil {P : Program} (w : World) (base : Nat) (t ty e : TypeId) (i : TypeInfo) (size : Nat) (ht : P.underlying t = some (.slice e)) (hi : P.info? e = some i)
    (v : Value) (n : Nat) (xs : List Value) (hown : w.ownsRow base e size v n xs) (c : Nat) : (Builtin.append_ #[t, t] ty #[v, .slice none 0 c]).run P w = .ok v w := by
  rcases hown.2 with ⟨rfl, rfl⟩ | ⟨g, cap, cur, rfl, _, _, hnc, _⟩
  · simp [Builtin.append_, run_underlying ht, sizeOf, typeInfo, hi, Builtin.lenOf, Builtin.firstCells]
  · simp [Builtin.append_, run_underlying ht, sizeOf, typeInfo, hi, Builtin.lenOf, Builtin.firstCells, hnc, storeCells]
set_option maxRecDepth 100000 in
theorem wpList_app64 {w : World} {ops : Array Oper} {rest : List Oper} {o : Oper} {a : Act} {Q : Exit → Act → World → Prop} (hgd : o.guard = none) (s x : Operand)
    (ho : o.op = .call { callee := .builtin .append, args := #[s, x], argTypes := #[31, 31] }) (base : Nat) (v : Value) (ys : List Int) (hs : a.eval s = v) (hown : Acc w base v ys)
    (A : Option Addr) (c n : Nat) (news : List Int) (hn : n = news.length) (hx : a.eval x = .slice A n c) (hsl : Sl w A news) (hlen : ys.length + news.length ≤ 1000000) (hbase : base ≤ w.heap.size)
    (h : ∀ v' w', Acc w' base v' (ys ++ news) → w.grownBy w' v.ownBlock → wpList Tryz.prog ops Q rest (a.put o.dst v') w') : wpList Tryz.prog ops Q (o :: rest) a w := by
  subst hn
  obtain ⟨i0, hi0, hz0, hz1, hz2⟩ := info_parts info_i64
  cases A with
  | none =>
    have hn : news = [] := by
      by_cases e : news = []
      · exact e
      · obtain ⟨_, _, h, _⟩ := hsl e; cases h
    subst hn
    refine wpList_plain hgd fun K hK => ?_
    have hrun := run_app_nil w base 31 o.type 2 i0 1 Tryz.underlying31 hi0 v ys.length (ys.map (Value.int .i64)) hown c
    unfold Oper.wp
    simp [execOp, ho, resolve, invoke, builtin, hs, hx, hrun, Result.andThen]
    exact hK _ _ (h v w (by simpa using hown) (World.grownBy.refl w _))
  | some ad =>
    refine wpList_append_own _ hgd s x _ ho base 2 i0 (.int .i64 0) 1 8 Tryz.underlying31 hi0 hz0 hz1 hz2 rfl (by decide) v ys.length (ys.map (Value.int .i64)) hs hown ad news.length c (news.map (Value.int .i64)) hx (by simp) ?_ ?_ (by unfold maxLen; omega) (by omega) hbase ?_
    · intro j u hu
      have hj : j < news.length := by
        rcases Nat.lt_or_ge j news.length with hj | hj
        · exact hj
        · rw [List.getElem?_eq_none (by simpa using hj)] at hu; cases hu
      obtain ⟨b, o', e, hl, hc⟩ := hsl (by rintro rfl; simp at hj)
      injection e with e
      subst e
      have := hc j hj
      rw [List.getElem?_map, List.getElem?_eq_getElem hj] at hu
      have hu' : Value.int .i64 news[j] = u := by simpa using hu
      rw [← hu', show news[j] = news.getD j 0 by rw [List.getD_eq_getElem?_getD, List.getElem?_eq_getElem hj]; rfl]
      rw [show (⟨b, o', none⟩ : Addr).add j = ⟨b, o' + j, none⟩ by unfold Addr.add; split <;> simp_all]; exact this
    · intro u hu
      obtain ⟨z, _, rfl⟩ := List.mem_map.1 hu
      rfl
    · intro v' w' h1 h2 _
      exact h v' w' (by unfold Acc; rw [List.length_append, List.map_append]; exact h1) h2
/-- an array that is handed back alone: its cells lie in a new block -/
def ArrOne (w : World) (r : Arr) (e : Ending) (w' : World) : Prop :=
  Below w.heap.size w w' ∧ ∃ (A : Option Addr) (c : Nat), e = .returned (.agg #[.int .i64 r.k, .int .i64 r.r, .int .i64 r.l0, .int .i64 r.l1, .slice A r.xs.length c]) ∧ Sl w' A r.xs ∧ (∀ g o, A = some ⟨g, o, none⟩ → w.heap.size ≤ g) ∧ r.xs.length ≤ c
theorem acc_empty (w : World) (t : TypeId) (h : t = 2) : Acc (w.alloc (.cells #[] t)) w.heap.size (.slice (some ⟨w.heap.size, 0, none⟩) 0 0) [] := by
  subst h
  exact ⟨rfl, .inr ⟨w.heap.size, 0, #[], rfl, Nat.le_refl _, heap_alloc_new w _, Nat.le_refl _, by unfold maxLen; omega, rfl, rfl⟩⟩
theorem vector_any (k : Int) (A : Option Addr) (c : Nat) (xs : List Int) (hl : xs.length ≤ 100000) (w : World) (hs : Sl w A xs) : Calls Tryz.prog 50 #[.int .i64 k, .slice A xs.length c] w (ArrOne w ⟨k, 1, xs.length, 0, xs⟩) := by
  go_enter Tryz.func50, Tryz.ntmps50
  go_wp2_with (at_builtin; refine wpList_app64 rfl (.tmp 9) (.tmp 10) rfl (w.heap.size + 1) (.slice (some ⟨w.heap.size + 1, 0, none⟩) 0 0) [] rfl (by have := acc_empty (w.alloc (.cells #[.int .i64 0, .int .i64 0, .int .i64 0, .int .i64 0, .slice none 0 0] 33)) 2 rfl; simpa using this) A c xs.length xs rfl rfl (hs.below (by (repeat (first | with_reducible exact Below.refl _ _ | with_reducible assumption | (with_reducible refine bl_set ?_ (by simp; try omega) _) | (with_reducible refine bl_alloc ?_ _) | (with_reducible refine bl_dn ?_ _) | (with_reducible refine bl_drew ?_) | (with_reducible refine bl_then ?_ (by with_reducible assumption)))))) (by simp; omega) (by simp) ?_; intro v' w1 hacc hg; (have hb := hide (below_gb (w := (w.alloc (.cells #[.int .i64 0, .int .i64 0, .int .i64 0, .int .i64 0, .slice none 0 0] 33)).alloc (.cells #[] 2)) (B := w.heap.size + 1) (Below.refl _ _) hg (by simp) (by intro k hk; simp [Value.ownBlock] at hk; omega))); (obtain ⟨hc, hf⟩ : (∀ b o, b < w.heap.size + 1 → w1.cell? ⟨b, o, none⟩ = ((w.alloc (.cells #[.int .i64 0, .int .i64 0, .int .i64 0, .int .i64 0, .slice none 0 0] 33)).alloc (.cells #[] 2)).cell? ⟨b, o, none⟩) ∧ (∀ b o, b < w.heap.size + 1 → w1.frozen? ⟨b, o, none⟩ = ((w.alloc (.cells #[.int .i64 0, .int .i64 0, .int .i64 0, .int .i64 0, .slice none 0 0] 33)).alloc (.cells #[] 2)).frozen? ⟨b, o, none⟩) := ⟨fun b o h => hb.out.cell (p := ⟨b, o, none⟩) h, fun b o h => hb.out.frozen (p := ⟨b, o, none⟩) h⟩); (have hz := hb.out.size); (obtain ⟨V, cv, rfl, hsl, hge, hcp⟩ := hacc.sl); (have hsl := hide hsl); clear hacc hg)
  have hbw : Below w.heap.size w w1 := Below.trans (by (repeat (first | with_reducible exact Below.refl _ _ | with_reducible assumption | (with_reducible refine bl_set ?_ (by simp; try omega) _) | (with_reducible refine bl_alloc ?_ _) | (with_reducible refine bl_dn ?_ _) | (with_reducible refine bl_drew ?_) | (with_reducible refine bl_then ?_ (by with_reducible assumption))))) (hb.out.mono (by omega))
  have hl1 : w.heap.size < w1.heap.size := by simp at hz; omega
  refine bodyPost_ret (v := .agg #[.int .i64 k, .int .i64 1, .int .i64 xs.length, .int .i64 0, .slice V xs.length cv]) (by simp [results, Tryz.results50, go_sem, hc]) rfl ⟨by (repeat (first | with_reducible exact Below.refl _ _ | with_reducible assumption | (with_reducible refine bl_set ?_ (by simp; try omega) _) | (with_reducible refine bl_alloc ?_ _) | (with_reducible refine bl_dn ?_ _) | (with_reducible refine bl_drew ?_) | (with_reducible refine bl_then ?_ (by with_reducible assumption)))), V, cv, rfl, ?_, (fun g o e => by have := hge g o e; omega), hcp⟩
  repeat (refine Sl.set ?_ hge (by simp) _)
  exact hsl.out
theorem ints_any (A : Option Addr) (c : Nat) (xs : List Int) (n : Nat) (hn : n = xs.length) (hl : n ≤ 100000) (w : World) (hs : Sl w A xs) : Calls Tryz.prog 30 #[.slice A n c] w (ArrOne w ⟨1, 1, xs.length, 0, xs⟩) := by
  subst hn
  go_enter Tryz.func30, Tryz.ntmps30
  go_wp2_with (go_at_call 50; refine (vector_any 1 A c xs hl _ (hs.below (by (repeat (first | with_reducible exact Below.refl _ _ | with_reducible assumption | (with_reducible refine bl_set ?_ (by simp; try omega) _) | (with_reducible refine bl_alloc ?_ _) | (with_reducible refine bl_dn ?_ _) | (with_reducible refine bl_drew ?_) | (with_reducible refine bl_then ?_ (by with_reducible assumption))))))).mono ?_; rintro e w1 ⟨hg, V, cv, rfl, hsl, hge, hcp⟩; obtain ⟨hc, hf, hz⟩ := bcell hg; (have hsl := hide hsl); (have zw : w.heap.size < w1.heap.size := by have := hg.size; simp at this; omega))
  refine bodyPost_ret (v := .agg #[.int .i64 1, .int .i64 1, .int .i64 xs.length, .int .i64 0, .slice V xs.length cv]) (by simp [results, Tryz.results30, go_sem, hc]) rfl ⟨by (repeat (first | with_reducible exact Below.refl _ _ | with_reducible assumption | (with_reducible refine bl_set ?_ (by simp; try omega) _) | (with_reducible refine bl_alloc ?_ _) | (with_reducible refine bl_dn ?_ _) | (with_reducible refine bl_drew ?_) | (with_reducible refine bl_then ?_ (by with_reducible assumption)))), V, cv, rfl, ?_, (fun g o e => by have := hge g o e; simp at this; omega), hcp⟩
  repeat (refine Sl.set ?_ hge (by simp) _)
  exact hsl.out
end Ar
end Go.Proofs.YtaelfhjdmljblaaGreatDoor
