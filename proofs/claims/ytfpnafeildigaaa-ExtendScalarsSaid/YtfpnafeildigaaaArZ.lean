/-
The loop that fills a new block with what the closure of extend.Two returns, or raises the first error (chapter 10).
-/
import Derived.Test.YtfpnafeildigaaaArY
import Derived.WalkLawsBesides
set_option linter.unusedSimpArgs false
set_option linter.unusedVariables false
namespace Go.Proofs.Ytfpnafeildigaaa
namespace Ar
open Go.RowKit Sc
theorem mapP_cons (f : Int × Int → Int × Int) (a : Int × Int) (l : List (Int × Int)) : mapP f (a :: l) = if (f a).2 ≠ 0 then ((f a).2, []) else if (mapP f l).1 ≠ 0 then ((mapP f l).1, []) else (0, (f a).1 :: (mapP f l).2) := rfl
theorem mapP_step {f : Int × Int → Int × Int} {l : List (Int × Int)} {ys : List Int} {x : Int × Int} (h : mapP f l = (0, ys)) (hx : (f x).2 = 0) : mapP f (l ++ [x]) = (0, ys ++ [(f x).1]) := by
  induction l generalizing ys with
  | nil => simp [mapP] at h; subst h; simp [mapP, hx]
  | cons a l ih =>
    rw [mapP_cons] at h
    by_cases ha : (f a).2 = 0
    · rw [if_neg (by simpa using ha)] at h
      by_cases hl : (mapP f l).1 = 0
      · rw [if_neg (by simpa using hl)] at h
        have e : mapP f l = (0, (mapP f l).2) := by rw [← hl]
        have := ih e
        simp only [Prod.mk.injEq, true_and] at h
        subst h
        show mapP f (a :: (l ++ [x])) = _
        rw [mapP_cons]
        rw [if_neg (by simpa using ha), this]
        simp
      · rw [if_pos hl] at h
        exact absurd (congrArg Prod.fst h) hl
    · rw [if_pos ha] at h
      exact absurd (congrArg Prod.fst h) ha
theorem mapP_err {f : Int × Int → Int × Int} {l r : List (Int × Int)} {ys : List Int} {x : Int × Int} (h : mapP f l = (0, ys)) (hx : (f x).2 ≠ 0) : (mapP f (l ++ x :: r)).1 = (f x).2 := by
  induction l generalizing ys with
  | nil => simp [mapP, hx]
  | cons a l ih =>
    rw [mapP_cons] at h
    by_cases ha : (f a).2 = 0
    · rw [if_neg (by simpa using ha)] at h
      by_cases hl : (mapP f l).1 = 0
      · have e : mapP f l = (0, (mapP f l).2) := by rw [← hl]
        have := ih e
        show (mapP f (a :: (l ++ x :: r))).1 = _
        rw [mapP_cons]
        rw [if_neg (by simpa using ha), if_pos (by rw [this]; exact hx)]
        exact this
      · rw [if_pos hl] at h
        exact absurd (congrArg Prod.fst h) hl
    · rw [if_pos ha] at h
      exact absurd (congrArg Prod.fst h) ha
theorem mapP_len {f : Int × Int → Int × Int} {l : List (Int × Int)} {ys : List Int} (h : mapP f l = (0, ys)) : ys.length = l.length := by
  induction l generalizing ys with
  | nil => simp [mapP] at h; subst h; rfl
  | cons a l ih =>
    rw [mapP_cons] at h
    by_cases ha : (f a).2 = 0
    · rw [if_neg (by simpa using ha)] at h
      by_cases hl : (mapP f l).1 = 0
      · rw [if_neg (by simpa using hl)] at h
        simp only [Prod.mk.injEq, true_and] at h
        subst h
        simp [ih (show mapP f l = (0, (mapP f l).2) by rw [← hl])]
      · rw [if_pos hl] at h
        exact absurd (congrArg Prod.fst h) hl
    · rw [if_pos ha] at h
      exact absurd (congrArg Prod.fst h) ha

theorem take_splitP {xs : List (Int × Int)} {k : Nat} (hk : k < xs.length) : xs = xs.take k ++ xs.getD k (0, 0) :: xs.drop (k + 1) := by
  rw [List.getD_eq_getElem?_getD, List.getElem?_eq_getElem hk]
  simp
theorem take_succ_getDP {xs : List (Int × Int)} {k : Nat} (hk : k < xs.length) : xs.take (k + 1) = xs.take k ++ [xs.getD k (0, 0)] := by
  rw [List.take_succ_eq_append_getElem hk, List.getD_eq_getElem?_getD, List.getElem?_eq_getElem hk]
  rfl
set_option maxHeartbeats 400000 in
theorem all_two (f : Int × Int → Int × Int) (xs : List (Int × Int)) (P X Y : Nat) (w : World) (hl : xs.length ≤ 100000)
    (hcl : ∀ (k : Nat) (W : World), k < xs.length → Below w.heap.size w W → Calls Try.prog 68 #[.int .i64 k, .pointer (some ⟨P, 0, none⟩), .pointer (some ⟨X, 0, none⟩), .pointer (some ⟨Y, 0, none⟩)] W fun e w' => e = ret2 (f (xs.getD k (0, 0))) ∧ Below W.heap.size W w') :
    Calls Try.prog 63 #[.agg #[.int .i64 xs.length, .func (.func 68) #[] #[.pointer (some ⟨P, 0, none⟩), .pointer (some ⟨X, 0, none⟩), .pointer (some ⟨Y, 0, none⟩)]]] w fun e w' => AllPost w xs.length (mapP f xs) e w' := by
  have HCL := hide hcl
  have hmk := fun W => make_i64 xs.length hl W
  clear hcl
  obtain ⟨n, hn⟩ : ∃ n, xs.length = n := ⟨_, rfl⟩
  rw [hn] at hmk hl ⊢
  have HN := hide hn
  clear hn
  go_enter Try.func63, Try.ntmps63
  go_wp2
  go_loopw [12] (fun i wr => ∃ k : Nat, ∃ ys : List Int, k ≤ n ∧ i = .int .i64 k ∧ Hid (mapP f (xs.take k) = (0, ys)) ∧ Hid (ys.length = k) ∧ Hid (Out wr (w.heap.size + 1) n ys) ∧ Below w.heap.size w wr ∧
      wr.cell? ⟨w.heap.size, 1, none⟩ = some (.func (.func 68) #[] #[.pointer (some ⟨P, 0, none⟩), .pointer (some ⟨X, 0, none⟩), .pointer (some ⟨Y, 0, none⟩)])) (fun i _ => n - (intOf i).toNat)
  case atStart => exact ⟨0, [], Nat.zero_le _, rfl, rfl, rfl, (by have := Out.new (w.alloc (.cells #[.int .i64 n, .func (.func 68) #[] #[.pointer (some ⟨P, 0, none⟩), .pointer (some ⟨X, 0, none⟩), .pointer (some ⟨Y, 0, none⟩)]] 68)) n 2; exact hide (by simpa using this)), by (repeat (first | with_reducible exact Below.refl _ _ | with_reducible assumption | (with_reducible refine bl_set ?_ (by simp; try omega) _) | (with_reducible refine bl_alloc ?_ _) | (with_reducible refine bl_dn ?_ _) | (with_reducible refine bl_drew ?_) | (with_reducible refine bl_then ?_ (by with_reducible assumption)))), by simp [go_sem]⟩
  case round =>
    obtain ⟨k, ys, hk, rfl, hm, hy, ho, hb, hbox⟩ := hrel
    by_cases hlt : k < n
    · have hkx : k < xs.length := by have := HN.out; omega
      obtain ⟨x, hxk⟩ : ∃ x, Hid (xs.getD k (0, 0) = x) := ⟨_, rfl⟩
      have hcl : Hid (∀ W, Below wr.heap.size wr W → Calls Try.prog 68 #[.int .i64 k, .pointer (some ⟨P, 0, none⟩), .pointer (some ⟨X, 0, none⟩), .pointer (some ⟨Y, 0, none⟩)] W fun e w' => e = ret2 (f x) ∧ Below W.heap.size W w') := by
        intro W hW
        have := HCL.out k W hkx (hb.trans (hW.mono hb.size))
        rw [hxk.out] at this
        exact this
      clear hkx
      by_cases he : (f x).2 = 0
      · have c1 : ((f x).2 != 0) = false := by simpa using he
        have HE := hide he
        clear he
        go_wp2_with (go_at_call 68; refine (hcl.out _ (by (repeat (first | with_reducible exact Below.refl _ _ | with_reducible assumption | (with_reducible refine bl_set ?_ (by simp; try omega) _) | (with_reducible refine bl_alloc ?_ _) | (with_reducible refine bl_dn ?_ _) | (with_reducible refine bl_drew ?_) | (with_reducible refine bl_then ?_ (by with_reducible assumption)))))).mono ?_; rintro e w2 ⟨rfl, hg⟩; (have HO2 := hide (Out.below ho.out hg)); (obtain ⟨v, hv⟩ := HO2.out.2.1 k hlt); (have hfz := HO2.out.2.2.2 k))
        have hHO := HO2.out
        go_roundw
        case rel => exact ⟨k + 1, ys ++ [(f x).1], by omega, by go_num, (by show _ = _; rw [take_succ_getDP (by have := HN.out; omega), hxk.out]; exact mapP_step hm.out HE.out), (by show _ = _; simp [hy.out]),
          (by have := Out.set HO2.out (by rw [hy.out]; exact hlt) (f x).1; rw [hy.out] at this; exact this), (hb.trans (hg.mono hb.size)).setCell (by simp) _,
          (World.cell?_setCell_other _ _ _ _ (by simp)).trans ((hg.cell (p := ⟨w.heap.size, 1, none⟩) (block_lt_of_cell hbox)).trans hbox)⟩
        case measure => simp [intOf]; omega
      · have c1 : ((f x).2 != 0) = true := by simpa using he
        have HE : Hid ((mapP f xs).1 = (f x).2) := by
          show _ = _
          have := mapP_err (r := xs.drop (k + 1)) hm.out (by exact he)
          rw [← hxk.out, ← take_splitP (by have := HN.out; omega)] at this
          rw [← hxk.out]; exact this
        have HE2 := hide he
        clear he
        go_wp2_with (go_at_call 68; refine (hcl.out _ (by (repeat (first | with_reducible exact Below.refl _ _ | with_reducible assumption | (with_reducible refine bl_set ?_ (by simp; try omega) _) | (with_reducible refine bl_alloc ?_ _) | (with_reducible refine bl_dn ?_ _) | (with_reducible refine bl_drew ?_) | (with_reducible refine bl_then ?_ (by with_reducible assumption)))))).mono ?_; rintro e w2 ⟨rfl, hg⟩)
        exact ⟨rfl, hb.trans (hg.mono hb.size), Or.inr ⟨by rw [HE.out]; exact HE2.out, by rw [HE.out]⟩⟩
    · have HE : Hid (mapP f xs = (0, ys)) := by
        have e := hm.out
        rw [List.take_of_length_le (by have := HN.out; omega)] at e
        exact e
      go_wp2
      go_ret
      refine ⟨hb, Or.inl ⟨by rw [HE.out], w.heap.size + 1, rfl, by omega, ?_⟩⟩
      rw [HE.out]; exact ho.out
end Ar
end Go.Proofs.Ytfpnafeildigaaa
