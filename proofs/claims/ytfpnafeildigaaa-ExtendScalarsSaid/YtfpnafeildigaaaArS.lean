/-
The cells of a result of One: the closure, and the loop that fills a new block with what it returns, or raises the first error (chapter 10).
-/
import Derived.Test.YtfpnafeildigaaaArR
import Derived.Deep.RegionHeld3
set_option linter.unusedSimpArgs false
set_option linter.unusedVariables false
namespace Go.Proofs.Ytfpnafeildigaaa
namespace Ar
open Go.RowKit Sc

theorem one1_any (p : Int) (xs : List Int) (A : Option Addr) (c P Q k : Nat) (x : Int) (hx : Fits x) (w : World) (hk : k < xs.length) (hl : xs.length ≤ 9223372036854775807) (hP : w.cell? ⟨P, 0, none⟩ = some (.int .i64 p))
    (hQ : w.cell? ⟨Q, 4, none⟩ = some (.slice A xs.length c)) (hs : Sl w A xs) (hxk : xs.getD k 0 = x) :
    Calls Try.prog 61 #[.int .i64 k, .pointer (some ⟨P, 0, none⟩), .pointer (some ⟨Q, 0, none⟩)] w fun e w' => e = ret2 (one p x) ∧ Below w.heap.size w w' := by
  obtain ⟨b, o, x', rfl, hb, hc, hx'⟩ := hs.at_ hk
  have e : x' = x := hx'.out.symm.trans hxk
  subst e
  clear hxk hs hx'
  have hPl := block_lt_of_cell hP
  have hQl := block_lt_of_cell hQ
  have hx' := hide hx
  clear hx
  go_enter Try.func61, Try.ntmps61
  go_wp2
  go_region_held3 (fun w' => w'.cell? ⟨P, 0, none⟩ = some (.int .i64 p) ∧ w'.cell? ⟨Q, 4, none⟩ = some (.slice (some ⟨b, o, none⟩) xs.length c) ∧ w'.cell? ⟨b, o + k, none⟩ = some (.int .i64 x')) (simp [go_sem, *]) ((go_at_call 62; refine (One_any p x' hx'.out _).mono ?_; rintro e w' ⟨rfl, hg⟩; have hc' : ∀ b o, b < w.heap.size → w'.cell? ⟨b, o, none⟩ = w.cell? ⟨b, o, none⟩ := fun b o h => hg.cell (p := ⟨b, o, none⟩) h))
  all_goals
    go_wp2
    go_ret2
    exact ⟨rfl, by (repeat (first | exact Below.refl _ _ | assumption | (refine bl_then ?_ (by assumption)) | (refine bl_alloc ?_ _) | (refine bl_dn ?_ _) | (refine bl_drew ?_)))⟩

theorem run_make_rowN {P : Program} (t e : TypeId) (i : TypeInfo) (z : Value) (ht : P.underlying t = some (.slice e)) (hi : P.info? e = some i) (hz : i.zero = some z)
    (kl kc : IntKind) (n c : Nat) (hnc : n ≤ c) (hbytes : i.bytes * c ≤ 281474976710656) (h63 : c ≤ 9223372036854775807) (w : World) :
    (Instr.makeSlice t (.int kl (n : Int)) (.int kc (c : Int))).run P w = .ok (.slice (some ⟨w.heap.size, 0, none⟩) n c) (w.alloc (.cells (madeCells z.cells (c * i.size)) e)) := by
  have hb : (i.bytes : Int) * (c : Int) ≤ 281474976710656 := by
    have h : ((i.bytes * c : Nat) : Int) ≤ 281474976710656 := by omega
    rwa [Int.natCast_mul] at h
  have hr := run_make (P := P) w t e i z ht hi hz kl kc n c (by omega) (by omega) hb (by omega)
  simp only [Int.toNat_natCast] at hr
  exact hr
theorem info_i64 : (Try.prog.info? 2).map (fun i => (i.zero, i.size, i.bytes)) = some (some (.int .i64 0), 1, 8) := by kernel_rfl
/-- a new block of n cells -/
def blank (n : Nat) : Array Value := madeCells #[.int .i64 0] n
theorem make_i64 (n : Nat) (hn : n ≤ 100000) (w : World) :
    (Instr.makeSlice 23 (.int .i64 (n : Int)) (.int .i64 (n : Int))).run Try.prog w = .ok (.slice (some ⟨w.heap.size, 0, none⟩) n n) (w.alloc (.cells (blank n) 2)) := by
  obtain ⟨i0, hi, hz0, hz1, hz2⟩ := info_parts info_i64
  have := run_make_rowN (P := Try.prog) _ _ i0 _ Try.underlying23 hi hz0 .i64 .i64 n n (Nat.le_refl _) (by rw [hz2]; omega) (by omega) w
  rw [hz1, Nat.mul_one] at this
  exact this
theorem Out.new (w : World) (n : Nat) (t : TypeId) : Out (w.alloc (.cells (blank n) t)) w.heap.size n [] :=
  ⟨by simp, fun j hj => ⟨(blank n)[j]'(by rw [blank, size_madeCells]; exact hj), by
    rw [World.cell?_alloc_at (hn := rfl)]; exact Array.getElem?_eq_getElem _⟩, fun j hj => by simp at hj, fun j => by rw [World.frozen?_alloc_at (hn := rfl)]⟩
theorem mapE_cons (f : Int → Int × Int) (a : Int) (l : List Int) : mapE f (a :: l) = if (f a).2 ≠ 0 then ((f a).2, []) else if (mapE f l).1 ≠ 0 then ((mapE f l).1, []) else (0, (f a).1 :: (mapE f l).2) := rfl
theorem mapE_step {f : Int → Int × Int} {l ys : List Int} {x : Int} (h : mapE f l = (0, ys)) (hx : (f x).2 = 0) : mapE f (l ++ [x]) = (0, ys ++ [(f x).1]) := by
  induction l generalizing ys with
  | nil => simp [mapE] at h; subst h; simp [mapE, hx]
  | cons a l ih =>
    rw [mapE_cons] at h
    by_cases ha : (f a).2 = 0
    · rw [if_neg (by simpa using ha)] at h
      by_cases hl : (mapE f l).1 = 0
      · rw [if_neg (by simpa using hl)] at h
        have e : mapE f l = (0, (mapE f l).2) := by rw [← hl]
        have := ih e
        simp only [Prod.mk.injEq, true_and] at h
        subst h
        show mapE f (a :: (l ++ [x])) = _
        rw [mapE_cons]
        rw [if_neg (by simpa using ha), this]
        simp
      · rw [if_pos hl] at h
        exact absurd (congrArg Prod.fst h) hl
    · rw [if_pos ha] at h
      exact absurd (congrArg Prod.fst h) ha
theorem mapE_err {f : Int → Int × Int} {l ys r : List Int} {x : Int} (h : mapE f l = (0, ys)) (hx : (f x).2 ≠ 0) : (mapE f (l ++ x :: r)).1 = (f x).2 := by
  induction l generalizing ys with
  | nil => simp [mapE, hx]
  | cons a l ih =>
    rw [mapE_cons] at h
    by_cases ha : (f a).2 = 0
    · rw [if_neg (by simpa using ha)] at h
      by_cases hl : (mapE f l).1 = 0
      · have e : mapE f l = (0, (mapE f l).2) := by rw [← hl]
        have := ih e
        show (mapE f (a :: (l ++ x :: r))).1 = _
        rw [mapE_cons]
        rw [if_neg (by simpa using ha), if_pos (by rw [this]; exact hx)]
        exact this
      · rw [if_pos hl] at h
        exact absurd (congrArg Prod.fst h) hl
    · rw [if_pos ha] at h
      exact absurd (congrArg Prod.fst h) ha
theorem mapE_len {f : Int → Int × Int} {l ys : List Int} (h : mapE f l = (0, ys)) : ys.length = l.length := by
  induction l generalizing ys with
  | nil => simp [mapE] at h; subst h; rfl
  | cons a l ih =>
    rw [mapE_cons] at h
    by_cases ha : (f a).2 = 0
    · rw [if_neg (by simpa using ha)] at h
      by_cases hl : (mapE f l).1 = 0
      · rw [if_neg (by simpa using hl)] at h
        simp only [Prod.mk.injEq, true_and] at h
        subst h
        simp [ih (show mapE f l = (0, (mapE f l).2) by rw [← hl])]
      · rw [if_pos hl] at h
        exact absurd (congrArg Prod.fst h) hl
    · rw [if_pos ha] at h
      exact absurd (congrArg Prod.fst h) ha
theorem take_split {xs : List Int} {k : Nat} (hk : k < xs.length) : xs = xs.take k ++ xs.getD k 0 :: xs.drop (k + 1) := by
  rw [List.getD_eq_getElem?_getD, List.getElem?_eq_getElem hk]
  simp
theorem take_succ_getD {xs : List Int} {k : Nat} (hk : k < xs.length) : xs.take (k + 1) = xs.take k ++ [xs.getD k 0] := by
  rw [List.take_succ_eq_append_getElem hk, List.getD_eq_getElem?_getD, List.getElem?_eq_getElem hk]
  rfl
/-- what the loop that fills the cells answers -/
def AllPost (w : World) (n : Nat) (m : Int × List Int) (e : Ending) (w' : World) : Prop :=
  Below w.heap.size w w' ∧ ((m.1 = 0 ∧ ∃ g, e = .returned (.slice (some ⟨g, 0, none⟩) n n) ∧ w.heap.size ≤ g ∧ Out w' g n m.2) ∨ (m.1 ≠ 0 ∧ e = .panicked [{ v := wrongV m.1, recovered := false }]))
end Ar
end Go.Proofs.Ytfpnafeildigaaa
