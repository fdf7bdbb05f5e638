/-
What extend.Two's contract needs beside its walk (chapter 10).
-/
import Derived.Test.YtfpnafeildigaaaArWd
import Derived.Deep.DeepCutAuto
set_option linter.unusedSimpArgs false
set_option linter.unusedVariables false
namespace Go.Proofs.Ytfpnafeildigaaa
namespace Ar
open Go.RowKit Sc

theorem all_two_n (f : Int × Int → Int × Int) (xs : List (Int × Int)) (n : Nat) (hn : xs.length = n) (P X Y : Nat) (w : World) (hl : n ≤ 100000)
    (hcl : ∀ (k : Nat) (W : World), k < xs.length → Below w.heap.size w W → Calls Try.prog 68 #[.int .i64 k, .pointer (some ⟨P, 0, none⟩), .pointer (some ⟨X, 0, none⟩), .pointer (some ⟨Y, 0, none⟩)] W fun e w' => e = ret2 (f (xs.getD k (0, 0))) ∧ Below W.heap.size W w') :
    Calls Try.prog 63 #[.agg #[.int .i64 n, .func (.func 68) #[] #[.pointer (some ⟨P, 0, none⟩), .pointer (some ⟨X, 0, none⟩), .pointer (some ⟨Y, 0, none⟩)]]] w fun e w' => AllPost w n (mapP f xs) e w' := by
  subst hn
  exact all_two f xs P X Y w hl hcl
/-- what the closure of Two needs of the world: its number, the two functions, and what these captured -/
def TwoAt (w : World) (p : Int) (fx fy : Nat) (P X Y QX QY : Nat) (a b : Arr) (A B : Option Addr) (c d : Nat) : Prop :=
  w.cell? ⟨P, 0, none⟩ = some (.int .i64 p) ∧ w.cell? ⟨X, 0, none⟩ = some (.func (.func fx) #[] #[.pointer (some ⟨QX, 0, none⟩)]) ∧ w.cell? ⟨Y, 0, none⟩ = some (.func (.func fy) #[] #[.pointer (some ⟨QY, 0, none⟩)]) ∧
    w.cell? ⟨QX, 4, none⟩ = some (.slice A a.xs.length c) ∧ w.cell? ⟨QY, 4, none⟩ = some (.slice B b.xs.length d) ∧ Sl w A a.xs ∧ Sl w B b.xs
theorem TwoAt.below {w w' : World} {p : Int} {fx fy P X Y QX QY : Nat} {a b : Arr} {A B : Option Addr} {c d : Nat} (h : TwoAt w p fx fy P X Y QX QY a b A B c d) (hb : Below w.heap.size w w') : TwoAt w' p fx fy P X Y QX QY a b A B c d := by
  obtain ⟨h1, h2, h3, h4, h5, h6, h7⟩ := h
  exact ⟨(hb.cell (p := ⟨P, 0, none⟩) (block_lt_of_cell h1)).trans h1, (hb.cell (p := ⟨X, 0, none⟩) (block_lt_of_cell h2)).trans h2, (hb.cell (p := ⟨Y, 0, none⟩) (block_lt_of_cell h3)).trans h3,
    (hb.cell (p := ⟨QX, 4, none⟩) (block_lt_of_cell h4)).trans h4, (hb.cell (p := ⟨QY, 4, none⟩) (block_lt_of_cell h5)).trans h5, h6.below hb, h7.below hb⟩
/-- the function that spread returns -/
def spr (r : Int) : Nat := if r = 0 then 102 else 103
def many (a b : Arr) : Nat := if a.r = 0 then b.xs.length else a.xs.length
theorem chk_pos {a : Arr} (h : chk a = 0) (hr : a.r = 0) : 0 < a.xs.length := by have := chk_zero h hr; omega
theorem ext_len {a b : Arr} (h : (extLens a b).1 = 0) (ha : a.r ≠ 0) (hb : b.r ≠ 0) : chk a = 0 ∧ chk b = 0 ∧ a.xs.length = b.xs.length := by
  unfold extLens at h
  by_cases h2 : chk2 a b = 0
  · rw [if_neg (by simpa using h2), if_neg ha, if_neg hb] at h
    by_cases hr : a.r = b.r
    · rw [if_neg (by simpa using hr)] at h
      by_cases hl : a.l0 ≠ b.l0 ∨ a.l1 ≠ b.l1
      · rw [if_pos hl] at h; cases h
      · by_cases hc : chk a = 0
        · rw [chk2_ok hc] at h2
          refine ⟨hc, h2, ?_⟩
          have e1 := (chk_sh hc).2
          have e2 := (chk_sh h2).2
          rw [hr, show a.l0 = b.l0 by omega, show a.l1 = b.l1 by omega, ← e2] at e1
          omega
        · rw [chk2_bad hc] at h2; exact absurd h2 hc
    · rw [if_pos hr] at h; cases h
  · rw [if_pos h2] at h; exact absurd h h2
theorem ext_chk {a b : Arr} (h : (extLens a b).1 = 0) : chk a = 0 ∧ chk b = 0 := by
  unfold extLens at h
  by_cases h2 : chk2 a b = 0
  · by_cases hc : chk a = 0
    · rw [chk2_ok hc] at h2; exact ⟨hc, h2⟩
    · rw [chk2_bad hc] at h2; exact absurd h2 hc
  · rw [if_pos h2] at h; exact absurd h h2
theorem pairs_len {a b : Arr} (h : (extLens a b).1 = 0) : (pairs a b).length = many a b := by
  unfold pairs many
  by_cases ha : a.r = 0
  · rw [if_pos ha, if_pos ha]; simp
  · rw [if_neg ha, if_neg ha]
    by_cases hb : b.r = 0
    · rw [if_pos hb]; simp
    · rw [if_neg hb]; have := (ext_len h ha hb).2.2; simp; omega
/-- the closure of Two, over the cells of its operands, wherever the world grows to -/
theorem two_closure (p : Int) (a b : Arr) (A B : Option Addr) (c d P X Y QX QY : Nat) (hla : a.xs.length ≤ 100000) (hlb : b.xs.length ≤ 100000) (hx : ∀ x ∈ a.xs, Fits x) (hy : ∀ x ∈ b.xs, Fits x) (he : (extLens a b).1 = 0)
    (w : World) (h : TwoAt w p (spr a.r) (spr b.r) P X Y QX QY a b A B c d) (k : Nat) (W : World) (hk : k < (pairs a b).length) (hb : Below w.heap.size w W) :
    Calls Try.prog 68 #[.int .i64 k, .pointer (some ⟨P, 0, none⟩), .pointer (some ⟨X, 0, none⟩), .pointer (some ⟨Y, 0, none⟩)] W fun e w' => e = ret2 ((fun q : Int × Int => two p q.1 q.2) ((pairs a b).getD k (0, 0))) ∧ Below W.heap.size W w' := by
  obtain ⟨c1, c2⟩ := ext_chk he
  rw [pairs_len he] at hk
  obtain ⟨h1, h2, h3, h4, h5, h6, h7⟩ := h.below hb
  unfold many at hk
  unfold pairs
  unfold spr at h2 h3
  by_cases ha : a.r = 0
  · rw [if_pos ha] at hk h2 ⊢
    have hk' : k < (b.xs.map (fun y => (a.xs.getD 0 0, y))).length := by simpa using hk
    have e : (b.xs.map (fun y => (a.xs.getD 0 0, y))).getD k (0, 0) = (a.xs.getD 0 0, b.xs.getD k 0) := by
      rw [List.getD_eq_getElem?_getD, List.getElem?_eq_getElem hk', List.getD_eq_getElem?_getD (l := b.xs), List.getElem?_eq_getElem hk]; simp
    rw [e]
    have p0 := chk_pos c1 ha
    by_cases hbr : b.r = 0
    · rw [if_pos hbr] at h3
      have hone := (chk_zero c2 hbr).2.2
      obtain rfl : k = 0 := by omega
      exact two1_1_1 p a.xs b.xs A B c d P X Y QX QY 0 _ _ (hx _ (getD_in _ p0)) (hy _ (getD_in _ hk)) W p0 hk (by omega) (by omega) h1 h2 h3 h4 h5 h6 h7 rfl rfl
    · rw [if_neg hbr] at h3
      exact two1_1_2 p a.xs b.xs A B c d P X Y QX QY k _ _ (hx _ (getD_in _ p0)) (hy _ (getD_in _ hk)) W p0 hk (by omega) (by omega) h1 h2 h3 h4 h5 h6 h7 rfl rfl
  · rw [if_neg ha] at hk h2 ⊢
    by_cases hbr : b.r = 0
    · rw [if_pos hbr] at h3 ⊢
      have hk' : k < (a.xs.map (fun x => (x, b.xs.getD 0 0))).length := by simpa using hk
      have e : (a.xs.map (fun x => (x, b.xs.getD 0 0))).getD k (0, 0) = (a.xs.getD k 0, b.xs.getD 0 0) := by
        rw [List.getD_eq_getElem?_getD, List.getElem?_eq_getElem hk', List.getD_eq_getElem?_getD (l := a.xs), List.getElem?_eq_getElem hk]; simp
      rw [e]
      have p0 := chk_pos c2 hbr
      exact two1_2_1 p a.xs b.xs A B c d P X Y QX QY k _ _ (hx _ (getD_in _ hk)) (hy _ (getD_in _ p0)) W hk p0 (by omega) (by omega) h1 h2 h3 h4 h5 h6 h7 rfl rfl
    · rw [if_neg hbr] at h3 ⊢
      have hl := (ext_len he ha hbr).2.2
      have hkb : k < b.xs.length := by omega
      have hk' : k < (a.xs.zip b.xs).length := by simp; omega
      have e : (a.xs.zip b.xs).getD k (0, 0) = (a.xs.getD k 0, b.xs.getD k 0) := by
        rw [List.getD_eq_getElem?_getD, List.getElem?_eq_getElem hk', List.getD_eq_getElem?_getD (l := a.xs), List.getElem?_eq_getElem hk, List.getD_eq_getElem?_getD (l := b.xs), List.getElem?_eq_getElem hkb]; simp
      rw [e]
      exact two1_2_2 p a.xs b.xs A B c d P X Y QX QY k _ _ (hx _ (getD_in _ hk)) (hy _ (getD_in _ hkb)) W hk hkb (by omega) (by omega) h1 h2 h3 h4 h5 h6 h7 rfl rfl
theorem spread_any (a : Arr) (A : Option Addr) (c : Nat) (w : World) : Calls Try.prog 67 #[.agg #[.int .i64 a.k, .int .i64 a.r, .int .i64 a.l0, .int .i64 a.l1, .slice A a.xs.length c]] w fun e w' => e = .returned (.func (.func (spr a.r)) #[] #[.pointer (some ⟨w.heap.size, 0, none⟩)]) ∧
    w' = w.alloc (.cells #[.int .i64 a.k, .int .i64 a.r, .int .i64 a.l0, .int .i64 a.l1, .slice A a.xs.length c] 25) := by
  unfold spr
  by_cases h : a.r = 0
  · rw [if_pos h]; exact spread_0 a A c h w
  · rw [if_neg h]; exact spread_n a A c h w
end Ar
end Go.Proofs.Ytfpnafeildigaaa
