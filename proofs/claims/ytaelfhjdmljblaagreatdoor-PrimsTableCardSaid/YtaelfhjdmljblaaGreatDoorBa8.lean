/-
What extend.Two's contract needs beside its walk (chapter 10).
-/
import Derived.Test.YtaelfhjdmljblaaGreatDoorBa7
import Derived.Deep.DeepCutAuto
set_option linter.unusedSimpArgs false
set_option linter.unusedVariables false
namespace Go.Proofs.YtaelfhjdmljblaaGreatDoor
namespace Ar
open Go.RowKit Sc
theorem all_two_n (f : Int × Int → Int × Int) (xs : List (Int × Int)) (n : Nat) (hn : xs.length = n) (P X Y : Nat) (w : World) (hl : n ≤ 100000)
    (hcl : ∀ (k : Nat) (W : World), k < xs.length → Below w.heap.size w W → Calls Tryz.prog 65 #[.int .i64 k, .pointer (some ⟨P, 0, none⟩), .pointer (some ⟨X, 0, none⟩), .pointer (some ⟨Y, 0, none⟩)] W fun e w' => e = ret2 (f (xs.getD k (0, 0))) ∧ Below W.heap.size W w') :
    Calls Tryz.prog 60 #[.agg #[.int .i64 n, .func (.func 65) #[] #[.pointer (some ⟨P, 0, none⟩), .pointer (some ⟨X, 0, none⟩), .pointer (some ⟨Y, 0, none⟩)]]] w fun e w' => AllPost w n (mapP f xs) e w' := by
  subst hn
  exact all_two f xs P X Y w hl hcl
/-- what the closure of Two needs of the world: its number, the two functions, and what these captured -/
def TwoAt (w : World) (p : Int) (fx fy : Nat) (P X Y QX QY : Nat) (a b : Arr) (A B : Option Addr) (c d : Nat) : Prop :=
  w.cell? ⟨P, 0, none⟩ = some (.int .i64 p) ∧ w.cell? ⟨X, 0, none⟩ = some (.func (.func fx) #[] #[.pointer (some ⟨QX, 0, none⟩)]) ∧ w.cell? ⟨Y, 0, none⟩ = some (.func (.func fy) #[] #[.pointer (some ⟨QY, 0, none⟩)]) ∧
    w.cell? ⟨QX, 4, none⟩ = some (.slice A a.xs.length c) ∧ w.cell? ⟨QY, 4, none⟩ = some (.slice B b.xs.length d) ∧ Sl w A a.xs ∧ Sl w B b.xs
theorem TwoAt.below {w w' : World} {p : Int} {fx fy P X Y QX QY : Nat} {a b : Arr} {A B : Option Addr} {c d : Nat} (h : TwoAt w p fx fy P X Y QX QY a b A B c d) (hb : Below w.heap.size w w') : TwoAt w' p fx fy P X Y QX QY a b A B c d := by
  obtain ⟨h1, h2, h3, h4, h5, h6, h7⟩ := h
  exact ⟨(hb.cell (p := ⟨P, 0, none⟩) (block_lt_of_cell h1)).trans h1, (hb.cell (p := ⟨X, 0, none⟩) (block_lt_of_cell h2)).trans h2, (hb.cell (p := ⟨Y, 0, none⟩) (block_lt_of_cell h3)).trans h3,
    (hb.cell (p := ⟨QX, 4, none⟩) (block_lt_of_cell h4)).trans h4, (hb.cell (p := ⟨QY, 4, none⟩) (block_lt_of_cell h5)).trans h5, h6.below hb, h7.below hb⟩
/-- the function that spread returns -/
def spr (r : Int) : Nat := if r = 0 then 118 else 119
def many (a b : Arr) : Nat := if a.r = 0 then b.xs.length else a.xs.length
theorem chk_pos {a : Arr} (h : chk a = 0) (hr : a.r = 0) : 0 < a.xs.length := by have := chk_zero h hr; omega
theorem ext_len {a b : Arr} (h : (extLens a b).1 = 0) (ha : a.r ≠ 0) (hb : b.r ≠ 0) : chk a = 0 ∧ chk b = 0 ∧ a.xs.length = b.xs.length := by
  unfold extLens at h
  by_cases h2 : chk2 a b = 0
  · rw [if_neg (by simpa using h2), if_neg ha, if_neg hb] at h
    by_cases hr : a.r = b.r
    · rw [if_neg (by simpa using hr)] at h
      by_cases hl : a.l0 ≠ b.l0 ∨ a.l1 ≠ b.l1
      · rw [if_pos hl] at h; cases h
      · by_cases hc : chk a = 0
        · rw [chk2_ok hc] at h2
          refine ⟨hc, h2, ?_⟩
          have e1 := (chk_sh hc).2
          have e2 := (chk_sh h2).2
          rw [hr, show a.l0 = b.l0 by omega, show a.l1 = b.l1 by omega, ← e2] at e1
          omega
        · rw [chk2_bad hc] at h2; exact absurd h2 hc
    · rw [if_pos hr] at h; cases h
  · rw [if_pos h2] at h; exact absurd h h2
theorem ext_chk {a b : Arr} (h : (extLens a b).1 = 0) : chk a = 0 ∧ chk b = 0 := by
  unfold extLens at h
  by_cases h2 : chk2 a b = 0
  · by_cases hc : chk a = 0
    · rw [chk2_ok hc] at h2; exact ⟨hc, h2⟩
    · rw [chk2_bad hc] at h2; exact absurd h2 hc
  · rw [if_pos h2] at h; exact absurd h h2
theorem pairs_len {a b : Arr} (h : (extLens a b).1 = 0) : (pairs a b).length = many a b := by
  unfold pairs many
  by_cases ha : a.r = 0
  · rw [if_pos ha, if_pos ha]; simp
  · rw [if_neg ha, if_neg ha]
    by_cases hb : b.r = 0
    · rw [if_pos hb]; simp
    · rw [if_neg hb]; have := (ext_len h ha hb).2.2; simp; omega
/-- the closure of Two, over the cells of its operands, wherever the world grows to -/
theorem two_closure (p : Int) (a b : Arr) (A B : Option Addr) (c d P X Y QX QY : Nat) (hla : a.xs.length ≤ 100000) (hlb : b.xs.length ≤ 100000) (hx : ∀ x ∈ a.xs, Fits x) (hy : ∀ x ∈ b.xs, Fits x) (he : (extLens a b).1 = 0)
    (w : World) (h : TwoAt w p (spr a.r) (spr b.r) P X Y QX QY a b A B c d) (k : Nat) (W : World) (hk : k < (pairs a b).length) (hb : Below w.heap.size w W) :
    Calls Tryz.prog 65 #[.int .i64 k, .pointer (some ⟨P, 0, none⟩), .pointer (some ⟨X, 0, none⟩), .pointer (some ⟨Y, 0, none⟩)] W fun e w' => e = ret2 ((fun q : Int × Int => two p q.1 q.2) ((pairs a b).getD k (0, 0))) ∧ Below W.heap.size W w' := by
  obtain ⟨c1, c2⟩ := ext_chk he
  rw [pairs_len he] at hk
  obtain ⟨h1, h2, h3, h4, h5, h6, h7⟩ := h.below hb
  unfold many at hk
  unfold pairs
  unfold spr at h2 h3
  by_cases ha : a.r = 0
  · rw [if_pos ha] at hk h2 ⊢
    have hk' : k < (b.xs.map (fun y => (a.xs.getD 0 0, y))).length := by simpa using hk
    have e : (b.xs.map (fun y => (a.xs.getD 0 0, y))).getD k (0, 0) = (a.xs.getD 0 0, b.xs.getD k 0) := by
      rw [List.getD_eq_getElem?_getD, List.getElem?_eq_getElem hk', List.getD_eq_getElem?_getD (l := b.xs), List.getElem?_eq_getElem hk]; simp
    rw [e]
    have p0 := chk_pos c1 ha
    by_cases hbr : b.r = 0
    · rw [if_pos hbr] at h3
      have hone := (chk_zero c2 hbr).2.2
      obtain rfl : k = 0 := by omega
      exact two1_1_1 p a.xs b.xs A B c d P X Y QX QY 0 _ _ (hx _ (getD_in _ p0)) (hy _ (getD_in _ hk)) W p0 hk (by omega) (by omega) h1 h2 h3 h4 h5 h6 h7 rfl rfl
    · rw [if_neg hbr] at h3
      exact two1_1_2 p a.xs b.xs A B c d P X Y QX QY k _ _ (hx _ (getD_in _ p0)) (hy _ (getD_in _ hk)) W p0 hk (by omega) (by omega) h1 h2 h3 h4 h5 h6 h7 rfl rfl
  · rw [if_neg ha] at hk h2 ⊢
    by_cases hbr : b.r = 0
    · rw [if_pos hbr] at h3 ⊢
      have hk' : k < (a.xs.map (fun x => (x, b.xs.getD 0 0))).length := by simpa using hk
      have e : (a.xs.map (fun x => (x, b.xs.getD 0 0))).getD k (0, 0) = (a.xs.getD k 0, b.xs.getD 0 0) := by
        rw [List.getD_eq_getElem?_getD, List.getElem?_eq_getElem hk', List.getD_eq_getElem?_getD (l := a.xs), List.getElem?_eq_getElem hk]; simp
      rw [e]
      have p0 := chk_pos c2 hbr
      exact two1_2_1 p a.xs b.xs A B c d P X Y QX QY k _ _ (hx _ (getD_in _ hk)) (hy _ (getD_in _ p0)) W hk p0 (by omega) (by omega) h1 h2 h3 h4 h5 h6 h7 rfl rfl
    · rw [if_neg hbr] at h3 ⊢
      have hl := (ext_len he ha hbr).2.2
      have hkb : k < b.xs.length := by omega
      have hk' : k < (a.xs.zip b.xs).length := by simp; omega
      have e : (a.xs.zip b.xs).getD k (0, 0) = (a.xs.getD k 0, b.xs.getD k 0) := by
        rw [List.getD_eq_getElem?_getD, List.getElem?_eq_getElem hk', List.getD_eq_getElem?_getD (l := a.xs), List.getElem?_eq_getElem hk, List.getD_eq_getElem?_getD (l := b.xs), List.getElem?_eq_getElem hkb]; simp
      rw [e]
      exact two1_2_2 p a.xs b.xs A B c d P X Y QX QY k _ _ (hx _ (getD_in _ hk)) (hy _ (getD_in _ hkb)) W hk hkb (by omega) (by omega) h1 h2 h3 h4 h5 h6 h7 rfl rfl
theorem spread_any (a : Arr) (A : Option Addr) (c : Nat) (w : World) : Calls Tryz.prog 64 #[.agg #[.int .i64 a.k, .int .i64 a.r, .int .i64 a.l0, .int .i64 a.l1, .slice A a.xs.length c]] w fun e w' => e = .returned (.func (.func (spr a.r)) #[] #[.pointer (some ⟨w.heap.size, 0, none⟩)]) ∧
    w' = w.alloc (.cells #[.int .i64 a.k, .int .i64 a.r, .int .i64 a.l0, .int .i64 a.l1, .slice A a.xs.length c] 33) := by
  unfold spr
  by_cases h : a.r = 0
  · rw [if_pos h]; exact spread_0 a A c h w
  · rw [if_neg h]; exact spread_n a A c h w
end Ar
end Go.Proofs.YtaelfhjdmljblaaGreatDoor
/-
The boxes of extend.Two (chapter 10).
-/
set_option linter.unusedSimpArgs false
set_option linter.unusedVariables false
namespace Go.Proofs.YtaelfhjdmljblaaGreatDoor
namespace Ar
open Go.RowKit Sc
/-- the boxes of Two: its number, its operands, its results -/
def TwoSt (w wx : World) (p : Int) (a b : Arr) (A B : Option Addr) (c d : Nat) : Prop :=
  wx.cell? ⟨w.heap.size, 0, none⟩ = some (.int .i64 p) ∧
  Arr5 wx (w.heap.size + 1) (.int .i64 a.k) (.int .i64 a.r) (.int .i64 a.l0) (.int .i64 a.l1) (.slice A a.xs.length c) ∧
  Arr5 wx (w.heap.size + 1 + 1) (.int .i64 b.k) (.int .i64 b.r) (.int .i64 b.l0) (.int .i64 b.l1) (.slice B b.xs.length d) ∧
  Arr5 wx (w.heap.size + 1 + 1 + 1) (.int .i64 0) (.int .i64 0) (.int .i64 0) (.int .i64 0) (.slice none 0 0) ∧
  wx.cell? ⟨w.heap.size + 1 + 1 + 1 + 1, 0, none⟩ = some (.int .i64 0) ∧
  (∀ i, wx.frozen? ⟨w.heap.size + 1 + 1 + 1, i, none⟩ = false) ∧ wx.frozen? ⟨w.heap.size + 1 + 1 + 1 + 1, 0, none⟩ = false ∧
  w.heap.size + 1 + 1 + 1 + 1 < wx.heap.size ∧ Below w.heap.size w wx
theorem TwoSt.below {w wx wy : World} {p : Int} {a b : Arr} {A B : Option Addr} {c d : Nat} (h : TwoSt w wx p a b A B c d) (hb : Below wx.heap.size wx wy) : TwoSt w wy p a b A B c d := by
  obtain ⟨h1, h2, h3, h4, h5, h6, h7, h8, h9⟩ := h
  exact ⟨(hb.cell (p := ⟨w.heap.size, 0, none⟩) (block_lt_of_cell h1)).trans h1, h2.below hb, h3.below hb, h4.below hb, (hb.cell (p := ⟨_, 0, none⟩) (block_lt_of_cell h5)).trans h5,
    fun i => (hb.frozen (p := ⟨_, i, none⟩) (Nat.lt_of_succ_lt h8)).trans (h6 i), (hb.frozen (p := ⟨_, 0, none⟩) h8).trans h7, Nat.lt_of_lt_of_le h8 hb.size, bl_then h9 hb⟩
/-- what the statement 'x, y := spread(a), spread(b)' leaves -/
def Spreads (w6 : World) (a b : Arr) (A B : Option Addr) (c d : Nat) (s15 s16 : Value) (wx : World) : Prop :=
  ∃ X Y QX QY : Nat, s15 = .pointer (some ⟨X, 0, none⟩) ∧ s16 = .pointer (some ⟨Y, 0, none⟩) ∧ wx.cell? ⟨X, 0, none⟩ = some (.func (.func (spr a.r)) #[] #[.pointer (some ⟨QX, 0, none⟩)]) ∧ wx.cell? ⟨Y, 0, none⟩ = some (.func (.func (spr b.r)) #[] #[.pointer (some ⟨QY, 0, none⟩)]) ∧
    wx.cell? ⟨QX, 4, none⟩ = some (.slice A a.xs.length c) ∧ wx.cell? ⟨QY, 4, none⟩ = some (.slice B b.xs.length d) ∧ Below w6.heap.size w6 wx
theorem Spreads.mk {w6 : World} {a b : Arr} {A B : Option Addr} {c d : Nat} {wx : World} {X Y : Nat} (QX QY : Nat)
    (h1 : wx.cell? ⟨X, 0, none⟩ = some (.func (.func (spr a.r)) #[] #[.pointer (some ⟨QX, 0, none⟩)])) (h2 : wx.cell? ⟨Y, 0, none⟩ = some (.func (.func (spr b.r)) #[] #[.pointer (some ⟨QY, 0, none⟩)]))
    (h3 : wx.cell? ⟨QX, 4, none⟩ = some (.slice A a.xs.length c)) (h4 : wx.cell? ⟨QY, 4, none⟩ = some (.slice B b.xs.length d)) (h5 : Below w6.heap.size w6 wx) :
    Spreads w6 a b A B c d (.pointer (some ⟨X, 0, none⟩)) (.pointer (some ⟨Y, 0, none⟩)) wx := ⟨X, Y, QX, QY, rfl, rfl, h1, h2, h3, h4, h5⟩
/-- the object that does something with the cells of two operands -/
abbrev twoObj (n P X Y : Nat) : Obj := .cells #[.int .i64 n, .func (.func 65) #[] #[.pointer (some ⟨P, 0, none⟩), .pointer (some ⟨X, 0, none⟩), .pointer (some ⟨Y, 0, none⟩)]] 89
theorem all_two_ok (f : Int × Int → Int × Int) (xs : List (Int × Int)) (n : Nat) (hn : xs.length = n) (P X Y : Nat) (w : World) (hl : n ≤ 100000)
    (hcl : ∀ (k : Nat) (W : World), k < xs.length → Below w.heap.size w W → Calls Tryz.prog 65 #[.int .i64 k, .pointer (some ⟨P, 0, none⟩), .pointer (some ⟨X, 0, none⟩), .pointer (some ⟨Y, 0, none⟩)] W fun e w' => e = ret2 (f (xs.getD k (0, 0))) ∧ Below W.heap.size W w') (ys : List Int) (hm : mapP f xs = (0, ys)) :
    Calls Tryz.prog 60 #[.agg #[.int .i64 n, .func (.func 65) #[] #[.pointer (some ⟨P, 0, none⟩), .pointer (some ⟨X, 0, none⟩), .pointer (some ⟨Y, 0, none⟩)]]] w fun e w' => Below w.heap.size w w' ∧ ∃ g, e = .returned (.slice (some ⟨g, 0, none⟩) n n) ∧ w.heap.size ≤ g ∧ Out w' g n ys := by
  refine (all_two_n f xs n hn P X Y w hl hcl).mono ?_
  rw [hm]
  rintro e w' ⟨hb, ⟨_, g, h1, h2, h3⟩ | ⟨h0, _⟩⟩
  · exact ⟨hb, g, h1, h2, h3⟩
  · exact absurd rfl h0
theorem all_two_err (f : Int × Int → Int × Int) (xs : List (Int × Int)) (n : Nat) (hn : xs.length = n) (P X Y : Nat) (w : World) (hl : n ≤ 100000)
    (hcl : ∀ (k : Nat) (W : World), k < xs.length → Below w.heap.size w W → Calls Tryz.prog 65 #[.int .i64 k, .pointer (some ⟨P, 0, none⟩), .pointer (some ⟨X, 0, none⟩), .pointer (some ⟨Y, 0, none⟩)] W fun e w' => e = ret2 (f (xs.getD k (0, 0))) ∧ Below W.heap.size W w') (er : Int) (hm : (mapP f xs).1 = er) (h0 : er ≠ 0) :
    Calls Tryz.prog 60 #[.agg #[.int .i64 n, .func (.func 65) #[] #[.pointer (some ⟨P, 0, none⟩), .pointer (some ⟨X, 0, none⟩), .pointer (some ⟨Y, 0, none⟩)]]] w fun e w' => Below w.heap.size w w' ∧ e = .panicked [{ v := wrongV er, recovered := false }] := by
  refine (all_two_n f xs n hn P X Y w hl hcl).mono ?_
  rintro e w' ⟨hb, ⟨h1, _⟩ | ⟨_, h1⟩⟩
  · exact absurd (hm.symm.trans h1) h0
  · rw [hm] at h1; exact ⟨hb, h1⟩
def kb (p : Int) (a b : Arr) : Bool := a.k == b.k && isEq p
def kz (p : Int) (a b : Arr) : Bool := !kb p a b && (a.k != 1 || b.k != 1)
theorem kz_eq (p : Int) (a b : Arr) : kz p a b = !kindsOk p a b := by
  unfold kz kb isEq kindsOk
  by_cases h1 : a.k = 1 <;> by_cases h2 : b.k = 1 <;> by_cases h3 : a.k = b.k <;> by_cases h4 : p = 23 <;> by_cases h5 : p = 24 <;> simp_all
end Ar
end Go.Proofs.YtaelfhjdmljblaaGreatDoor
/-
extend.Two where its operands do not fit (chapter 10).
-/
set_option linter.unusedSimpArgs false
set_option linter.unusedVariables false
namespace Go.Proofs.YtaelfhjdmljblaaGreatDoor
namespace Ar
open Go.RowKit Sc
set_option maxRecDepth 100000 in
theorem two_arity (p : Int) (a b : Arr) (A B : Option Addr) (c d : Nat) (hla : a.xs.length ≤ 9223372036854775807) (f0a : Fits a.l0) (f1a : Fits a.l1) (hlb : b.xs.length ≤ 9223372036854775807) (f0b : Fits b.l0) (f1b : Fits b.l1) (h : arity p ≠ (2, 0)) (w : World) (hsa : Sl w A a.xs) (hsb : Sl w B b.xs) :
    Calls Tryz.prog 40 #[.int .i64 p, .agg #[.int .i64 a.k, .int .i64 a.r, .int .i64 a.l0, .int .i64 a.l1, .slice A a.xs.length c], .agg #[.int .i64 b.k, .int .i64 b.r, .int .i64 b.l0, .int .i64 b.l1, .slice B b.xs.length d]] w fun e w' => ArrRet w (2, .zero) e w' := by
  obtain h1 | h1 : arity p = (1, 0) ∨ arity p = (0, 2) := by
    unfold arity at h ⊢
    by_cases a : 1 ≤ p ∧ p ≤ 3
    · left; rw [if_pos a]
    · by_cases b : 15 ≤ p ∧ p ≤ 32
      · rw [if_neg a, if_pos b] at h; exact absurd rfl h
      · right; rw [if_neg a, if_neg b]
  all_goals
    have H := hide h1
    clear h h1
    have hmf : ∀ (fn : Fn) (first cap : Array Value) (w : World), (Instr.makeFunc fn first cap).run Tryz.prog w = .ok (.func fn first cap) w := fun _ _ _ _ => rfl
    go_enter_defers Tryz.func40, Tryz.ntmps40
    go_wp2_with fail
    have st0 : Hid (TwoSt w (((((w.alloc (.cells #[.int .i64 p] 3)).alloc (.cells #[.int .i64 a.k, .int .i64 a.r, .int .i64 a.l0, .int .i64 a.l1, .slice A a.xs.length c] 33)).alloc (.cells #[.int .i64 b.k, .int .i64 b.r, .int .i64 b.l0, .int .i64 b.l1, .slice B b.xs.length d] 33)).alloc
        (.cells #[.int .i64 0, .int .i64 0, .int .i64 0, .int .i64 0, .slice none 0 0] 33)).alloc (.cells #[.int .i64 0] 24)) p a b A B c d) := by
      refine ⟨by simp [go_sem], ⟨by simp [go_sem], by simp [go_sem], by simp [go_sem], by simp [go_sem], by simp [go_sem]⟩, ⟨by simp [go_sem], by simp [go_sem], by simp [go_sem], by simp [go_sem], by simp [go_sem]⟩, ⟨by simp [go_sem], by simp [go_sem], by simp [go_sem], by simp [go_sem], by simp [go_sem]⟩, by simp [go_sem], fun i => by simp [go_sem], by simp [go_sem], by simp, by (repeat (first | with_reducible exact Below.refl _ _ | with_reducible assumption | (with_reducible refine bl_set ?_ (by simp; try omega) _) | (with_reducible refine bl_alloc ?_ _) | (with_reducible refine bl_dn ?_ _) | (with_reducible refine bl_drew ?_) | (with_reducible refine bl_then ?_ (by with_reducible assumption))))⟩
    refine (arity_any p _).mono ?_
    rw [H.out]
    rintro e w1 ⟨rfl, hg⟩
    have st1 := hide (st0.out.below hg)
    obtain ⟨p0_w1, ⟨a0_w1, a1_w1, a2_w1, a3_w1, a4_w1⟩, ⟨b0_w1, b1_w1, b2_w1, b3_w1, b4_w1⟩, ⟨c0_w1, c1_w1, c2_w1, c3_w1, c4_w1⟩, e0_w1, fc_w1, fe_w1, z_w1, hb_w1⟩ := st1.out; (have y0_w1 : w.heap.size < w1.heap.size := by omega); (have y1_w1 : w.heap.size + 1 < w1.heap.size := by omega); (have y2_w1 : w.heap.size + 1 + 1 < w1.heap.size := by omega); (have y3_w1 : w.heap.size + 1 + 1 + 1 < w1.heap.size := by omega)
    clear hg st0
    go_wp2
    simp [bodyPostD, Leaves, settle, results, Tryz.results40, go_sem, *]
    exact arr_zero _ (by (repeat (first | with_reducible exact Below.refl _ _ | with_reducible assumption | (with_reducible refine bl_set ?_ (by simp; try omega) _) | (with_reducible refine bl_alloc ?_ _) | (with_reducible refine bl_dn ?_ _) | (with_reducible refine bl_drew ?_) | (with_reducible refine bl_then ?_ (by with_reducible assumption)))))
set_option maxRecDepth 100000 in
theorem two_check (p : Int) (a b : Arr) (A B : Option Addr) (c d : Nat) (hla : a.xs.length ≤ 9223372036854775807) (f0a : Fits a.l0) (f1a : Fits a.l1) (hlb : b.xs.length ≤ 9223372036854775807) (f0b : Fits b.l0) (f1b : Fits b.l1) (h : arity p = (2, 0)) (h2 : chk2 a b ≠ 0) (w : World) (hsa : Sl w A a.xs) (hsb : Sl w B b.xs) :
    Calls Tryz.prog 40 #[.int .i64 p, .agg #[.int .i64 a.k, .int .i64 a.r, .int .i64 a.l0, .int .i64 a.l1, .slice A a.xs.length c], .agg #[.int .i64 b.k, .int .i64 b.r, .int .i64 b.l0, .int .i64 b.l1, .slice B b.xs.length d]] w fun e w' => ArrRet w (chk2 a b, .zero) e w' := by
  have H := hide h
  have n1 : (chk2 a b != 0) = true := by simpa using h2
  clear h h2
  have hmf : ∀ (fn : Fn) (first cap : Array Value) (w : World), (Instr.makeFunc fn first cap).run Tryz.prog w = .ok (.func fn first cap) w := fun _ _ _ _ => rfl
  go_enter_defers Tryz.func40, Tryz.ntmps40
  go_wp2_with fail
  have st0 : Hid (TwoSt w (((((w.alloc (.cells #[.int .i64 p] 3)).alloc (.cells #[.int .i64 a.k, .int .i64 a.r, .int .i64 a.l0, .int .i64 a.l1, .slice A a.xs.length c] 33)).alloc (.cells #[.int .i64 b.k, .int .i64 b.r, .int .i64 b.l0, .int .i64 b.l1, .slice B b.xs.length d] 33)).alloc
      (.cells #[.int .i64 0, .int .i64 0, .int .i64 0, .int .i64 0, .slice none 0 0] 33)).alloc (.cells #[.int .i64 0] 24)) p a b A B c d) := by
    refine ⟨by simp [go_sem], ⟨by simp [go_sem], by simp [go_sem], by simp [go_sem], by simp [go_sem], by simp [go_sem]⟩, ⟨by simp [go_sem], by simp [go_sem], by simp [go_sem], by simp [go_sem], by simp [go_sem]⟩, ⟨by simp [go_sem], by simp [go_sem], by simp [go_sem], by simp [go_sem], by simp [go_sem]⟩, by simp [go_sem], fun i => by simp [go_sem], by simp [go_sem], by simp, by (repeat (first | with_reducible exact Below.refl _ _ | with_reducible assumption | (with_reducible refine bl_set ?_ (by simp; try omega) _) | (with_reducible refine bl_alloc ?_ _) | (with_reducible refine bl_dn ?_ _) | (with_reducible refine bl_drew ?_) | (with_reducible refine bl_then ?_ (by with_reducible assumption))))⟩
  refine (arity_any p _).mono ?_
  rw [H.out]
  rintro e w1 ⟨rfl, hg⟩
  have st1 := hide (st0.out.below hg)
  obtain ⟨p0_w1, ⟨a0_w1, a1_w1, a2_w1, a3_w1, a4_w1⟩, ⟨b0_w1, b1_w1, b2_w1, b3_w1, b4_w1⟩, ⟨c0_w1, c1_w1, c2_w1, c3_w1, c4_w1⟩, e0_w1, fc_w1, fe_w1, z_w1, hb_w1⟩ := st1.out; (have y0_w1 : w.heap.size < w1.heap.size := by omega); (have y1_w1 : w.heap.size + 1 < w1.heap.size := by omega); (have y2_w1 : w.heap.size + 1 + 1 < w1.heap.size := by omega); (have y3_w1 : w.heap.size + 1 + 1 + 1 < w1.heap.size := by omega)
  clear hg st0
  go_wp2_with fail
  refine (check2_any a A c hla f0a f1a b B d hlb f0b f1b _ (hsa.below (by (repeat (first | with_reducible exact Below.refl _ _ | with_reducible assumption | (with_reducible refine bl_set ?_ (by simp; try omega) _) | (with_reducible refine bl_alloc ?_ _) | (with_reducible refine bl_dn ?_ _) | (with_reducible refine bl_drew ?_) | (with_reducible refine bl_then ?_ (by with_reducible assumption)))))) (hsb.below (by (repeat (first | with_reducible exact Below.refl _ _ | with_reducible assumption | (with_reducible refine bl_set ?_ (by simp; try omega) _) | (with_reducible refine bl_alloc ?_ _) | (with_reducible refine bl_dn ?_ _) | (with_reducible refine bl_drew ?_) | (with_reducible refine bl_then ?_ (by with_reducible assumption))))))).mono ?_
  rintro e w2 ⟨rfl, hg⟩
  have st2 := hide (st1.out.below hg)
  clear p0_w1 a0_w1 a1_w1 a2_w1 a3_w1 a4_w1 b0_w1 b1_w1 b2_w1 b3_w1 b4_w1 c0_w1 c1_w1 c2_w1 c3_w1 c4_w1 e0_w1 fc_w1 fe_w1 z_w1 hb_w1 y0_w1 y1_w1 y2_w1 y3_w1
  clear st1 hg
  obtain ⟨p0_w2, ⟨a0_w2, a1_w2, a2_w2, a3_w2, a4_w2⟩, ⟨b0_w2, b1_w2, b2_w2, b3_w2, b4_w2⟩, ⟨c0_w2, c1_w2, c2_w2, c3_w2, c4_w2⟩, e0_w2, fc_w2, fe_w2, z_w2, hb_w2⟩ := st2.out; (have y0_w2 : w.heap.size < w2.heap.size := by omega); (have y1_w2 : w.heap.size + 1 < w2.heap.size := by omega); (have y2_w2 : w.heap.size + 1 + 1 < w2.heap.size := by omega); (have y3_w2 : w.heap.size + 1 + 1 + 1 < w2.heap.size := by omega)
  go_wp2
  simp [bodyPostD, Leaves, settle, results, Tryz.results40, go_sem, *]
  exact arr_zero _ (by (repeat (first | with_reducible exact Below.refl _ _ | with_reducible assumption | (with_reducible refine bl_set ?_ (by simp; try omega) _) | (with_reducible refine bl_alloc ?_ _) | (with_reducible refine bl_dn ?_ _) | (with_reducible refine bl_drew ?_) | (with_reducible refine bl_then ?_ (by with_reducible assumption)))))
set_option maxRecDepth 100000 in
theorem two_kind (p : Int) (a b : Arr) (A B : Option Addr) (c d : Nat) (hla : a.xs.length ≤ 9223372036854775807) (f0a : Fits a.l0) (f1a : Fits a.l1) (hlb : b.xs.length ≤ 9223372036854775807) (f0b : Fits b.l0) (f1b : Fits b.l1) (h : arity p = (2, 0)) (h2 : chk2 a b = 0) (h3 : kindsOk p a b = false) (w : World) (hsa : Sl w A a.xs) (hsb : Sl w B b.xs) :
    Calls Tryz.prog 40 #[.int .i64 p, .agg #[.int .i64 a.k, .int .i64 a.r, .int .i64 a.l0, .int .i64 a.l1, .slice A a.xs.length c], .agg #[.int .i64 b.k, .int .i64 b.r, .int .i64 b.l0, .int .i64 b.l1, .slice B b.xs.length d]] w fun e w' => ArrRet w (21, .zero) e w' := by
  have H := hide h
  have H2 := hide h2
  have H3 := hide h3
  clear h h2 h3
  have hmf : ∀ (fn : Fn) (first cap : Array Value) (w : World), (Instr.makeFunc fn first cap).run Tryz.prog w = .ok (.func fn first cap) w := fun _ _ _ _ => rfl
  go_enter_defers Tryz.func40, Tryz.ntmps40
  go_wp2_with fail
  have st0 : Hid (TwoSt w (((((w.alloc (.cells #[.int .i64 p] 3)).alloc (.cells #[.int .i64 a.k, .int .i64 a.r, .int .i64 a.l0, .int .i64 a.l1, .slice A a.xs.length c] 33)).alloc (.cells #[.int .i64 b.k, .int .i64 b.r, .int .i64 b.l0, .int .i64 b.l1, .slice B b.xs.length d] 33)).alloc
      (.cells #[.int .i64 0, .int .i64 0, .int .i64 0, .int .i64 0, .slice none 0 0] 33)).alloc (.cells #[.int .i64 0] 24)) p a b A B c d) := by
    refine ⟨by simp [go_sem], ⟨by simp [go_sem], by simp [go_sem], by simp [go_sem], by simp [go_sem], by simp [go_sem]⟩, ⟨by simp [go_sem], by simp [go_sem], by simp [go_sem], by simp [go_sem], by simp [go_sem]⟩, ⟨by simp [go_sem], by simp [go_sem], by simp [go_sem], by simp [go_sem], by simp [go_sem]⟩, by simp [go_sem], fun i => by simp [go_sem], by simp [go_sem], by simp, by (repeat (first | with_reducible exact Below.refl _ _ | with_reducible assumption | (with_reducible refine bl_set ?_ (by simp; try omega) _) | (with_reducible refine bl_alloc ?_ _) | (with_reducible refine bl_dn ?_ _) | (with_reducible refine bl_drew ?_) | (with_reducible refine bl_then ?_ (by with_reducible assumption))))⟩
  refine (arity_any p _).mono ?_
  rw [H.out]
  rintro e w1 ⟨rfl, hg⟩
  have st1 := hide (st0.out.below hg)
  obtain ⟨p0_w1, ⟨a0_w1, a1_w1, a2_w1, a3_w1, a4_w1⟩, ⟨b0_w1, b1_w1, b2_w1, b3_w1, b4_w1⟩, ⟨c0_w1, c1_w1, c2_w1, c3_w1, c4_w1⟩, e0_w1, fc_w1, fe_w1, z_w1, hb_w1⟩ := st1.out; (have y0_w1 : w.heap.size < w1.heap.size := by omega); (have y1_w1 : w.heap.size + 1 < w1.heap.size := by omega); (have y2_w1 : w.heap.size + 1 + 1 < w1.heap.size := by omega); (have y3_w1 : w.heap.size + 1 + 1 + 1 < w1.heap.size := by omega)
  clear hg st0
  go_wp2_with fail
  refine (check2_any a A c hla f0a f1a b B d hlb f0b f1b _ (hsa.below (by (repeat (first | with_reducible exact Below.refl _ _ | with_reducible assumption | (with_reducible refine bl_set ?_ (by simp; try omega) _) | (with_reducible refine bl_alloc ?_ _) | (with_reducible refine bl_dn ?_ _) | (with_reducible refine bl_drew ?_) | (with_reducible refine bl_then ?_ (by with_reducible assumption)))))) (hsb.below (by (repeat (first | with_reducible exact Below.refl _ _ | with_reducible assumption | (with_reducible refine bl_set ?_ (by simp; try omega) _) | (with_reducible refine bl_alloc ?_ _) | (with_reducible refine bl_dn ?_ _) | (with_reducible refine bl_drew ?_) | (with_reducible refine bl_then ?_ (by with_reducible assumption))))))).mono ?_
  rw [H2.out]
  rintro e w2 ⟨rfl, hg⟩
  have st2 := hide (st1.out.below hg)
  clear p0_w1 a0_w1 a1_w1 a2_w1 a3_w1 a4_w1 b0_w1 b1_w1 b2_w1 b3_w1 b4_w1 c0_w1 c1_w1 c2_w1 c3_w1 c4_w1 e0_w1 fc_w1 fe_w1 z_w1 hb_w1 y0_w1 y1_w1 y2_w1 y3_w1
  clear st1 hg
  obtain ⟨p0_w2, ⟨a0_w2, a1_w2, a2_w2, a3_w2, a4_w2⟩, ⟨b0_w2, b1_w2, b2_w2, b3_w2, b4_w2⟩, ⟨c0_w2, c1_w2, c2_w2, c3_w2, c4_w2⟩, e0_w2, fc_w2, fe_w2, z_w2, hb_w2⟩ := st2.out; (have y0_w2 : w.heap.size < w2.heap.size := by omega); (have y1_w2 : w.heap.size + 1 < w2.heap.size := by omega); (have y2_w2 : w.heap.size + 1 + 1 < w2.heap.size := by omega); (have y3_w2 : w.heap.size + 1 + 1 + 1 < w2.heap.size := by omega)
  go_upto_region 7 with fail
  go_cut [11] from 18 (fun s11 wx => s11 = .bool (kb p a b) ∧ Below w2.heap.size w2 wx)
  case first =>
    cases hk : (a.k == b.k)
    · have HK : Hid (kb p a b = false) := by show _ = _; unfold kb; rw [hk]; rfl
      go_wp2_with fail
      go_meet
      exact ⟨by rw [HK.out], by (repeat (first | with_reducible exact Below.refl _ _ | with_reducible assumption | (with_reducible refine bl_set ?_ (by simp; try omega) _) | (with_reducible refine bl_alloc ?_ _) | (with_reducible refine bl_dn ?_ _) | (with_reducible refine bl_drew ?_) | (with_reducible refine bl_then ?_ (by with_reducible assumption))))⟩
    · have HK : Hid (kb p a b = isEq p) := by show _ = _; unfold kb; rw [hk]; rfl
      go_wp2_with (go_at_call 62; refine (contains_eq p _ _ (by simp [go_sem]) (by simp [go_sem])).mono ?_; rintro e w' ⟨rfl, rfl⟩)
      go_meet
      exact ⟨by rw [HK.out], by (repeat (first | with_reducible exact Below.refl _ _ | with_reducible assumption | (with_reducible refine bl_set ?_ (by simp; try omega) _) | (with_reducible refine bl_alloc ?_ _) | (with_reducible refine bl_dn ?_ _) | (with_reducible refine bl_drew ?_) | (with_reducible refine bl_then ?_ (by with_reducible assumption))))⟩
  case rest =>
    obtain ⟨rfl, hg⟩ := hcut
    obtain ⟨w3, rfl⟩ : ∃ w3 : World, w3 = wc := ⟨_, rfl⟩
    have st3 := hide (st2.out.below hg)
    clear p0_w2 a0_w2 a1_w2 a2_w2 a3_w2 a4_w2 b0_w2 b1_w2 b2_w2 b3_w2 b4_w2 c0_w2 c1_w2 c2_w2 c3_w2 c4_w2 e0_w2 fc_w2 fe_w2 z_w2 hb_w2 y0_w2 y1_w2 y2_w2 y3_w2
    clear st2 hg
    obtain ⟨p0_w3, ⟨a0_w3, a1_w3, a2_w3, a3_w3, a4_w3⟩, ⟨b0_w3, b1_w3, b2_w3, b3_w3, b4_w3⟩, ⟨c0_w3, c1_w3, c2_w3, c3_w3, c4_w3⟩, e0_w3, fc_w3, fe_w3, z_w3, hb_w3⟩ := st3.out; (have y0_w3 : w.heap.size < w3.heap.size := by omega); (have y1_w3 : w.heap.size + 1 < w3.heap.size := by omega); (have y2_w3 : w.heap.size + 1 + 1 < w3.heap.size := by omega); (have y3_w3 : w.heap.size + 1 + 1 + 1 < w3.heap.size := by omega)
    go_upto_region 8 with fail
    have KZ : Hid (kz p a b = true) := by show _ = _; rw [kz_eq, H3.out]; rfl
    go_cut [11, 58] from 18 (fun _ s58 wx => s58 = .bool true ∧ w3 = wx)
    case first =>
      cases hk : kb p a b
      · cases hk1 : (a.k != 1)
        · have HK : Hid (kz p a b = (b.k != 1)) := by show _ = _; unfold kz; rw [hk, hk1]; rfl
          go_wp2_with fail
          go_meet
          exact ⟨by rw [← KZ.out, HK.out], rfl⟩
        · have HK : Hid (kz p a b = true) := by show _ = _; unfold kz; rw [hk, hk1]; rfl
          go_wp2_with fail
          go_meet
          exact ⟨by rw [← KZ.out, HK.out], rfl⟩
      · have HK : Hid (kz p a b = false) := by show _ = _; unfold kz; rw [hk]; rfl
        go_wp2_with fail
        go_meet
        exact ⟨by rw [← KZ.out, HK.out], rfl⟩
    case rest =>
      obtain ⟨rfl, rfl⟩ := hcut
      go_wp2
      simp [bodyPostD, Leaves, settle, results, Tryz.results40, go_sem, *]
      exact arr_zero _ (by (repeat (first | with_reducible exact Below.refl _ _ | with_reducible assumption | (with_reducible refine bl_set ?_ (by simp; try omega) _) | (with_reducible refine bl_alloc ?_ _) | (with_reducible refine bl_dn ?_ _) | (with_reducible refine bl_drew ?_) | (with_reducible refine bl_then ?_ (by with_reducible assumption)))))
set_option maxRecDepth 100000 in
theorem two_lens (p : Int) (a b : Arr) (A B : Option Addr) (c d : Nat) (hla : a.xs.length ≤ 9223372036854775807) (f0a : Fits a.l0) (f1a : Fits a.l1) (hlb : b.xs.length ≤ 9223372036854775807) (f0b : Fits b.l0) (f1b : Fits b.l1) (h : arity p = (2, 0)) (h2 : chk2 a b = 0) (h3 : kindsOk p a b = true) (er r l0 l1 : Int) (h4 : extLens a b = (er, r, l0, l1)) (h5 : er ≠ 0) (w : World) (hsa : Sl w A a.xs) (hsb : Sl w B b.xs) :
    Calls Tryz.prog 40 #[.int .i64 p, .agg #[.int .i64 a.k, .int .i64 a.r, .int .i64 a.l0, .int .i64 a.l1, .slice A a.xs.length c], .agg #[.int .i64 b.k, .int .i64 b.r, .int .i64 b.l0, .int .i64 b.l1, .slice B b.xs.length d]] w fun e w' => ArrRet w (er, .zero) e w' := by
  have H := hide h
  have H2 := hide h2
  have H3 := hide h3
  have H4 := hide h4
  have n1 : (er != 0) = true := by simpa using h5
  clear h h2 h3 h4 h5
  have hmf : ∀ (fn : Fn) (first cap : Array Value) (w : World), (Instr.makeFunc fn first cap).run Tryz.prog w = .ok (.func fn first cap) w := fun _ _ _ _ => rfl
  go_enter_defers Tryz.func40, Tryz.ntmps40
  go_wp2_with fail
  have st0 : Hid (TwoSt w (((((w.alloc (.cells #[.int .i64 p] 3)).alloc (.cells #[.int .i64 a.k, .int .i64 a.r, .int .i64 a.l0, .int .i64 a.l1, .slice A a.xs.length c] 33)).alloc (.cells #[.int .i64 b.k, .int .i64 b.r, .int .i64 b.l0, .int .i64 b.l1, .slice B b.xs.length d] 33)).alloc
      (.cells #[.int .i64 0, .int .i64 0, .int .i64 0, .int .i64 0, .slice none 0 0] 33)).alloc (.cells #[.int .i64 0] 24)) p a b A B c d) := by
    refine ⟨by simp [go_sem], ⟨by simp [go_sem], by simp [go_sem], by simp [go_sem], by simp [go_sem], by simp [go_sem]⟩, ⟨by simp [go_sem], by simp [go_sem], by simp [go_sem], by simp [go_sem], by simp [go_sem]⟩, ⟨by simp [go_sem], by simp [go_sem], by simp [go_sem], by simp [go_sem], by simp [go_sem]⟩, by simp [go_sem], fun i => by simp [go_sem], by simp [go_sem], by simp, by (repeat (first | with_reducible exact Below.refl _ _ | with_reducible assumption | (with_reducible refine bl_set ?_ (by simp; try omega) _) | (with_reducible refine bl_alloc ?_ _) | (with_reducible refine bl_dn ?_ _) | (with_reducible refine bl_drew ?_) | (with_reducible refine bl_then ?_ (by with_reducible assumption))))⟩
  refine (arity_any p _).mono ?_
  rw [H.out]
  rintro e w1 ⟨rfl, hg⟩
  have st1 := hide (st0.out.below hg)
  obtain ⟨p0_w1, ⟨a0_w1, a1_w1, a2_w1, a3_w1, a4_w1⟩, ⟨b0_w1, b1_w1, b2_w1, b3_w1, b4_w1⟩, ⟨c0_w1, c1_w1, c2_w1, c3_w1, c4_w1⟩, e0_w1, fc_w1, fe_w1, z_w1, hb_w1⟩ := st1.out; (have y0_w1 : w.heap.size < w1.heap.size := by omega); (have y1_w1 : w.heap.size + 1 < w1.heap.size := by omega); (have y2_w1 : w.heap.size + 1 + 1 < w1.heap.size := by omega); (have y3_w1 : w.heap.size + 1 + 1 + 1 < w1.heap.size := by omega)
  clear hg st0
  go_wp2_with fail
  refine (check2_any a A c hla f0a f1a b B d hlb f0b f1b _ (hsa.below (by (repeat (first | with_reducible exact Below.refl _ _ | with_reducible assumption | (with_reducible refine bl_set ?_ (by simp; try omega) _) | (with_reducible refine bl_alloc ?_ _) | (with_reducible refine bl_dn ?_ _) | (with_reducible refine bl_drew ?_) | (with_reducible refine bl_then ?_ (by with_reducible assumption)))))) (hsb.below (by (repeat (first | with_reducible exact Below.refl _ _ | with_reducible assumption | (with_reducible refine bl_set ?_ (by simp; try omega) _) | (with_reducible refine bl_alloc ?_ _) | (with_reducible refine bl_dn ?_ _) | (with_reducible refine bl_drew ?_) | (with_reducible refine bl_then ?_ (by with_reducible assumption))))))).mono ?_
  rw [H2.out]
  rintro e w2 ⟨rfl, hg⟩
  have st2 := hide (st1.out.below hg)
  clear p0_w1 a0_w1 a1_w1 a2_w1 a3_w1 a4_w1 b0_w1 b1_w1 b2_w1 b3_w1 b4_w1 c0_w1 c1_w1 c2_w1 c3_w1 c4_w1 e0_w1 fc_w1 fe_w1 z_w1 hb_w1 y0_w1 y1_w1 y2_w1 y3_w1
  clear st1 hg
  obtain ⟨p0_w2, ⟨a0_w2, a1_w2, a2_w2, a3_w2, a4_w2⟩, ⟨b0_w2, b1_w2, b2_w2, b3_w2, b4_w2⟩, ⟨c0_w2, c1_w2, c2_w2, c3_w2, c4_w2⟩, e0_w2, fc_w2, fe_w2, z_w2, hb_w2⟩ := st2.out; (have y0_w2 : w.heap.size < w2.heap.size := by omega); (have y1_w2 : w.heap.size + 1 < w2.heap.size := by omega); (have y2_w2 : w.heap.size + 1 + 1 < w2.heap.size := by omega); (have y3_w2 : w.heap.size + 1 + 1 + 1 < w2.heap.size := by omega)
  go_upto_region 7 with fail
  go_cut [11] from 18 (fun s11 wx => s11 = .bool (kb p a b) ∧ Below w2.heap.size w2 wx)
  case first =>
    cases hk : (a.k == b.k)
    · have HK : Hid (kb p a b = false) := by show _ = _; unfold kb; rw [hk]; rfl
      go_wp2_with fail
      go_meet
      exact ⟨by rw [HK.out], by (repeat (first | with_reducible exact Below.refl _ _ | with_reducible assumption | (with_reducible refine bl_set ?_ (by simp; try omega) _) | (with_reducible refine bl_alloc ?_ _) | (with_reducible refine bl_dn ?_ _) | (with_reducible refine bl_drew ?_) | (with_reducible refine bl_then ?_ (by with_reducible assumption))))⟩
    · have HK : Hid (kb p a b = isEq p) := by show _ = _; unfold kb; rw [hk]; rfl
      go_wp2_with (go_at_call 62; refine (contains_eq p _ _ (by simp [go_sem]) (by simp [go_sem])).mono ?_; rintro e w' ⟨rfl, rfl⟩)
      go_meet
      exact ⟨by rw [HK.out], by (repeat (first | with_reducible exact Below.refl _ _ | with_reducible assumption | (with_reducible refine bl_set ?_ (by simp; try omega) _) | (with_reducible refine bl_alloc ?_ _) | (with_reducible refine bl_dn ?_ _) | (with_reducible refine bl_drew ?_) | (with_reducible refine bl_then ?_ (by with_reducible assumption))))⟩
  case rest =>
    obtain ⟨rfl, hg⟩ := hcut
    obtain ⟨w3, rfl⟩ : ∃ w3 : World, w3 = wc := ⟨_, rfl⟩
    have st3 := hide (st2.out.below hg)
    clear p0_w2 a0_w2 a1_w2 a2_w2 a3_w2 a4_w2 b0_w2 b1_w2 b2_w2 b3_w2 b4_w2 c0_w2 c1_w2 c2_w2 c3_w2 c4_w2 e0_w2 fc_w2 fe_w2 z_w2 hb_w2 y0_w2 y1_w2 y2_w2 y3_w2
    clear st2 hg
    obtain ⟨p0_w3, ⟨a0_w3, a1_w3, a2_w3, a3_w3, a4_w3⟩, ⟨b0_w3, b1_w3, b2_w3, b3_w3, b4_w3⟩, ⟨c0_w3, c1_w3, c2_w3, c3_w3, c4_w3⟩, e0_w3, fc_w3, fe_w3, z_w3, hb_w3⟩ := st3.out; (have y0_w3 : w.heap.size < w3.heap.size := by omega); (have y1_w3 : w.heap.size + 1 < w3.heap.size := by omega); (have y2_w3 : w.heap.size + 1 + 1 < w3.heap.size := by omega); (have y3_w3 : w.heap.size + 1 + 1 + 1 < w3.heap.size := by omega)
    go_upto_region 8 with fail
    have KZ : Hid (kz p a b = false) := by show _ = _; rw [kz_eq, H3.out]; rfl
    go_cut [11, 58] from 18 (fun _ s58 wx => s58 = .bool false ∧ w3 = wx)
    case first =>
      cases hk : kb p a b
      · cases hk1 : (a.k != 1)
        · have HK : Hid (kz p a b = (b.k != 1)) := by show _ = _; unfold kz; rw [hk, hk1]; rfl
          go_wp2_with fail
          go_meet
          exact ⟨by rw [← KZ.out, HK.out], rfl⟩
        · have HK : Hid (kz p a b = true) := by show _ = _; unfold kz; rw [hk, hk1]; rfl
          go_wp2_with fail
          go_meet
          exact ⟨by rw [← KZ.out, HK.out], rfl⟩
      · have HK : Hid (kz p a b = false) := by show _ = _; unfold kz; rw [hk]; rfl
        go_wp2_with fail
        go_meet
        exact ⟨by rw [← KZ.out, HK.out], rfl⟩
    case rest =>
      obtain ⟨rfl, rfl⟩ := hcut
      go_wp2_with fail
      refine (lens_any a A c hla f0a f1a b B d hlb f0b f1b _ (hsa.below (by (repeat (first | with_reducible exact Below.refl _ _ | with_reducible assumption | (with_reducible refine bl_set ?_ (by simp; try omega) _) | (with_reducible refine bl_alloc ?_ _) | (with_reducible refine bl_dn ?_ _) | (with_reducible refine bl_drew ?_) | (with_reducible refine bl_then ?_ (by with_reducible assumption)))))) (hsb.below (by (repeat (first | with_reducible exact Below.refl _ _ | with_reducible assumption | (with_reducible refine bl_set ?_ (by simp; try omega) _) | (with_reducible refine bl_alloc ?_ _) | (with_reducible refine bl_dn ?_ _) | (with_reducible refine bl_drew ?_) | (with_reducible refine bl_then ?_ (by with_reducible assumption))))))).mono ?_
      rw [H4.out]
      rintro e w5 ⟨rfl, hg⟩
      have st5 := hide (st3.out.below hg)
      have hw : Below w.heap.size w w5 := bl_then hb_w3 hg
      clear p0_w3 a0_w3 a1_w3 a2_w3 a3_w3 a4_w3 b0_w3 b1_w3 b2_w3 b3_w3 b4_w3 c0_w3 c1_w3 c2_w3 c3_w3 c4_w3 e0_w3 fc_w3 fe_w3 z_w3 hb_w3 y0_w3 y1_w3 y2_w3 y3_w3
      clear st3 hg
      obtain ⟨p0_w5, ⟨a0_w5, a1_w5, a2_w5, a3_w5, a4_w5⟩, ⟨b0_w5, b1_w5, b2_w5, b3_w5, b4_w5⟩, ⟨c0_w5, c1_w5, c2_w5, c3_w5, c4_w5⟩, e0_w5, fc_w5, fe_w5, z_w5, hb_w5⟩ := st5.out; (have y0_w5 : w.heap.size < w5.heap.size := by omega); (have y1_w5 : w.heap.size + 1 < w5.heap.size := by omega); (have y2_w5 : w.heap.size + 1 + 1 < w5.heap.size := by omega); (have y3_w5 : w.heap.size + 1 + 1 + 1 < w5.heap.size := by omega)
      go_wp2
      simp [bodyPostD, Leaves, settle, results, Tryz.results40, go_sem, *]
      exact arr_zero _ (by (repeat (first | with_reducible exact Below.refl _ _ | with_reducible assumption | (with_reducible refine bl_set ?_ (by simp; try omega) _) | (with_reducible refine bl_alloc ?_ _) | (with_reducible refine bl_dn ?_ _) | (with_reducible refine bl_drew ?_) | (with_reducible refine bl_then ?_ (by with_reducible assumption)))))
end Ar
end Go.Proofs.YtaelfhjdmljblaaGreatDoor
