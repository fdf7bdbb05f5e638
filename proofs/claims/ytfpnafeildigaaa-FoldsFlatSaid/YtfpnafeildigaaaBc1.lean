/-
The plain mathematics of folds (chapter 11): rows, sums on the way, ends, counts; over the integers and lists, with no program in sight.
-/
import Derived.Test.YtfpnafeildigaaaBb5
import Derived.Laws.OwnMore
import Derived.WalkLawsBesides
set_option linter.unusedSimpArgs false
set_option linter.unusedVariables false
namespace Go.Proofs.Ytfpnafeildigaaa
namespace Ar
open Go.RowKit Sc
/-- one after another, up to the first error -/
def mapG {α β : Type} (f : α → β × Int) : List α → Int × List β
  | [] => (0, [])
  | x :: xs => if (f x).2 ≠ 0 then ((f x).2, []) else if (mapG f xs).1 ≠ 0 then ((mapG f xs).1, []) else (0, (f x).1 :: (mapG f xs).2)
theorem mapG_cons {α β : Type} (f : α → β × Int) (a : α) (l : List α) : mapG f (a :: l) = if (f a).2 ≠ 0 then ((f a).2, []) else if (mapG f l).1 ≠ 0 then ((mapG f l).1, []) else (0, (f a).1 :: (mapG f l).2) := rfl
theorem mapG_step {α β : Type} {f : α → β × Int} {l : List α} {ys : List β} {x : α} (h : mapG f l = (0, ys)) (hx : (f x).2 = 0) : mapG f (l ++ [x]) = (0, ys ++ [(f x).1]) := by
  induction l generalizing ys with
  | nil => simp [mapG] at h; subst h; simp [mapG, hx]
  | cons a l ih =>
    rw [mapG_cons] at h
    by_cases ha : (f a).2 = 0
    · rw [if_neg (by simpa using ha)] at h
      by_cases hl : (mapG f l).1 = 0
      · rw [if_neg (by simpa using hl)] at h
        have e : mapG f l = (0, (mapG f l).2) := by rw [← hl]
        have := ih e
        simp only [Prod.mk.injEq, true_and] at h
        subst h
        show mapG f (a :: (l ++ [x])) = _
        rw [mapG_cons, if_neg (by simpa using ha), this]
        simp
      · rw [if_pos hl] at h
        exact absurd (congrArg Prod.fst h) hl
    · rw [if_pos ha] at h
      exact absurd (congrArg Prod.fst h) ha
theorem mapG_err {α β : Type} {f : α → β × Int} {l r : List α} {ys : List β} {x : α} (h : mapG f l = (0, ys)) (hx : (f x).2 ≠ 0) : (mapG f (l ++ x :: r)).1 = (f x).2 := by
  induction l generalizing ys with
  | nil => simp [mapG, hx]
  | cons a l ih =>
    rw [mapG_cons] at h
    by_cases ha : (f a).2 = 0
    · rw [if_neg (by simpa using ha)] at h
      by_cases hl : (mapG f l).1 = 0
      · have e : mapG f l = (0, (mapG f l).2) := by rw [← hl]
        have := ih e
        show (mapG f (a :: (l ++ x :: r))).1 = _
        rw [mapG_cons, if_neg (by simpa using ha), if_pos (by rw [this]; exact hx)]
        exact this
      · rw [if_pos hl] at h
        exact absurd (congrArg Prod.fst h) hl
    · rw [if_pos ha] at h
      exact absurd (congrArg Prod.fst h) ha
theorem mapG_len {α β : Type} {f : α → β × Int} : ∀ {l : List α} {ys : List β}, mapG f l = (0, ys) → ys.length = l.length
  | [], _, h => by simp [mapG] at h; subst h; rfl
  | a :: l, _, h => by
    rw [mapG_cons] at h
    by_cases ha : (f a).2 = 0
    · rw [if_neg (by simpa using ha)] at h
      by_cases hl : (mapG f l).1 = 0
      · rw [if_neg (by simpa using hl)] at h
        simp only [Prod.mk.injEq, true_and] at h
        subst h
        simp [mapG_len (show mapG f l = (0, (mapG f l).2) by rw [← hl])]
      · rw [if_pos hl] at h
        exact absurd (congrArg Prod.fst h) hl
    · rw [if_pos ha] at h
      exact absurd (congrArg Prod.fst h) ha
theorem mapG_bad {α β : Type} (f : α → β × Int) : ∀ l : List α, (mapG f l).1 ≠ 0 → mapG f l = ((mapG f l).1, [])
  | [], h => absurd rfl h
  | x :: l, h => by
    rw [mapG_cons] at h ⊢
    by_cases h1 : (f x).2 ≠ 0
    · rw [if_pos h1]
    · rw [if_neg h1] at h ⊢
      by_cases h2 : (mapG f l).1 ≠ 0
      · rw [if_pos h2]
      · rw [if_neg h2] at h; exact absurd rfl h
theorem mapG_iff {α β : Type} (f : α → β × Int) : ∀ l : List α, (mapG f l).1 = 0 ↔ ∀ x ∈ l, (f x).2 = 0
  | [] => by simp [mapG]
  | x :: l => by
    rw [mapG_cons]
    by_cases h : (f x).2 ≠ 0
    · rw [if_pos h]; simp [h]
    · rw [if_neg h]
      have ih := mapG_iff f l
      by_cases h2 : (mapG f l).1 ≠ 0
      · rw [if_pos h2]
        simp only [List.mem_cons, forall_eq_or_imp, ← ih]
        exact ⟨fun e => absurd e h2, fun e => absurd e.2 h2⟩
      · rw [if_neg h2]
        simp only [List.mem_cons, forall_eq_or_imp, ← ih]
        exact ⟨fun _ => ⟨by simpa using h, by simpa using h2⟩, fun _ => by first | trivial | rfl⟩
theorem mapG_map {α β : Type} (f : α → β × Int) : ∀ l : List α, (mapG f l).1 = 0 → (mapG f l).2 = l.map (fun x => (f x).1)
  | [], _ => rfl
  | x :: l, h => by
    rw [mapG_cons] at h ⊢
    by_cases h1 : (f x).2 ≠ 0
    · rw [if_pos h1] at h; exact absurd h h1
    rw [if_neg h1] at h ⊢
    by_cases h2 : (mapG f l).1 ≠ 0
    · rw [if_pos h2] at h; exact absurd h h2
    rw [if_neg h2]
    show (f x).1 :: _ = _
    rw [mapG_map f l (by simpa using h2)]; rfl
/-- the rows of a vector or a matrix -/
def rowsL (a : Arr) : List (List Int) := if a.r = 1 then [a.xs] else (List.range a.l0.toNat).map (fun i => (a.xs.drop (i * a.l1.toNat)).take a.l1.toNat)
/-- the sums on the way along a row, from n on -/
def scanE (n : Int) : List Int → Int × List Int
  | [] => (0, [])
  | x :: xs => if (two 15 n x).2 ≠ 0 then ((two 15 n x).2, []) else if (scanE (two 15 n x).1 xs).1 ≠ 0 then ((scanE (two 15 n x).1 xs).1, []) else (0, (two 15 n x).1 :: (scanE (two 15 n x).1 xs).2)
theorem scanE_cons (n x : Int) (xs : List Int) : scanE n (x :: xs) = if (two 15 n x).2 ≠ 0 then ((two 15 n x).2, []) else if (scanE (two 15 n x).1 xs).1 ≠ 0 then ((scanE (two 15 n x).1 xs).1, []) else (0, (two 15 n x).1 :: (scanE (two 15 n x).1 xs).2) := rfl
/-- the sum so far -/
def lastE (n : Int) : List Int → Int
  | [] => n
  | y :: ys => lastE y ys
theorem lastE_snoc : ∀ (n : Int) (ys : List Int) (y : Int), lastE n (ys ++ [y]) = y
  | _, [], _ => rfl
  | _, x :: ys, y => lastE_snoc x ys y
theorem lastE_get : ∀ (n : Int) (ys : List Int), lastE n ys = if ys.length = 0 then n else ys.getD (ys.length - 1) 0
  | n, [] => rfl
  | n, [y] => by simp [lastE]
  | n, y :: z :: zs => by
    have := lastE_get y (z :: zs)
    show lastE y (z :: zs) = _
    rw [this]; simp
theorem scanE_step {n : Int} {l ys : List Int} {x : Int} (h : scanE n l = (0, ys)) (hx : (two 15 (lastE n ys) x).2 = 0) : scanE n (l ++ [x]) = (0, ys ++ [(two 15 (lastE n ys) x).1]) := by
  induction l generalizing n ys with
  | nil => simp [scanE] at h; subst h; have hx' : (two 15 n x).2 = 0 := hx; simp [scanE, lastE, hx']
  | cons a l ih =>
    rw [scanE_cons] at h
    by_cases ha : (two 15 n a).2 = 0
    · rw [if_neg (by simpa using ha)] at h
      by_cases hl : (scanE (two 15 n a).1 l).1 = 0
      · rw [if_neg (by simpa using hl)] at h
        have e : scanE (two 15 n a).1 l = (0, (scanE (two 15 n a).1 l).2) := by rw [← hl]
        simp only [Prod.mk.injEq, true_and] at h
        subst h
        have e2 : lastE n ((two 15 n a).1 :: (scanE (two 15 n a).1 l).2) = lastE (two 15 n a).1 (scanE (two 15 n a).1 l).2 := rfl
        rw [e2] at hx ⊢
        have := ih e hx
        show scanE n (a :: (l ++ [x])) = _
        rw [scanE_cons, if_neg (by simpa using ha), this]
        simp
      · rw [if_pos hl] at h
        exact absurd (congrArg Prod.fst h) hl
    · rw [if_pos ha] at h
      exact absurd (congrArg Prod.fst h) ha
theorem scanE_err {n : Int} {l ys r : List Int} {x : Int} (h : scanE n l = (0, ys)) (hx : (two 15 (lastE n ys) x).2 ≠ 0) : (scanE n (l ++ x :: r)).1 = (two 15 (lastE n ys) x).2 := by
  induction l generalizing n ys with
  | nil => simp [scanE] at h; subst h; have hx' : (two 15 n x).2 ≠ 0 := hx; show (scanE n (x :: r)).1 = (two 15 n x).2; rw [scanE_cons, if_pos hx']
  | cons a l ih =>
    rw [scanE_cons] at h
    by_cases ha : (two 15 n a).2 = 0
    · rw [if_neg (by simpa using ha)] at h
      by_cases hl : (scanE (two 15 n a).1 l).1 = 0
      · rw [if_neg (by simpa using hl)] at h
        have e : scanE (two 15 n a).1 l = (0, (scanE (two 15 n a).1 l).2) := by rw [← hl]
        simp only [Prod.mk.injEq, true_and] at h
        subst h
        have e2 : lastE n ((two 15 n a).1 :: (scanE (two 15 n a).1 l).2) = lastE (two 15 n a).1 (scanE (two 15 n a).1 l).2 := rfl
        rw [e2] at hx ⊢
        have := ih e hx
        show (scanE n (a :: (l ++ x :: r))).1 = _
        rw [scanE_cons, if_neg (by simpa using ha), if_pos (by rw [this]; exact hx)]
        exact this
      · rw [if_pos hl] at h
        exact absurd (congrArg Prod.fst h) hl
    · rw [if_pos ha] at h
      exact absurd (congrArg Prod.fst h) ha
theorem scanE_bad (n : Int) : ∀ l : List Int, (scanE n l).1 ≠ 0 → scanE n l = ((scanE n l).1, [])
  | [], h => absurd rfl h
  | x :: l, h => by
    rw [scanE_cons] at h ⊢
    by_cases h1 : (two 15 n x).2 ≠ 0
    · rw [if_pos h1]
    · rw [if_neg h1] at h ⊢
      by_cases h2 : (scanE (two 15 n x).1 l).1 ≠ 0
      · rw [if_pos h2]
      · rw [if_neg h2] at h; exact absurd rfl h
theorem scanE_len {n : Int} : ∀ {l ys : List Int}, scanE n l = (0, ys) → ys.length = l.length := by
  intro l
  induction l generalizing n with
  | nil => intro ys h; simp [scanE] at h; subst h; rfl
  | cons a l ih =>
    intro ys h
    rw [scanE_cons] at h
    by_cases ha : (two 15 n a).2 = 0
    · rw [if_neg (by simpa using ha)] at h
      by_cases hl : (scanE (two 15 n a).1 l).1 = 0
      · rw [if_neg (by simpa using hl)] at h
        simp only [Prod.mk.injEq, true_and] at h
        subst h
        simp [ih (show scanE (two 15 n a).1 l = (0, (scanE (two 15 n a).1 l).2) by rw [← hl])]
      · rw [if_pos hl] at h
        exact absurd (congrArg Prod.fst h) hl
    · rw [if_pos ha] at h
      exact absurd (congrArg Prod.fst h) ha
/-- the sum of a row -/
def sumRow (row : List Int) : Int × Int := if (scanE 0 row).1 ≠ 0 then (0, (scanE 0 row).1) else (lastE 0 (scanE 0 row).2, 0)
/-- a row's sums, with the error behind -/
def scanRow (row : List Int) : List Int × Int := ((scanE 0 row).2, (scanE 0 row).1)
/-- the least (31) or the greatest (32) cell of a row -/
def endRow (p : Int) : List Int → Int × Int
  | [] => (0, 13)
  | x :: xs => (xs.foldl (fun n y => (two p n y).1) x, 0)
def countRow (row : List Int) : Int × Int := (row.length, 0)
/-- what is wrong with an operand -/
def chkF (ints : Bool) (a : Arr) : Int := if chk a ≠ 0 then chk a else if ints = true ∧ a.k ≠ 1 then 21 else if a.r = 0 then 22 else 0
def foldR (a : Arr) (cells : List Int) : Arr := if a.r = 1 then ⟨1, 0, 0, 0, cells⟩ else ⟨1, 1, cells.length, 0, cells⟩
def extFold (ints : Bool) (f : List Int → Int × Int) (a : Arr) : Int × Arr :=
  if chkF ints a ≠ 0 then (chkF ints a, .zero) else if (mapG f (rowsL a)).1 ≠ 0 then ((mapG f (rowsL a)).1, .zero) else (0, foldR a (mapG f (rowsL a)).2)
def extSum := extFold true sumRow
def extEnd (p : Int) := extFold true (endRow p)
def extCount := extFold false countRow
def extScan (a : Arr) : Int × Arr :=
  if chkF true a ≠ 0 then (chkF true a, .zero) else if (mapG scanRow (rowsL a)).1 ≠ 0 then ((mapG scanRow (rowsL a)).1, .zero) else (0, ⟨1, a.r, a.l0, a.l1, (mapG scanRow (rowsL a)).2.flatten⟩)
theorem chkF_ok {ints : Bool} {a : Arr} (h : chkF ints a = 0) : chk a = 0 ∧ (ints = true → a.k = 1) ∧ a.r ≠ 0 := by
  unfold chkF at h
  by_cases h1 : chk a ≠ 0
  · rw [if_pos h1] at h; exact absurd h h1
  rw [if_neg h1] at h
  by_cases h2 : ints = true ∧ a.k ≠ 1
  · rw [if_pos h2] at h; cases h
  rw [if_neg h2] at h
  by_cases h3 : a.r = 0
  · rw [if_pos h3] at h; cases h
  refine ⟨by simpa using h1, fun e => ?_, h3⟩
  by_cases h4 : a.k = 1
  · exact h4
  · exact absurd ⟨e, h4⟩ h2
/-- the rows, by number -/
theorem rowsL_nat {a : Arr} (h : chk a = 0) (hr : a.r ≠ 0) : ∃ m n : Nat, rowsOf a = ((m : Int), (n : Int)) ∧ m * n = a.xs.length ∧ m ≤ 400 ∧ n ≤ 400 ∧ rowsL a = (List.range m).map (fun i => (a.xs.drop (i * n)).take n) := by
  obtain ⟨m, n, e, h1, h2, h3⟩ := rows_nat h hr
  refine ⟨m, n, e, h1, h2, h3, ?_⟩
  unfold rowsOf at e
  unfold rowsL
  by_cases h4 : a.r = 2
  · rw [if_pos h4] at e
    injection e with e1 e2
    rw [if_neg (by omega), e1, e2]; simp
  · have h5 : a.r = 1 := by have := (sh_ok (chk_sh h).1).1; omega
    rw [if_neg h4] at e
    injection e with e1 e2
    have hm : m = 1 := by omega
    have hn : n = a.xs.length := by omega
    subst hm hn
    rw [if_pos h5]; simp
theorem rowsL_mem {a : Arr} (h : chk a = 0) (hr : a.r ≠ 0) {row : List Int} (hm : row ∈ rowsL a) : row.length ≤ 400 ∧ ∀ x ∈ row, x ∈ a.xs := by
  obtain ⟨m, n, _, h1, h2, h3, e⟩ := rowsL_nat h hr
  rw [e, List.mem_map] at hm
  obtain ⟨i, _, rfl⟩ := hm
  exact ⟨by rw [List.length_take]; omega, fun x hx => List.mem_of_mem_drop (List.mem_of_mem_take hx)⟩
end Ar
end Go.Proofs.Ytfpnafeildigaaa
/-
Contracts of chapter 11: what is wrong with an operand; rows, of the program and of the reference.
-/
set_option linter.unusedSimpArgs false
set_option linter.unusedVariables false
namespace Go.Proofs.Ytfpnafeildigaaa
namespace Ar
open Go.RowKit Sc
/-- a slice that reads as a list of rows -/
def Rs (w : World) (R : Option Addr) (rs : List (List Int)) : Prop :=
  rs ≠ [] → ∃ b o, R = some ⟨b, o, none⟩ ∧ b < w.heap.size ∧ ∀ j, j < rs.length → ∃ (B : Option Addr) (d : Nat), w.cell? ⟨b, o + j, none⟩ = some (.slice B (rs.getD j []).length d) ∧ Sl w B (rs.getD j []) ∧ (rs.getD j []).length ≤ d
theorem Rs.below {w w' : World} {R : Option Addr} {rs : List (List Int)} (h : Rs w R rs) (hb : Below w.heap.size w w') : Rs w' R rs := fun hn => by
  obtain ⟨b, o, e, hl, hc⟩ := h hn
  refine ⟨b, o, e, Nat.lt_of_lt_of_le hl hb.size, fun j hj => ?_⟩
  obtain ⟨B, d, h1, h2, h3⟩ := hc j hj
  exact ⟨B, d, (hb.cell (p := ⟨b, o + j, none⟩) hl).trans h1, h2.below hb, h3⟩
theorem Rs.at_ {w : World} {R : Option Addr} {rs : List (List Int)} (h : Rs w R rs) {k : Nat} (hk : k < rs.length) :
    ∃ (b o : Nat) (row : List Int) (B : Option Addr) (d : Nat), R = some ⟨b, o, none⟩ ∧ b < w.heap.size ∧ w.cell? ⟨b, o + k, none⟩ = some (.slice B row.length d) ∧ Hid (Sl w B row) ∧ row.length ≤ d ∧ Hid (rs.getD k [] = row) := by
  obtain ⟨b, o, e, hl, hc⟩ := h (by rintro rfl; simp at hk)
  obtain ⟨B, d, h1, h2, h3⟩ := hc k hk
  exact ⟨b, o, _, B, d, e, hl, h1, h2, h3, rfl⟩
theorem Sl.part' {w : World} {A : Option Addr} {xs : List Int} (h : Sl w A xs) {l n m : Nat} (hn : l + n ≤ xs.length) (hm : l + n ≤ m) : Sl w (Ar.part A l m) ((xs.drop l).take n) := fun hne => by
  have h0 : 0 < n := by
    rcases Nat.eq_zero_or_pos n with e | e
    · exact absurd (by rw [e]; simp) hne
    · exact e
  obtain ⟨b, o, e, hl, hc⟩ := h (by rintro rfl; simp at hn; omega)
  subst e
  refine ⟨b, o + l, by unfold Ar.part; rw [if_neg (by omega)]; simp [add_plain], hl, fun j hj => ?_⟩
  rw [List.length_take, List.length_drop] at hj
  rw [Nat.add_assoc, hc (l + j) (by omega)]
  simp [List.getD_eq_getElem?_getD, List.getElem?_take, show j < n by omega, List.getElem?_drop]
theorem Sl.part_at {w : World} {A : Option Addr} {xs : List Int} (h : Sl w A xs) {l n m : Nat} (hn : l + n ≤ xs.length) (hm : l + n ≤ m) (hne : (xs.drop l).take n ≠ []) : ∃ g o1 o2, Ar.part A l m = some ⟨g, o1, none⟩ ∧ A = some ⟨g, o2, none⟩ := by
  have h0 : 0 < n := by
    rcases Nat.eq_zero_or_pos n with e | e
    · exact absurd (by rw [e]; simp) hne
    · exact e
  obtain ⟨b, o, e, hl, hc⟩ := h (by rintro rfl; simp at hn; omega)
  subst e
  exact ⟨b, o + l, o, by unfold Ar.part; rw [if_neg (by omega)]; simp [add_plain], rfl⟩
/-- a slice that reads as a list of rows: itself in a new block, the rows in A's -/
def RsA (w0 w : World) (A R : Option Addr) (rs : List (List Int)) : Prop :=
  rs ≠ [] → ∃ b o, R = some ⟨b, o, none⟩ ∧ b < w.heap.size ∧ w0.heap.size ≤ b ∧ ∀ j, j < rs.length → ∃ (B : Option Addr) (d : Nat), w.cell? ⟨b, o + j, none⟩ = some (.slice B (rs.getD j []).length d) ∧ Sl w B (rs.getD j []) ∧ (rs.getD j []).length ≤ d ∧ (rs.getD j [] ≠ [] → ∃ g o1 o2, B = some ⟨g, o1, none⟩ ∧ A = some ⟨g, o2, none⟩)
theorem RsA.rs {w0 w : World} {A R : Option Addr} {rs : List (List Int)} (h : RsA w0 w A R rs) : Rs w R rs := fun hn => by
  obtain ⟨b, o, e, hl, _, hc⟩ := h hn
  refine ⟨b, o, e, hl, fun j hj => ?_⟩
  obtain ⟨B, d, h1, h2, h3, _⟩ := hc j hj
  exact ⟨B, d, h1, h2, h3⟩
/-- a row of one's own that holds rows -/
theorem own_rows {w0 w : World} {A : Option Addr} {base k : Nat} {v : Value} {vs : List Value} {rs : List (List Int)} (h : w.ownsRow base 23 1 v k vs) (hb0 : w0.heap.size ≤ base) (hk : rs.length = k)
    (hv : ∀ j, j < k → ∃ (B : Option Addr) (d : Nat), vs[j]? = some (.slice B (rs.getD j []).length d) ∧ Sl w B (rs.getD j []) ∧ (rs.getD j []).length ≤ d ∧ (rs.getD j [] ≠ [] → ∃ g o1 o2, B = some ⟨g, o1, none⟩ ∧ A = some ⟨g, o2, none⟩)) : ∃ (R : Option Addr) (c : Nat), v = .slice R rs.length c ∧ RsA w0 w A R rs := by
  subst hk
  rcases Nat.eq_zero_or_pos rs.length with h0 | h0
  · have e : rs = [] := List.eq_nil_of_length_eq_zero h0
    subst e
    rcases h.2 with ⟨e, _⟩ | ⟨g, cap, cur, e, _⟩
    · exact ⟨none, 0, e, fun h => absurd rfl h⟩
    · exact ⟨_, cap, e, fun h => absurd rfl h⟩
  · obtain ⟨g, cap, rfl, hb, hlt⟩ := World.ownsRow.form h h0
    refine ⟨_, cap, rfl, fun _ => ⟨g, 0, rfl, hlt, by omega, fun j hj => ?_⟩⟩
    obtain ⟨B, d, h1, h2, h3, h4⟩ := hv j hj
    exact ⟨B, d, by rw [Nat.zero_add, World.ownsRow.cellAt h j (by omega)]; exact h1, h2, h3, h4⟩
def RowsRet (w : World) (A : Option Addr) (rs : List (List Int)) (e : Ending) (w' : World) : Prop := Below w.heap.size w w' ∧ ∃ (R : Option Addr) (c : Nat), e = .returned (.slice R rs.length c) ∧ RsA w w' A R rs
theorem info_sl : (Try.prog.info? 23).map (fun i => (i.zero, i.size, i.bytes)) = some (some (.slice none 0 0), 1, 24) := by kernel_rfl
theorem rows_one {w : World} {a : Arr} {A : Option Addr} {c : Nat} {t : TypeId} (hs : Sl w A a.xs) (hc : a.xs.length ≤ c) (h : a.r = 1) (w0 : World) (h0 : w0.heap.size ≤ w.heap.size) : RsA w0 (w.alloc (.cells #[.slice A a.xs.length c] t)) A (some ⟨w.heap.size, 0, none⟩) (rowsL a) := by
  unfold rowsL
  rw [if_pos h]
  refine fun _ => ⟨w.heap.size, 0, rfl, by simp, h0, fun j hj => ?_⟩
  obtain rfl : j = 0 := by simpa using hj
  exact ⟨A, c, by simp [go_sem], hs.below (bl_new _ _), hc, fun hne => by obtain ⟨b, o, e, _⟩ := hs hne; exact ⟨b, o, o, e, e⟩⟩
theorem rowsL_one {a : Arr} (h : a.r = 1) : (rowsL a).length = 1 := by unfold rowsL; rw [if_pos h]; rfl
theorem frows_one (a : Arr) (A : Option Addr) (c : Nat) (hcA : a.xs.length ≤ c) (w : World) (hs : Sl w A a.xs) (h : a.r = 1) : Calls Try.prog 112 #[.agg #[.int .i64 a.k, .int .i64 a.r, .int .i64 a.l0, .int .i64 a.l1, .slice A a.xs.length c]] w (RowsRet w A (rowsL a)) := by
  have n1 : (a.r == 1) = true := by simpa using h
  have HR := hide (rows_one (w := w.alloc (.cells #[.int .i64 a.k, .int .i64 a.r, .int .i64 a.l0, .int .i64 a.l1, .slice A a.xs.length c] 25)) (t := 23) (hs.below (bl_new _ _)) hcA h w (by simp))
  have HL := hide (rowsL_one h)
  clear h
  go_enter Try.func112, Try.ntmps112
  go_wp2
  go_ret
  exact ⟨by (repeat (first | with_reducible exact Below.refl _ _ | with_reducible assumption | (with_reducible refine bl_set ?_ (by simp; try omega) _) | (with_reducible refine bl_alloc ?_ _) | (with_reducible refine bl_dn ?_ _) | (with_reducible refine bl_drew ?_) | (with_reducible refine bl_then ?_ (by with_reducible assumption)))), some ⟨w.heap.size + 1, 0, none⟩, 1, by rw [HL.out]; rfl, by have := HR.out; simpa using this⟩
theorem rowsL_two {a : Arr} (h : chk a = 0) (hr : a.r = 2) : ∃ m n : Nat, a.l0 = (m : Int) ∧ a.l1 = (n : Int) ∧ m * n = a.xs.length ∧ m ≤ 400 ∧ n ≤ 400 ∧ rowsL a = (List.range m).map (fun i => (a.xs.drop (i * n)).take n) := by
  obtain ⟨x0, x1, x2, x3, x4⟩ := rows_two h hr
  exact ⟨a.l0.toNat, a.l1.toNat, x0.symm, x1.symm, x2, x3, x4, by unfold rowsL; rw [if_neg (by omega)]⟩
theorem row_getD {m n j : Nat} {xs : List Int} (h : j < m) : ((List.range m).map (fun i => (xs.drop (i * n)).take n)).getD j [] = (xs.drop (j * n)).take n := by
  simp [List.getD_eq_getElem?_getD, h]
theorem row_end {m n j : Nat} {xs : List Int} (hx : m * n = xs.length) (h : j < m) : j * n + n ≤ xs.length := by
  rw [← hx, ← Nat.succ_mul]; exact Nat.mul_le_mul_right _ h
end Ar
end Go.Proofs.Ytfpnafeildigaaa
/-
Contracts of chapter 11: rows of the program; checks of both.
-/
set_option linter.unusedSimpArgs false
set_option linter.unusedVariables false
namespace Go.Proofs.Ytfpnafeildigaaa
namespace Ar
open Go.RowKit Sc
theorem make_sl (n : Nat) (hn : n ≤ 100000) (w : World) :
    (Instr.makeSlice 87 (.int .i64 (n : Int)) (.int .i64 (n : Int))).run Try.prog w = .ok (.slice (some ⟨w.heap.size, 0, none⟩) n n) (w.alloc (.cells (madeCells #[.slice none 0 0] n) 23)) := by
  obtain ⟨i0, hi, hz0, hz1, hz2⟩ := info_parts info_sl
  have := run_make_rowN (P := Try.prog) _ _ i0 _ Try.underlying87 hi hz0 .i64 .i64 n n (Nat.le_refl _) (by rw [hz2]; omega) (by omega) w
  rw [hz1, Nat.mul_one] at this
  exact this
theorem own_made (w : World) (n : Nat) (hn : n ≤ 100000) (t : TypeId) (h : t = 23) : (w.alloc (.cells (madeCells #[.slice none 0 0] n) t)).ownsRow w.heap.size 23 1 (.slice (some ⟨w.heap.size, 0, none⟩) n n) n (madeCells #[.slice none 0 0] n).toList := by
  subst h
  exact World.ownsRow_lit (base := w.heap.size) (e := 23) (size := 1) w _ n (Nat.le_refl _) (by unfold maxLen; omega) (by rw [size_madeCells]; simp)
theorem own_place {w : World} {base n k g c : Nat} {e : TypeId} {vs : List Value} (h : w.ownsRow base e 1 (.slice (some ⟨g, 0, none⟩) n c) n vs) (hk : k < n) :
    (∃ u, w.cell? ⟨g, k, none⟩ = some u) ∧ w.frozen? ⟨g, k, none⟩ = false ∧ ∀ z : Value, (w.setCell ⟨g, k, none⟩ z).ownsRow base e 1 (.slice (some ⟨g, 0, none⟩) n c) n (vs.set k z) := by
  refine ⟨?_, World.ownsRow.frozenAt h k, fun z => (World.ownsRow.stored h k z).1⟩
  rw [World.ownsRow.cellAt h k (by omega)]
  have hl : vs.length = n * 1 := h.1
  exact ⟨vs[k]'(by omega), List.getElem?_eq_getElem _⟩
set_option maxRecDepth 100000 in
set_option maxHeartbeats 2000000 in
theorem frows_two (a : Arr) (A : Option Addr) (c : Nat) (hcA : a.xs.length ≤ c) (w : World) (hs : Sl w A a.xs) (h : chk a = 0) (hr : a.r = 2) : Calls Try.prog 112 #[.agg #[.int .i64 a.k, .int .i64 a.r, .int .i64 a.l0, .int .i64 a.l1, .slice A a.xs.length c]] w (RowsRet w A (rowsL a)) := by
  obtain ⟨m, n, em, en, hmn, hm4, hn4, hrow⟩ := rowsL_two h hr
  have n1 : (a.r == 1) = false := by rw [hr]; rfl
  have hl4 := (chk_fit h).1
  have hmk := fun W => make_sl m (by omega) W
  have HM := hide em; have HN := hide en; have HX := hide hmn; have HL := hide hl4; have HC := hide hcA; have HRow := hide hrow
  clear h hr em en hmn hl4 hcA hrow
  go_enter Try.func112, Try.ntmps112
  go_upto_region 1 with fail
  have st1 := hide ((St.init w).box c hs)
  have hb01 : w.heap.size ≤ (w.alloc (.cells #[.int .i64 a.k, .int .i64 a.r, .int .i64 a.l0, .int .i64 a.l1, .slice A a.xs.length c] 25)).heap.size := by simp
  change Code.wp _ _ _ _ (w.alloc (.cells #[.int .i64 a.k, .int .i64 a.r, .int .i64 a.l0, .int .i64 a.l1, .slice A a.xs.length c] 25))
  generalize (w.alloc (.cells #[.int .i64 a.k, .int .i64 a.r, .int .i64 a.l0, .int .i64 a.l1, .slice A a.xs.length c] 25)) = w1 at *
  obtain ⟨hbw, ⟨⟨a0, a1, a2, a3, a4⟩, sa, za⟩, _⟩ := st1.out
  rw [HM.out] at a2
  rw [HN.out] at a3
  go_wp2
  have HO := hide (own_made w1 m (by omega) 23 rfl)
  have hb5 : Hid (Below w1.heap.size w1 (w1.alloc (.cells (madeCells #[.slice none 0 0] m) 23))) := by show Below _ _ _; (repeat (first | with_reducible exact Below.refl _ _ | with_reducible assumption | (with_reducible refine bl_set ?_ (by simp; try omega) _) | (with_reducible refine bl_alloc ?_ _) | (with_reducible refine bl_dn ?_ _) | (with_reducible refine bl_drew ?_) | (with_reducible refine bl_then ?_ (by with_reducible assumption))))
  change Code.wp _ _ _ _ (w1.alloc (.cells (madeCells #[.slice none 0 0] m) 23))
  generalize (w1.alloc (.cells (madeCells #[.slice none 0 0] m) 23)) = w5 at *
  clear hbw; clear a0 a1 a2 a3 a4 sa za
  go_loopw [18] (fun s18 wr => ∃ (i : Nat) (vs : List Value), i ≤ m ∧ s18 = .int .i64 i ∧ Hid (∀ j, j < i → vs[j]? = some (.slice (part A (j * n) (j * n + n)) n n)) ∧ Hid (wr.ownsRow w1.heap.size 23 1 (.slice (some ⟨w1.heap.size, 0, none⟩) m m) m vs) ∧ Hid (Below w1.heap.size w1 wr)) (fun s18 _ => m - (intOf s18).toNat)
  case atStart => exact ⟨0, _, Nat.zero_le _, rfl, (fun j hj => by omega), HO, hb5⟩
  case round =>
    obtain ⟨i, vs, hi, rfl, hv, hown, hbl⟩ := hrel
    have st5 := hide (st1.out.below hbl.out)
    obtain ⟨hbw, ⟨⟨a0, a1, a2, a3, a4⟩, sa, za⟩, _⟩ := st5.out
    rw [HM.out] at a2
    rw [HN.out] at a3
    by_cases hlt : i < m
    · obtain ⟨q, hq⟩ : ∃ q, i * n = q := ⟨_, rfl⟩
      have q1 : q + n ≤ a.xs.length := by rw [← hq]; exact row_end HX.out hlt
      have hl4 := HL.out
      have e1 : IntKind.i64.wrap ((i : Int) * (n : Int)) = (q : Int) := wrap_nat (by rw [← hq, Int.natCast_mul]) (by omega)
      have e2 : IntKind.i64.wrap ((q : Int) + (n : Int)) = (q : Int) + (n : Int) := IntWalk.i64_in _ (by omega)
      have p1 : ∀ W, (Instr.slice 23 (.slice A a.xs.length c) (some (.int .i64 (q : Int))) (some (.int .i64 ((q : Int) + (n : Int)))) (some (.int .i64 ((q : Int) + (n : Int))))).run Try.prog W = .ok (.slice (part A q (q + n)) n n) W := fun W => by
        rw [show (q : Int) + (n : Int) = ((q + n : Nat) : Int) by omega, run_part3 A a.xs.length c q (q + n) (q + n) (by omega) (Nat.le_refl _) (by have := HC.out; omega) W, Nat.add_sub_cancel_left]
      obtain ⟨⟨u, hu⟩, hfz, hput⟩ := own_place hown.out hlt
      have hvl : vs.length = m := by have := hown.out.1; omega
      have HV : Hid (∀ j, j < i + 1 → (vs.set i (.slice (part A q (q + n)) n n))[j]? = some (.slice (part A (j * n) (j * n + n)) n n)) := by
        intro j hj
        by_cases e : j = i
        · subst e; rw [List.getElem?_set_self (by omega), hq]
        · rw [List.getElem?_set_ne (Ne.symm e)]; exact hv.out j (by omega)
      have hput := hide (hput (.slice (part A q (q + n)) n n))
      have hzr : w1.heap.size ≤ wr.heap.size := hbl.out.size
      have him : (i : Int) < (m : Int) := by omega
      clear hq q1 hl4 hvl
      go_wp2
      go_roundw
      case rel => exact ⟨i + 1, _, by omega, by go_num, HV, hput, hbl.out.setCell (by simp) _⟩
      case measure => simp [intOf]; omega
    · have e : i = m := by omega
      subst e
      obtain ⟨R, cv, e0, hRs⟩ := own_rows (w0 := w) (A := A) (rs := rowsL a) hown.out hb01 (by rw [HRow.out]; simp) (fun j hj => ⟨part A (j * n) (j * n + n), n, by
          rw [hv.out j hj, HRow.out, row_getD hj, part_len (row_end HX.out hj)], by
          rw [HRow.out, row_getD hj]; exact sa.part' (row_end HX.out hj) (Nat.le_refl _), by
          rw [HRow.out, row_getD hj, part_len (row_end HX.out hj)]; exact Nat.le_refl _, by
          rw [HRow.out, row_getD hj]; exact sa.part_at (row_end HX.out hj) (Nat.le_refl _)⟩)
      injection e0 with x1 x2 x3
      subst x1
      have x2 := hide x2
      have hRs := hide hRs
      clear hown hv x3
      go_wp2
      go_ret
      exact ⟨hbw, _, i, by rw [← x2.out]; rfl, hRs.out⟩
theorem frows_any (a : Arr) (A : Option Addr) (c : Nat) (hcA : a.xs.length ≤ c) (w : World) (hs : Sl w A a.xs) (h : chk a = 0) (hr : a.r ≠ 0) : Calls Try.prog 112 #[.agg #[.int .i64 a.k, .int .i64 a.r, .int .i64 a.l0, .int .i64 a.l1, .slice A a.xs.length c]] w (RowsRet w A (rowsL a)) := by
  by_cases h2 : a.r = 2
  · exact frows_two a A c hcA w hs h h2
  · exact frows_one a A c hcA w hs (by have := (sh_ok (chk_sh h).1).1; omega)
theorem chkF_bad {ints : Bool} {a : Arr} (h : chk a ≠ 0) : chkF ints a = chk a := if_pos h
theorem chkF_kind {a : Arr} (h : chk a = 0) (h2 : a.k ≠ 1) : chkF true a = 21 := by unfold chkF; rw [if_neg (by simpa using h), if_pos ⟨rfl, h2⟩]
theorem chkF_flat {ints : Bool} {a : Arr} (h : chk a = 0) (h2 : ¬ (ints = true ∧ a.k ≠ 1)) (h3 : a.r = 0) : chkF ints a = 22 := by unfold chkF; rw [if_neg (by simpa using h), if_neg h2, if_pos h3]
theorem chkF_yes {ints : Bool} {a : Arr} (h : chk a = 0) (h2 : ¬ (ints = true ∧ a.k ≠ 1)) (h3 : a.r ≠ 0) : chkF ints a = 0 := by unfold chkF; rw [if_neg (by simpa using h), if_neg h2, if_neg h3]
theorem fcheck_any (ints : Bool) (a : Arr) (A : Option Addr) (c : Nat) (hla : a.xs.length ≤ 9223372036854775807) (f0 : Fits a.l0) (f1 : Fits a.l1) (w : World) (hs : Sl w A a.xs) :
    Calls Try.prog 86 #[.agg #[.int .i64 a.k, .int .i64 a.r, .int .i64 a.l0, .int .i64 a.l1, .slice A a.xs.length c], .bool ints] w fun e w' => e = .returned (.int .i64 (chkF ints a)) ∧ Below w.heap.size w w' := by
  by_cases h : chk a = 0
  rotate_left
  · rw [chkF_bad h]
    have n1 : (chk a == 0) = false := by simpa using h
    have n2 : (chk a != 0) = true := by simpa using h
    clear h
    cases ints
    · (go_enter Try.func86, Try.ntmps86; go_wp2_with fail; refine (ac_any a A c hla f0 f1 _ (hs.below (by (repeat (first | with_reducible exact Below.refl _ _ | with_reducible assumption | (with_reducible refine bl_set ?_ (by simp; try omega) _) | (with_reducible refine bl_alloc ?_ _) | (with_reducible refine bl_dn ?_ _) | (with_reducible refine bl_drew ?_) | (with_reducible refine bl_then ?_ (by with_reducible assumption))))))).mono ?_; skip; rintro e w1 ⟨rfl, hg1⟩; obtain ⟨hc1, hf1, hz1⟩ := bcell hg1; (have z0_w1 : w.heap.size < w1.heap.size := by have := hg1.size; simp at this; omega); go_wp2; go_ret; exact ⟨rfl, by (repeat (first | with_reducible exact Below.refl _ _ | with_reducible assumption | (with_reducible refine bl_set ?_ (by simp; try omega) _) | (with_reducible refine bl_alloc ?_ _) | (with_reducible refine bl_dn ?_ _) | (with_reducible refine bl_drew ?_) | (with_reducible refine bl_then ?_ (by with_reducible assumption))))⟩)
    · (go_enter Try.func86, Try.ntmps86; go_wp2_with fail; refine (ac_any a A c hla f0 f1 _ (hs.below (by (repeat (first | with_reducible exact Below.refl _ _ | with_reducible assumption | (with_reducible refine bl_set ?_ (by simp; try omega) _) | (with_reducible refine bl_alloc ?_ _) | (with_reducible refine bl_dn ?_ _) | (with_reducible refine bl_drew ?_) | (with_reducible refine bl_then ?_ (by with_reducible assumption))))))).mono ?_; skip; rintro e w1 ⟨rfl, hg1⟩; obtain ⟨hc1, hf1, hz1⟩ := bcell hg1; (have z0_w1 : w.heap.size < w1.heap.size := by have := hg1.size; simp at this; omega); go_wp2; go_ret; exact ⟨rfl, by (repeat (first | with_reducible exact Below.refl _ _ | with_reducible assumption | (with_reducible refine bl_set ?_ (by simp; try omega) _) | (with_reducible refine bl_alloc ?_ _) | (with_reducible refine bl_dn ?_ _) | (with_reducible refine bl_drew ?_) | (with_reducible refine bl_then ?_ (by with_reducible assumption))))⟩)
  by_cases h2 : ints = true ∧ a.k ≠ 1
  · obtain ⟨rfl, h2⟩ := h2
    rw [chkF_kind h h2]
    have n2 : (a.k != 1) = true := by simpa using h2
    have H := hide h
    clear h h2
    (go_enter Try.func86, Try.ntmps86; go_wp2_with fail; refine (ac_any a A c hla f0 f1 _ (hs.below (by (repeat (first | with_reducible exact Below.refl _ _ | with_reducible assumption | (with_reducible refine bl_set ?_ (by simp; try omega) _) | (with_reducible refine bl_alloc ?_ _) | (with_reducible refine bl_dn ?_ _) | (with_reducible refine bl_drew ?_) | (with_reducible refine bl_then ?_ (by with_reducible assumption))))))).mono ?_; rw [H.out]; rintro e w1 ⟨rfl, hg1⟩; obtain ⟨hc1, hf1, hz1⟩ := bcell hg1; (have z0_w1 : w.heap.size < w1.heap.size := by have := hg1.size; simp at this; omega); go_wp2; go_ret; exact ⟨rfl, by (repeat (first | with_reducible exact Below.refl _ _ | with_reducible assumption | (with_reducible refine bl_set ?_ (by simp; try omega) _) | (with_reducible refine bl_alloc ?_ _) | (with_reducible refine bl_dn ?_ _) | (with_reducible refine bl_drew ?_) | (with_reducible refine bl_then ?_ (by with_reducible assumption))))⟩)
  have h3 : ints = false ∨ (ints = true ∧ (a.k != 1) = false) := by
    cases ints
    · exact .inl rfl
    · exact .inr ⟨rfl, by simpa using h2⟩
  by_cases h4 : a.r = 0
  · rw [chkF_flat h h2 h4]
    have n4 : (a.r == 0) = true := by simpa using h4
    have H := hide h
    clear h h2 h4
    rcases h3 with rfl | ⟨rfl, n3⟩
    · (go_enter Try.func86, Try.ntmps86; go_wp2_with fail; refine (ac_any a A c hla f0 f1 _ (hs.below (by (repeat (first | with_reducible exact Below.refl _ _ | with_reducible assumption | (with_reducible refine bl_set ?_ (by simp; try omega) _) | (with_reducible refine bl_alloc ?_ _) | (with_reducible refine bl_dn ?_ _) | (with_reducible refine bl_drew ?_) | (with_reducible refine bl_then ?_ (by with_reducible assumption))))))).mono ?_; rw [H.out]; rintro e w1 ⟨rfl, hg1⟩; obtain ⟨hc1, hf1, hz1⟩ := bcell hg1; (have z0_w1 : w.heap.size < w1.heap.size := by have := hg1.size; simp at this; omega); go_wp2; go_ret; exact ⟨rfl, by (repeat (first | with_reducible exact Below.refl _ _ | with_reducible assumption | (with_reducible refine bl_set ?_ (by simp; try omega) _) | (with_reducible refine bl_alloc ?_ _) | (with_reducible refine bl_dn ?_ _) | (with_reducible refine bl_drew ?_) | (with_reducible refine bl_then ?_ (by with_reducible assumption))))⟩)
    · (go_enter Try.func86, Try.ntmps86; go_wp2_with fail; refine (ac_any a A c hla f0 f1 _ (hs.below (by (repeat (first | with_reducible exact Below.refl _ _ | with_reducible assumption | (with_reducible refine bl_set ?_ (by simp; try omega) _) | (with_reducible refine bl_alloc ?_ _) | (with_reducible refine bl_dn ?_ _) | (with_reducible refine bl_drew ?_) | (with_reducible refine bl_then ?_ (by with_reducible assumption))))))).mono ?_; rw [H.out]; rintro e w1 ⟨rfl, hg1⟩; obtain ⟨hc1, hf1, hz1⟩ := bcell hg1; (have z0_w1 : w.heap.size < w1.heap.size := by have := hg1.size; simp at this; omega); go_wp2; go_ret; exact ⟨rfl, by (repeat (first | with_reducible exact Below.refl _ _ | with_reducible assumption | (with_reducible refine bl_set ?_ (by simp; try omega) _) | (with_reducible refine bl_alloc ?_ _) | (with_reducible refine bl_dn ?_ _) | (with_reducible refine bl_drew ?_) | (with_reducible refine bl_then ?_ (by with_reducible assumption))))⟩)
  · rw [chkF_yes h h2 h4]
    have n4 : (a.r == 0) = false := by simpa using h4
    have H := hide h
    clear h h2 h4
    rcases h3 with rfl | ⟨rfl, n3⟩
    · (go_enter Try.func86, Try.ntmps86; go_wp2_with fail; refine (ac_any a A c hla f0 f1 _ (hs.below (by (repeat (first | with_reducible exact Below.refl _ _ | with_reducible assumption | (with_reducible refine bl_set ?_ (by simp; try omega) _) | (with_reducible refine bl_alloc ?_ _) | (with_reducible refine bl_dn ?_ _) | (with_reducible refine bl_drew ?_) | (with_reducible refine bl_then ?_ (by with_reducible assumption))))))).mono ?_; rw [H.out]; rintro e w1 ⟨rfl, hg1⟩; obtain ⟨hc1, hf1, hz1⟩ := bcell hg1; (have z0_w1 : w.heap.size < w1.heap.size := by have := hg1.size; simp at this; omega); go_wp2; go_ret; exact ⟨rfl, by (repeat (first | with_reducible exact Below.refl _ _ | with_reducible assumption | (with_reducible refine bl_set ?_ (by simp; try omega) _) | (with_reducible refine bl_alloc ?_ _) | (with_reducible refine bl_dn ?_ _) | (with_reducible refine bl_drew ?_) | (with_reducible refine bl_then ?_ (by with_reducible assumption))))⟩)
    · (go_enter Try.func86, Try.ntmps86; go_wp2_with fail; refine (ac_any a A c hla f0 f1 _ (hs.below (by (repeat (first | with_reducible exact Below.refl _ _ | with_reducible assumption | (with_reducible refine bl_set ?_ (by simp; try omega) _) | (with_reducible refine bl_alloc ?_ _) | (with_reducible refine bl_dn ?_ _) | (with_reducible refine bl_drew ?_) | (with_reducible refine bl_then ?_ (by with_reducible assumption))))))).mono ?_; rw [H.out]; rintro e w1 ⟨rfl, hg1⟩; obtain ⟨hc1, hf1, hz1⟩ := bcell hg1; (have z0_w1 : w.heap.size < w1.heap.size := by have := hg1.size; simp at this; omega); go_wp2; go_ret; exact ⟨rfl, by (repeat (first | with_reducible exact Below.refl _ _ | with_reducible assumption | (with_reducible refine bl_set ?_ (by simp; try omega) _) | (with_reducible refine bl_alloc ?_ _) | (with_reducible refine bl_dn ?_ _) | (with_reducible refine bl_drew ?_) | (with_reducible refine bl_then ?_ (by with_reducible assumption))))⟩)
end Ar
end Go.Proofs.Ytfpnafeildigaaa
/-
Contracts of chapter 11: sums along a row, of the program and of the reference.
-/
set_option linter.unusedSimpArgs false
set_option linter.unusedVariables false
namespace Go.Proofs.Ytfpnafeildigaaa
namespace Ar
open Go.RowKit Sc
theorem two15_fit (x y : Int) : Fits (two 15 x y).1 := by
  show Fits (Sc.chk (x + y)).1
  unfold Sc.chk
  split
  · assumption
  · decide
theorem scanE_fits : ∀ {n : Int} {l ys : List Int}, scanE n l = (0, ys) → ∀ y ∈ ys, Fits y
  | _, [], ys, h => by simp [scanE] at h; subst h; simp
  | n, x :: xs, ys, h => by
    rw [scanE_cons] at h
    by_cases ha : (two 15 n x).2 = 0
    · rw [if_neg (by simpa using ha)] at h
      by_cases hl : (scanE (two 15 n x).1 xs).1 = 0
      · rw [if_neg (by simpa using hl)] at h
        simp only [Prod.mk.injEq, true_and] at h
        subst h
        intro y hy
        rcases List.mem_cons.1 hy with e | e
        · rw [e]; exact two15_fit n x
        · exact scanE_fits (show scanE (two 15 n x).1 xs = (0, (scanE (two 15 n x).1 xs).2) by rw [← hl]) y e
      · rw [if_pos hl] at h
        exact absurd (congrArg Prod.fst h) hl
    · rw [if_pos ha] at h
      exact absurd (congrArg Prod.fst h) ha
theorem lastE_fits : ∀ {n : Int} {ys : List Int}, Fits n → (∀ y ∈ ys, Fits y) → Fits (lastE n ys)
  | _, [], hn, _ => hn
  | _, y :: ys, _, h => (show Fits (lastE y ys) from lastE_fits (n := y) (ys := ys) (h y (by simp)) (fun z hz => h z (by simp [hz])))
/-- what a function answers that makes sums of a row: a new row -/
def SumRet (w : World) (t : Int × List Int) (e : Ending) (w' : World) : Prop :=
  Below w.heap.size w w' ∧ ∃ (V : Option Addr) (c : Nat), e = .returned (.tuple #[.slice V t.2.length c, .int .i64 t.1]) ∧ Sl w' V t.2 ∧ (∀ g o, V = some ⟨g, o, none⟩ → w.heap.size ≤ g) ∧ t.2.length ≤ c
theorem sum_bad {w w' : World} {er : Int} (hb : Below w.heap.size w w') : SumRet w (er, []) (.returned (.tuple #[.slice none 0 0, .int .i64 er])) w' :=
  ⟨hb, none, 0, rfl, Sl.nil _ _, (fun _ _ e => by cases e), Nat.le_refl _⟩
set_option maxRecDepth 100000 in
set_option maxHeartbeats 2000000 in
theorem fsums_any (row : List Int) (B : Option Addr) (d : Nat) (hl : row.length ≤ 100000) (hx : ∀ x ∈ row, Fits x) (w : World) (hs : Sl w B row) : Calls Try.prog 81 #[.slice B row.length d] w (SumRet w (scanE 0 row)) := by
  have hmk := fun W => make_i64 row.length hl W
  have HX := hide hx; have HL := hide hl
  have hL : row.length ≤ 9223372036854775807 := by omega
  clear hx hl
  go_enter Try.func81, Try.ntmps81
  go_wp2
  have HC : Hid (Acc (w.alloc (.cells (blank row.length) 2)) w.heap.size (.slice (some ⟨w.heap.size, 0, none⟩) row.length row.length) (List.replicate row.length 0)) := acc_blank w row.length HL.out 2 rfl
  have hb5 : Hid (Below w.heap.size w (w.alloc (.cells (blank row.length) 2))) := by show Below _ _ _; (repeat (first | with_reducible exact Below.refl _ _ | with_reducible assumption | (with_reducible refine bl_set ?_ (by simp; try omega) _) | (with_reducible refine bl_alloc ?_ _) | (with_reducible refine bl_dn ?_ _) | (with_reducible refine bl_drew ?_) | (with_reducible refine bl_then ?_ (by with_reducible assumption))))
  change Code.wp _ _ _ _ (w.alloc (.cells (blank row.length) 2))
  generalize (w.alloc (.cells (blank row.length) 2)) = w5 at *
  go_loopw [5, 15] (fun s5 s15 wr => ∃ (i : Nat) (ys zs : List Int), i ≤ row.length ∧ s5 = .int .i64 (lastE 0 ys) ∧ s15 = .int .i64 i ∧ Hid (scanE 0 (row.take i) = (0, ys)) ∧ Hid (zs.length = row.length) ∧ Hid (∀ j, j < i → zs.getD j 0 = ys.getD j 0) ∧ Hid (Acc wr w.heap.size (.slice (some ⟨w.heap.size, 0, none⟩) row.length row.length) zs) ∧ Hid (Below w.heap.size w wr)) (fun _ s15 _ => row.length - (intOf s15).toNat)
  case atStart => exact ⟨0, [], _, Nat.zero_le _, rfl, rfl, rfl, (by show _ = _; simp), (fun j hj => by omega), HC, hb5⟩
  case round =>
    obtain ⟨i, ys, zs, hi, rfl, rfl, hsc, hzl, hzs, hac, hbl⟩ := hrel
    by_cases hlt : i < row.length
    · obtain ⟨b, o, x, rfl, hbk, hcx, hx⟩ := (hs.below hbl.out).at_ hlt
      have hfx : Hid (Fits x) := HX.out x (by rw [← hx.out]; exact getD_in 0 hlt)
      have hyl : Hid (ys.length = i) := by show _ = _; rw [scanE_len hsc.out, List.length_take]; omega
      obtain ⟨n, hn⟩ : ∃ n, lastE 0 ys = n := ⟨_, rfl⟩
      have hfn : Hid (Fits n) := by show Fits n; rw [← hn]; exact lastE_fits (by decide) (scanE_fits hsc.out)
      rw [hn]
      have HN := hide hn
      have hil : (i : Int) < (row.length : Int) := by omega
      clear hn
      by_cases he : (two 15 n x).2 = 0
      · have c1 : ((two 15 n x).2 != 0) = false := by simpa using he
        have HE := hide he
        clear he
        go_wp2_with fail
        refine (Two_any 15 n x hfn.out hfx.out _).mono ?_
        rintro e w6 ⟨rfl, hg6⟩
        have hac6 := hac.out.below hg6
        obtain ⟨g, y, eg, hgg, hgl, hck, hgy, hfz, hput⟩ := hac6.place hzl.out hlt
        injection eg with eg; injection eg with eg
        subst eg
        have hput := hide (hput (two 15 n x).1)
        have hb6 := hide (bl_then hbl.out hg6)
        clear hac6 hgg hgy hg6
        go_wp2
        go_roundw
        case rel => exact ⟨i + 1, ys ++ [(two 15 n x).1], _, by omega, by rw [lastE_snoc], by go_num, (by show _ = _; rw [take_succ_getD hlt, hx.out, ← HN.out]; exact scanE_step hsc.out (by rw [HN.out]; exact HE.out)), (by show _ = _; rw [List.length_set]; exact hzl.out), (by
            intro j hj
            by_cases e : j = i
            · subst e
              rw [List.getD_eq_getElem?_getD, List.getElem?_set_self (by rw [hzl.out]; exact hlt), List.getD_eq_getElem?_getD, List.getElem?_append_right (by rw [hyl.out]; exact Nat.le_refl _), hyl.out]; simp
            · rw [List.getD_eq_getElem?_getD, List.getElem?_set_ne (Ne.symm e), ← List.getD_eq_getElem?_getD, hzs.out j (by omega), List.getD_eq_getElem?_getD, List.getD_eq_getElem?_getD, List.getElem?_append_left (by rw [hyl.out]; omega)]), hput, hb6.out.setCell (by simp) _⟩
        case measure => simp [intOf]; omega
      · have c1 : ((two 15 n x).2 != 0) = true := by simpa using he
        have HE : Hid (scanE 0 row = ((two 15 n x).2, [])) := by
          have e1 := scanE_err (r := row.drop (i + 1)) (x := x) hsc.out (by rw [HN.out]; exact he)
          rw [← hx.out, ← take_split hlt, hx.out, HN.out] at e1
          show _ = _
          rw [scanE_bad 0 row (by rw [e1]; exact he), e1]
        clear he
        go_wp2_with fail
        refine (Two_any 15 n x hfn.out hfx.out _).mono ?_
        rintro e w6 ⟨rfl, hg6⟩
        have hb6 := bl_then hbl.out hg6
        go_wp2
        go_ret2
        rw [HE.out]
        exact sum_bad hb6
    · have e : i = row.length := by omega
      subst e
      have HE : Hid (scanE 0 row = (0, zs)) := by
        have e1 := hsc.out
        rw [List.take_of_length_le (Nat.le_refl _)] at e1
        have e2 : zs = ys := by
          refine List.ext_getElem (by rw [hzl.out, scanE_len e1]) fun j h1 h2 => ?_
          have := hzs.out j (by rw [← hzl.out]; exact h1)
          simpa [List.getD_eq_getElem?_getD, h1, h2] using this
        show _ = _
        rw [e1, e2]
      have hsl := hide (acc_sl hac.out)
      have hlt2 := hide (acc_lt hac.out)
      clear hzs hsc
      go_wp2
      go_ret2
      rw [HE.out]
      exact ⟨hbl.out, some ⟨w.heap.size, 0, none⟩, row.length, by rw [hzl.out]; rfl, hsl.out, fun g o e => (hlt2.out g o e).1, Nat.le_of_eq hzl.out⟩
end Ar
end Go.Proofs.Ytfpnafeildigaaa
/-
Contracts of chapter 11: sums of the reference; what is done with each row of the program.
-/
set_option linter.unusedSimpArgs false
set_option linter.unusedVariables false
namespace Go.Proofs.Ytfpnafeildigaaa
namespace Ar
open Go.RowKit Sc
/-- the sum of a row: the closure of folds.Sum -/
theorem sum1_any (row : List Int) (B : Option Addr) (d : Nat) (hl : row.length ≤ 100000) (hx : ∀ x ∈ row, Fits x) (w : World) (hs : Sl w B row) : Calls Try.prog 80 #[.slice B row.length d] w fun e w' => e = ret2 (sumRow row) ∧ Below w.heap.size w w' := by
  obtain ⟨er, ys, hsc⟩ : ∃ er ys, scanE 0 row = (er, ys) := ⟨_, _, rfl⟩
  have HS := hide hsc
  by_cases he : er = 0
  · subst he
    have hyl := scanE_len hsc
    have HR : Hid (sumRow row = (lastE 0 ys, 0)) := by show _ = _; unfold sumRow; rw [hsc]; rfl
    have HG : Hid (lastE 0 ys = if ys.length = 0 then 0 else ys.getD (ys.length - 1) 0) := lastE_get 0 ys
    clear hsc
    go_enter Try.func80, Try.ntmps80
    go_wp2_with fail
    refine (fsums_any row B d hl hx _ hs).mono ?_
    rw [HS.out]
    rintro e w1 ⟨hg1, V, cv, rfl, hsl, hge, hcp⟩
    by_cases h0 : ys.length = 0
    · have hy : ys = [] := List.eq_nil_of_length_eq_zero h0
      subst hy
      go_wp2
      all_goals
        go_ret2
        exact ⟨by rw [HR.out]; rfl, hg1⟩
    · obtain ⟨k, hk⟩ : ∃ k, ys.length = k + 1 := ⟨ys.length - 1, by omega⟩
      obtain ⟨b, o, x, rfl, hbk, hcx, hx1⟩ := Sl.at_ (xs := ys) (k := k) hsl (by omega)
      have HR2 : Hid (lastE 0 ys = x) := by show _ = _; rw [HG.out, if_neg h0, hk, Nat.add_sub_cancel]; exact hx1.out
      rw [show ((0 : Int), ys).2.length = k + 1 from hk]
      have e1 : IntKind.i64.wrap (k : Int) = (k : Int) := IntWalk.i64_in _ (by have := hyl; omega)
      clear hk h0 hx1 hsl hge hcp hyl
      go_wp2
      go_ret2
      exact ⟨by rw [HR.out, HR2.out]; rfl, hg1⟩
  · have HR : Hid (sumRow row = (0, er)) := by show _ = _; unfold sumRow; rw [hsc, if_pos he]
    have c1 : (er != 0) = true := by simpa using he
    have HY : Hid (ys = []) := by have := scanE_bad 0 row (by rw [hsc]; exact he); rw [hsc] at this; exact congrArg Prod.snd this
    clear hsc he
    go_enter Try.func80, Try.ntmps80
    go_wp2_with fail
    refine (fsums_any row B d hl hx _ hs).mono ?_
    rw [HS.out]
    rintro e w1 ⟨hg1, V, cv, rfl, hsl, hge, hcp⟩
    go_wp2
    go_ret2
    exact ⟨by rw [HR.out]; rfl, hg1⟩
theorem count1_any (row : List Int) (B : Option Addr) (d : Nat) (w : World) : Calls Try.prog 93 #[.slice B row.length d] w fun e w' => e = ret2 (countRow row) ∧ Below w.heap.size w w' := by
  go_enter Try.func93, Try.ntmps93
  go_wp2
  all_goals
    (first | go_ret2 | (go_region; go_wp2; go_ret2))
    exact ⟨rfl, by (repeat (first | with_reducible exact Below.refl _ _ | with_reducible assumption | (with_reducible refine bl_set ?_ (by simp; try omega) _) | (with_reducible refine bl_alloc ?_ _) | (with_reducible refine bl_dn ?_ _) | (with_reducible refine bl_drew ?_) | (with_reducible refine bl_then ?_ (by with_reducible assumption))))⟩
end Ar
end Go.Proofs.Ytfpnafeildigaaa
/-
Contracts of chapter 11: the least and the greatest cell of a row; a fold's loop over the rows (program).
-/
set_option linter.unusedSimpArgs false
set_option linter.unusedVariables false
namespace Go.Proofs.Ytfpnafeildigaaa
namespace Ar
open Go.RowKit Sc
set_option maxHeartbeats 1000000 in
theorem min_any (x : Int) (xs : List Int) (B : Option Addr) (d : Nat) (hl : xs.length ≤ 100000) (w : World) (hs : Sl w B (x :: xs)) : Calls Try.prog 90 #[.slice B (x :: xs).length d] w fun e w' => e = .returned (.int .i64 (endRow 31 (x :: xs)).1) ∧ Below w.heap.size w w' := by
  have HE : Hid ((endRow 31 (x :: xs)).1 = xs.foldl (fun n y => min n y) x) := rfl
  obtain ⟨b, o, x0, rfl, hb0, hc0, hx0⟩ := Sl.at_ (k := 0) hs (by simp)
  have ex : x0 = x := hx0.out.symm
  subst ex
  rw [show (x0 :: xs).length = xs.length + 1 from rfl]
  have HS := hide hs
  have hc0 : w.cell? ⟨b, o, none⟩ = some (.int .i64 x0) := hc0
  have n1 : decide ((xs.length : Int) + 1 < 1) = false := by simp; omega
  clear hx0 hs
  go_enter Try.func90, Try.ntmps90
  go_wp2
  go_loopw [3, 4] (fun s3 s4 wr => ∃ (j : Nat), j ≤ xs.length ∧ s3 = .int .i64 ((xs.take j).foldl (fun n y => min n y) x0) ∧ s4 = .int .i64 ((j : Int) + 1) ∧ Hid (Below w.heap.size w wr)) (fun _ s4 _ => xs.length + 1 - (intOf s4).toNat)
  case atStart => exact ⟨0, Nat.zero_le _, rfl, rfl, Below.refl _ _⟩
  case round =>
    obtain ⟨j, hj, rfl, rfl, hbl⟩ := hrel
    by_cases hlt : j < xs.length
    · obtain ⟨b', o', y, eA, hbk, hcx, hx⟩ := Sl.at_ (k := j + 1) (HS.out.below hbl.out) (by simp; omega)
      injection eA with eA; injection eA with e1 e2
      subst e1 e2
      have hy : Hid (xs.getD j 0 = y) := by show _ = _; rw [← hx.out]; simp
      have HF : Hid ((xs.take (j + 1)).foldl (fun n y => min n y) x0 = min ((xs.take j).foldl (fun n y => min n y) x0) y) := by
        show _ = _
        rw [take_succ_getD hlt, List.foldl_append, hy.out]; rfl
      obtain ⟨m, hm⟩ : ∃ m, (xs.take j).foldl (fun n y => min n y) x0 = m := ⟨_, rfl⟩
      rw [hm] at HF ⊢
      have n2 : (j : Int) + 1 < (xs.length : Int) + 1 := by omega
      clear hm hx hy
      go_wp2
      go_roundw
      case rel => exact ⟨j + 1, by omega, by rw [HF.out]; congr 1; split <;> omega, by go_num, hbl⟩
      case measure => simp [intOf]; omega
    · have e : j = xs.length := by omega
      subst e
      rw [List.take_of_length_le (Nat.le_refl _)]
      obtain ⟨m, hm⟩ : ∃ m, xs.foldl (fun n y => min n y) x0 = m := ⟨_, rfl⟩
      rw [hm] at HE ⊢
      clear hm
      go_wp2
      go_ret
      exact ⟨by rw [HE.out]; rfl, hbl.out⟩
set_option maxHeartbeats 1000000 in
theorem max_any (x : Int) (xs : List Int) (B : Option Addr) (d : Nat) (hl : xs.length ≤ 100000) (w : World) (hs : Sl w B (x :: xs)) : Calls Try.prog 92 #[.slice B (x :: xs).length d] w fun e w' => e = .returned (.int .i64 (endRow 32 (x :: xs)).1) ∧ Below w.heap.size w w' := by
  have HE : Hid ((endRow 32 (x :: xs)).1 = xs.foldl (fun n y => max n y) x) := rfl
  obtain ⟨b, o, x0, rfl, hb0, hc0, hx0⟩ := Sl.at_ (k := 0) hs (by simp)
  have ex : x0 = x := hx0.out.symm
  subst ex
  rw [show (x0 :: xs).length = xs.length + 1 from rfl]
  have HS := hide hs
  have hc0 : w.cell? ⟨b, o, none⟩ = some (.int .i64 x0) := hc0
  have n1 : decide ((xs.length : Int) + 1 < 1) = false := by simp; omega
  clear hx0 hs
  go_enter Try.func92, Try.ntmps92
  go_wp2
  go_loopw [3, 4] (fun s3 s4 wr => ∃ (j : Nat), j ≤ xs.length ∧ s3 = .int .i64 ((xs.take j).foldl (fun n y => max n y) x0) ∧ s4 = .int .i64 ((j : Int) + 1) ∧ Hid (Below w.heap.size w wr)) (fun _ s4 _ => xs.length + 1 - (intOf s4).toNat)
  case atStart => exact ⟨0, Nat.zero_le _, rfl, rfl, Below.refl _ _⟩
  case round =>
    obtain ⟨j, hj, rfl, rfl, hbl⟩ := hrel
    by_cases hlt : j < xs.length
    · obtain ⟨b', o', y, eA, hbk, hcx, hx⟩ := Sl.at_ (k := j + 1) (HS.out.below hbl.out) (by simp; omega)
      injection eA with eA; injection eA with e1 e2
      subst e1 e2
      have hy : Hid (xs.getD j 0 = y) := by show _ = _; rw [← hx.out]; simp
      have HF : Hid ((xs.take (j + 1)).foldl (fun n y => max n y) x0 = max ((xs.take j).foldl (fun n y => max n y) x0) y) := by
        show _ = _
        rw [take_succ_getD hlt, List.foldl_append, hy.out]; rfl
      obtain ⟨m, hm⟩ : ∃ m, (xs.take j).foldl (fun n y => max n y) x0 = m := ⟨_, rfl⟩
      rw [hm] at HF ⊢
      have n2 : (j : Int) + 1 < (xs.length : Int) + 1 := by omega
      clear hm hx hy
      go_wp2
      go_roundw
      case rel => exact ⟨j + 1, by omega, by rw [HF.out]; congr 1; split <;> omega, by go_num, hbl⟩
      case measure => simp [intOf]; omega
    · have e : j = xs.length := by omega
      subst e
      rw [List.take_of_length_le (Nat.le_refl _)]
      obtain ⟨m, hm⟩ : ∃ m, xs.foldl (fun n y => max n y) x0 = m := ⟨_, rfl⟩
      rw [hm] at HE ⊢
      clear hm
      go_wp2
      go_ret
      exact ⟨by rw [HE.out]; rfl, hbl.out⟩
end Ar
end Go.Proofs.Ytfpnafeildigaaa
