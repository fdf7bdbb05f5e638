/-
Words for a list that is appended to, in a field of a local struct or in a variable (for every seat).
-/
import Derived.Test.YtfpnafeildigaaaArWd
import Derived.Deep.AppendLies
set_option linter.unusedSimpArgs false
set_option linter.unusedVariables false
namespace Go.Proofs.Ytfpnafeildigaaa
namespace Ar
open Go.RowKit Sc

theorem gb_refl (a : World) (row : Option Nat) : a.grownBy a row := World.grownBy.refl a row
theorem gb_below {a w w' : World} {row : Option Nat} (h : a.grownBy w row) (hb : Below w.heap.size w w') : a.grownBy w' row :=
  ⟨hb.os.trans h.os, hb.tape.trans h.tape, hb.output.trans h.output, Nat.le_trans h.size hb.size, fun k hk hne => (hb.block k (Nat.lt_of_lt_of_le hk h.size)).trans (h.block k hk hne)⟩
theorem gb_alloc {a w : World} {row : Option Nat} (h : a.grownBy w row) (o : Obj) : a.grownBy (w.alloc o) row := gb_below h ((Below.refl _ _).alloc (Nat.le_refl _) o)
theorem gb_drew {a w : World} {row : Option Nat} (h : a.grownBy w row) : a.grownBy w.drew row := ⟨h.os, h.tape, h.output, h.size, h.block⟩
theorem gb_dn {a w : World} {row : Option Nat} (h : a.grownBy w row) (n : Nat) : a.grownBy (w.drewN n) row := ⟨h.os, h.tape, h.output, h.size, h.block⟩
theorem gb_grown {a w w' : World} {row row' : Option Nat} (h : a.grownBy w row) (hg : w.grownBy w' row') (hr : ∀ k, row' = some k → a.heap.size ≤ k ∨ some k = row) : a.grownBy w' row :=
  ⟨hg.os.trans h.os, hg.tape.trans h.tape, hg.output.trans h.output, Nat.le_trans h.size hg.size, fun k hk hne => (hg.block k (Nat.lt_of_lt_of_le hk h.size) (fun e => by
    rcases hr k e.symm with h1 | h1
    · omega
    · exact hne h1)).trans (h.block k hk hne)⟩
theorem gb_set {a w : World} {g : Nat} (h : a.grownBy w (some g)) {p : Addr} (hp : p.block = g ∨ a.heap.size ≤ p.block) (u : Value) : a.grownBy (w.setCell p u) (some g) :=
  ⟨h.os, h.tape, h.output, by simpa [World.setCell] using h.size, fun i hi hne => (Below.heap_setCell w p u i (by
    rintro rfl
    rcases hp with hp | hp
    · exact hne (by rw [hp])
    · omega)).trans (h.block i hi hne)⟩
theorem gb_cell {a w : World} {g : Nat} (h : a.grownBy w (some g)) : (∀ b o, b < a.heap.size → b ≠ g → w.cell? ⟨b, o, none⟩ = a.cell? ⟨b, o, none⟩) ∧ (∀ b o, b < a.heap.size → b ≠ g → w.frozen? ⟨b, o, none⟩ = a.frozen? ⟨b, o, none⟩) :=
  ⟨fun b o hb hne => World.cell?_of_block (h.block b hb (fun e => hne (by injection e))), fun b o hb hne => World.frozen?_of_block (h.block b hb (fun e => hne (by injection e)))⟩
theorem below_gb {B : Nat} {a w : World} (h : Below B a w) : ∀ {w' : World} {row : Option Nat}, w.grownBy w' row → B ≤ w.heap.size → (∀ k, row = some k → B ≤ k) → Below B a w' := fun hg hB hr => h.grown hg hB hr

/-- the numbers ys, in a row of the call's own -/
def Acc (w : World) (base : Nat) (v : Value) (ys : List Int) : Prop := w.ownsRow base 2 1 v ys.length (ys.map (Value.int .i64))
theorem Acc.nil (w : World) (base : Nat) : Acc w base (.slice none 0 0) [] := World.ownsRow_nil w base _ 1
theorem Acc.kept {w w' : World} {base : Nat} {v : Value} {ys : List Int} (h : Acc w base v ys) {row : Option Nat} (hg : w.grownBy w' row) (hr : ∀ k, row = some k → k < base) : Acc w' base v ys := by
  refine World.ownsRow.kept h hg ?_
  cases hv : v.ownBlock with
  | none => exact .inl rfl
  | some k =>
    right
    intro e
    have := (World.ownsRow.lt h k hv).1
    have := hr k e.symm
    omega
theorem gb_of_below {w w' : World} (hb : Below w.heap.size w w') (row : Option Nat) : w.grownBy w' row := ⟨hb.os, hb.tape, hb.output, hb.size, fun k hk _ => hb.block k hk⟩
theorem Acc.below {w w' : World} {base : Nat} {v : Value} {ys : List Int} (h : Acc w base v ys) (hb : Below w.heap.size w w') : Acc w' base v ys := h.kept (gb_of_below hb none) (fun _ e => by cases e)
theorem Acc.alloc {w : World} {base : Nat} {v : Value} {ys : List Int} (h : Acc w base v ys) (o : Obj) : Acc (w.alloc o) base v ys := World.ownsRow.alloc h o
theorem Acc.drew {w : World} {base : Nat} {v : Value} {ys : List Int} (h : Acc w base v ys) : Acc w.drew base v ys := h
theorem Acc.set {w : World} {base : Nat} {v : Value} {ys : List Int} (h : Acc w base v ys) {a : Addr} (ha : a.block < base) (u : Value) : Acc (w.setCell a u) base v ys := ownsRow_setCell_below h ha u
theorem Acc.sl {w : World} {base : Nat} {v : Value} {ys : List Int} (h : Acc w base v ys) : ∃ (A : Option Addr) (c : Nat), v = .slice A ys.length c ∧ Sl w A ys ∧ ∀ g o, A = some ⟨g, o, none⟩ → base ≤ g := by
  rcases Nat.eq_zero_or_pos ys.length with h0 | h0
  · have hy : ys = [] := List.eq_nil_of_length_eq_zero h0
    subst hy
    rcases h.2 with ⟨rfl, _⟩ | ⟨g, cap, cur, rfl, hb, _⟩
    · exact ⟨none, 0, rfl, Sl.nil _ _, fun _ _ e => by cases e⟩
    · exact ⟨_, cap, rfl, Sl.nil _ _, fun _ _ e => by injection e with e; injection e with e1; subst e1; exact hb⟩
  · obtain ⟨g, cap, rfl, hb, hlt⟩ := World.ownsRow.form h h0
    refine ⟨_, cap, rfl, fun _ => ⟨g, 0, rfl, hlt, fun j hj => ?_⟩, fun _ _ e => by injection e with e; injection e with e1; subst e1; exact hb⟩
    rw [Nat.zero_add, World.ownsRow.cellAt h j (by omega)]
    simp [List.getD_eq_getElem?_getD, List.getElem?_eq_getElem hj]
theorem Acc.len {w : World} {base : Nat} {v : Value} {ys : List Int} (h : Acc w base v ys) : ∃ (A : Option Addr) (c : Nat), v = .slice A ys.length c := by
  obtain ⟨A, c, e, _⟩ := h.sl; exact ⟨A, c, e⟩
theorem Acc.shape {w : World} {base : Nat} {v : Value} {ys : List Int} (h : Acc w base v ys) : ∃ (A : Option Addr) (n c : Nat), v = .slice A n c ∧ Hid (n = ys.length) := by
  obtain ⟨A, c, e, _⟩ := h.sl; exact ⟨A, _, c, e, rfl⟩
theorem Sl.set {w : World} {A : Option Addr} {xs : List Int} {B : Nat} (h : Sl w A xs) (hge : ∀ g o, A = some ⟨g, o, none⟩ → B ≤ g) {q : Addr} (hq : q.block < B) (u : Value) : Sl (w.setCell q u) A xs := fun hn => by
  obtain ⟨b, o, e, hl, hc⟩ := h hn
  have := hge b o e
  exact ⟨b, o, e, by simpa [World.setCell] using hl, fun j hj => (World.cell?_setCell_other w _ _ u (fun e => by have := congrArg Addr.block e; simp at this; omega)).trans (hc j hj)⟩
theorem Acc.own_ge {w : World} {base : Nat} {v : Value} {ys : List Int} (h : Acc w base v ys) : ∀ k, v.ownBlock = some k → base ≤ k := fun k hk => (World.ownsRow.lt h k hk).1
theorem i64_one (y : Int) : ∀ u ∈ [Value.int .i64 y], u.oneCell' = true := by intro u hu; rw [List.mem_singleton.1 hu]; rfl
theorem Acc.push {w : World} {base n : Nat} {v : Value} {ys : List Int} {y : Int} (hn : ys.length = n) (h : w.ownsRow base 2 1 v (n + 1) (ys.map (Value.int .i64) ++ [.int .i64 y])) : Acc w base v (ys ++ [y]) := by
  subst hn
  show w.ownsRow _ _ _ _ _ _
  simpa using h
theorem lit1 (w : World) (y : Int) (t : TypeId) : ∀ (j : Nat) (u : Value), [Value.int .i64 y][j]? = some u → (w.alloc (.cells #[.int .i64 y] t)).cell? ((⟨w.heap.size, 0, none⟩ : Addr).add j) = some u := by
  intro j u hu
  match j, hu with
  | 0, hu =>
    have e : Value.int .i64 y = u := by simpa using hu
    subst e
    show (w.alloc (.cells #[.int .i64 y] t)).cell? ⟨w.heap.size, 0 + 0, none⟩ = _
    rw [World.cell?_alloc_at (hn := rfl)]; rfl
theorem Arr5.gb {w w' : World} {g G : Nat} {k r l0 l1 s : Value} (h : Arr5 w g k r l0 l1 s) (hb : w.grownBy w' (some G)) (hne : g ≠ G) : Arr5 w' g k r l0 l1 s := by
  obtain ⟨h1, h2, h3, h4, h5⟩ := h
  have hl := block_lt_of_cell h1
  have hc := (gb_cell hb).1
  exact ⟨(hc _ _ hl hne).trans h1, (hc _ _ hl hne).trans h2, (hc _ _ hl hne).trans h3, (hc _ _ hl hne).trans h4, (hc _ _ hl hne).trans h5⟩
theorem Acc.own {w : World} {base n : Nat} {v : Value} {ys : List Int} (h : Acc w base v ys) (hn : ys.length = n) : w.ownsRow base 2 1 v n (ys.map (Value.int .i64)) := by subst hn; exact h
theorem Acc.far {w w' : World} {base : Nat} {v : Value} {ys : List Int} {G : Nat} (h : Acc w base v ys) (hG : G < base) {w1 : World} (hg : w1.grownBy w' v.ownBlock) (hlt : G < w1.heap.size) :
    (∀ o, w'.cell? ⟨G, o, none⟩ = w1.cell? ⟨G, o, none⟩) ∧ (∀ o, w'.frozen? ⟨G, o, none⟩ = w1.frozen? ⟨G, o, none⟩) := by
  have hne : some G ≠ v.ownBlock := fun e => by have := h.own_ge _ e.symm; omega
  exact ⟨fun o => World.cell?_of_block (hg.block G hlt hne), fun o => World.frozen?_of_block (hg.block G hlt hne)⟩
/-- a local array in block G whose cells are appended to: what it holds, and what else has turned since 'a' (nothing) -/
def OutSt (a w : World) (G : Nat) (k r l0 l1 vc va : Value) (ys : List Int) : Prop :=
  a.grownBy w (some G) ∧ Arr5 w G k r l0 l1 vc ∧ (∀ i, w.frozen? ⟨G, i, none⟩ = false) ∧ Acc w (G + 1) va ys ∧ a.heap.size ≤ G + 1
theorem OutSt.start {a : World} {G : Nat} {k r l0 l1 : Value} (h : Arr5 a G k r l0 l1 (.slice none 0 0)) (hf : ∀ i, a.frozen? ⟨G, i, none⟩ = false) (hs : a.heap.size ≤ G + 1) : OutSt a a G k r l0 l1 (.slice none 0 0) (.slice none 0 0) [] :=
  ⟨gb_refl _ _, h, hf, Acc.nil _ _, hs⟩
theorem OutSt.lt {a w : World} {G : Nat} {k r l0 l1 vc va : Value} {ys : List Int} (h : OutSt a w G k r l0 l1 vc va ys) : G < w.heap.size := block_lt_of_cell h.2.1.1
theorem OutSt.below {a w w' : World} {G : Nat} {k r l0 l1 vc va : Value} {ys : List Int} (h : OutSt a w G k r l0 l1 vc va ys) (hb : Below w.heap.size w w') : OutSt a w' G k r l0 l1 vc va ys :=
  ⟨gb_below h.1 hb, h.2.1.below hb, fun i => (hb.frozen (p := ⟨G, i, none⟩) h.lt).trans (h.2.2.1 i), h.2.2.2.1.below hb, h.2.2.2.2⟩
theorem OutSt.app {a w w' : World} {G n : Nat} {k r l0 l1 vc va v' : Value} {ys : List Int} {y : Int} (h : OutSt a w G k r l0 l1 vc va ys) (hg : w.grownBy w' va.ownBlock) (hn : ys.length = n)
    (hown : w'.ownsRow (G + 1) 2 1 v' (n + 1) (ys.map (Value.int .i64) ++ [.int .i64 y])) : OutSt a w' G k r l0 l1 vc v' (ys ++ [y]) := by
  obtain ⟨h1, ⟨c0, c1, c2, c3, c4⟩, h3, h4, h5⟩ := h
  obtain ⟨fc, ff⟩ := Acc.far (G := G) h4 (by omega) hg (block_lt_of_cell c0)
  exact ⟨gb_grown h1 hg (fun k hk => .inl (by have := h4.own_ge k hk; omega)), ⟨(fc 0).trans c0, (fc 1).trans c1, (fc 2).trans c2, (fc 3).trans c3, (fc 4).trans c4⟩, fun i => (ff i).trans (h3 i), Acc.push hn hown, h5⟩
theorem OutSt.put {a w : World} {G : Nat} {k r l0 l1 vc va : Value} {ys : List Int} (h : OutSt a w G k r l0 l1 vc va ys) (v : Value) : OutSt a (w.setCell ⟨G, 4, none⟩ v) G k r l0 l1 v va ys := by
  obtain ⟨h1, ⟨c0, c1, c2, c3, c4⟩, h3, h4, h5⟩ := h
  exact ⟨gb_set h1 (.inl rfl) _, ⟨(cel_off _ _ _ _ _ _ (by decide)).trans c0, (cel_off _ _ _ _ _ _ (by decide)).trans c1, (cel_off _ _ _ _ _ _ (by decide)).trans c2, (cel_off _ _ _ _ _ _ (by decide)).trans c3, World.cell?_setCell_same _ _ _ c4⟩,
    fun i => (fro_set _ _ _ _).trans (h3 i), h4.set (by simp) _, h5⟩
theorem OutSt.base {a w w0 : World} {G : Nat} {k r l0 l1 vc va : Value} {ys : List Int} (h : OutSt a w G k r l0 l1 vc va ys) (hb : Below w0.heap.size w0 a) (hG : w0.heap.size ≤ G) : Below w0.heap.size w0 w :=
  below_gb hb h.1 hb.size (by rintro g ⟨⟩; exact hG)
theorem OutSt.cell {a w : World} {G : Nat} {k r l0 l1 vc va : Value} {ys : List Int} (h : OutSt a w G k r l0 l1 vc va ys) {b o : Nat} {u : Value} (hu : a.cell? ⟨b, o, none⟩ = some u) (hne : b ≠ G) : w.cell? ⟨b, o, none⟩ = some u :=
  ((gb_cell h.1).1 _ _ (block_lt_of_cell hu) hne).trans hu
theorem OutSt.arr {a w : World} {G : Nat} {k r l0 l1 vc va : Value} {ys : List Int} (h : OutSt a w G k r l0 l1 vc va ys) {g : Nat} {x0 x1 x2 x3 x4 : Value} (hu : Arr5 a g x0 x1 x2 x3 x4) (hne : g ≠ G) : Arr5 w g x0 x1 x2 x3 x4 := hu.gb h.1 hne
theorem OutSt.fro {a w : World} {G : Nat} {k r l0 l1 vc va : Value} {ys : List Int} (h : OutSt a w G k r l0 l1 vc va ys) {g : Nat} (hl : g < a.heap.size) (hu : ∀ i, a.frozen? ⟨g, i, none⟩ = false) (hne : g ≠ G) : ∀ i, w.frozen? ⟨g, i, none⟩ = false :=
  fun i => ((gb_cell h.1).2 _ _ hl hne).trans (hu i)
end Ar
end Go.Proofs.Ytfpnafeildigaaa
