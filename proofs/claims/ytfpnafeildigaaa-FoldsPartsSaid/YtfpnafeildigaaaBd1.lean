/-
joined of chapter 11's laws: a fold of two vectors against the fold of both.
-/
import Derived.Test.YtfpnafeildigaaaFoV
import Derived.RegionTactic
import Derived.Test.YtfpnafeildigaaaFoY
import Derived.Test.YtfpnafeildigaaaEa3
set_option linter.unusedSimpArgs false
set_option linter.unusedVariables false
namespace Go.Proofs.Ytfpnafeildigaaa
namespace Ar
open Go.RowKit Sc
/-- the folds have a result each, and the primitive makes the third of the first two, or has an error -/
def Joins (p : Int) (a : Arr) (e : Int) (b : Arr) (f : Int) (c : Arr) (g : Int) : Prop :=
  e = 0 → f = 0 → g = 0 → ∃ x y z : Int, a.xs = [x] ∧ b.xs = [y] ∧ c.xs = [z] ∧ Fits x ∧ Fits y ∧ ((two p x y).2 ≠ 0 ∨ (two p x y).1 = z)
set_option maxRecDepth 100000 in
set_option maxHeartbeats 4000000 in
theorem joined_yes (p : Int) (a b c : Arr) (A B C : Option Addr) (k l m : Nat) (e f g : Int) (hj : Joins p a e b f c g) (w : World) (hs : Sl w A a.xs) (ht : Sl w B b.xs) (hu : Sl w C c.xs) :
    Calls Try.prog 55 #[.int .i64 p, .agg #[.int .i64 a.k, .int .i64 a.r, .int .i64 a.l0, .int .i64 a.l1, .slice A a.xs.length k], .int .i64 e, .agg #[.int .i64 b.k, .int .i64 b.r, .int .i64 b.l0, .int .i64 b.l1, .slice B b.xs.length l], .int .i64 f, .agg #[.int .i64 c.k, .int .i64 c.r, .int .i64 c.l0, .int .i64 c.l1, .slice C c.xs.length m], .int .i64 g] w fun e w' => e = .returned (.bool true) ∧ Below w.heap.size w w' := by
  by_cases he : e = 0
  rotate_left
  · have n1 : (e != 0) = true := by simpa using he
    clear he hj
    go_enter Try.func55, Try.ntmps55
    go_wp2
    go_ret
    exact ⟨rfl, by (repeat (first | with_reducible exact Below.refl _ _ | with_reducible assumption | (with_reducible refine bl_set ?_ (by simp; try omega) _) | (with_reducible refine bl_alloc ?_ _) | (with_reducible refine bl_dn ?_ _) | (with_reducible refine bl_drew ?_) | (with_reducible refine bl_then ?_ (by with_reducible assumption))))⟩
  by_cases hf : f = 0
  rotate_left
  · have n1 : (f != 0) = true := by simpa using hf
    subst he
    clear hf hj
    go_enter Try.func55, Try.ntmps55
    go_wp2
    go_ret
    exact ⟨rfl, by (repeat (first | with_reducible exact Below.refl _ _ | with_reducible assumption | (with_reducible refine bl_set ?_ (by simp; try omega) _) | (with_reducible refine bl_alloc ?_ _) | (with_reducible refine bl_dn ?_ _) | (with_reducible refine bl_drew ?_) | (with_reducible refine bl_then ?_ (by with_reducible assumption))))⟩
  by_cases hg : g = 0
  rotate_left
  · have n1 : (g != 0) = true := by simpa using hg
    subst he hf
    clear hg hj
    go_enter Try.func55, Try.ntmps55
    go_wp2
    go_ret
    exact ⟨rfl, by (repeat (first | with_reducible exact Below.refl _ _ | with_reducible assumption | (with_reducible refine bl_set ?_ (by simp; try omega) _) | (with_reducible refine bl_alloc ?_ _) | (with_reducible refine bl_dn ?_ _) | (with_reducible refine bl_drew ?_) | (with_reducible refine bl_then ?_ (by with_reducible assumption))))⟩
  obtain ⟨x, y, z, ha, hb, hc, fx, fy, hv⟩ := hj he hf hg
  subst he hf hg
  have la : a.xs.length = 1 := by rw [ha]; rfl
  have lb : b.xs.length = 1 := by rw [hb]; rfl
  have lc : c.xs.length = 1 := by rw [hc]; rfl
  have HV := hide hv; have FX := hide fx; have FY := hide fy
  have hxa : Hid (a.xs.getD 0 0 = x) := by rw [ha]; rfl
  have hxb : Hid (b.xs.getD 0 0 = y) := by rw [hb]; rfl
  have hxc : Hid (c.xs.getD 0 0 = z) := by rw [hc]; rfl
  have LA := hide la; have LB := hide lb; have LC := hide lc
  clear ha hb hc hj hv fx fy la lb lc
  go_enter Try.func55, Try.ntmps55
  go_upto_region 1 with fail
  have st0 := hide ((((St.init w).box k hs).box l (ht.below (bl_new _ _))).box m (hu.below (bl_alloc (bl_new _ _) _)))
  simp only [World.size_alloc] at st0
  generalize World.alloc (World.alloc (World.alloc w _) _) _ = w1 at *
  obtain ⟨hbw, ⟨⟨c0, c1, c2, c3, c4⟩, sc, zc⟩, ⟨⟨b0, b1, b2, b3, b4⟩, sb, zb⟩, ⟨⟨a0, a1, a2, a3, a4⟩, sa, za⟩, _⟩ := st0.out
  obtain ⟨b1, o1, x', eA, hb1, hc1, hx1⟩ := sa.at_ (k := 0) (by have := LA.out; omega)
  obtain ⟨b2, o2, y', eB, hb2, hc2, hx2⟩ := sb.at_ (k := 0) (by have := LB.out; omega)
  obtain ⟨b3, o3, z', eC, hb3, hc3, hx3⟩ := sc.at_ (k := 0) (by have := LC.out; omega)
  have e1 : x' = x := hx1.out.symm.trans hxa.out
  have e2 : y' = y := hx2.out.symm.trans hxb.out
  have e3 : z' = z := hx3.out.symm.trans hxc.out
  rw [LA.out] at a4; rw [LB.out] at b4; rw [LC.out] at c4
  subst eA eB eC e1 e2 e3
  have hc1 : w1.cell? ⟨b1, o1, none⟩ = some (.int .i64 x') := hc1
  have hc2 : w1.cell? ⟨b2, o2, none⟩ = some (.int .i64 y') := hc2
  have hc3 : w1.cell? ⟨b3, o3, none⟩ = some (.int .i64 z') := hc3
  clear hx1 hx2 hx3 hs ht hu sa sb sc hxa hxb hxc
  go_upto_region 5 with fail
  go_cut [15, 16] from 17 (fun s15 s16 wx => s15 = .int .i64 (two p x' y').1 ∧ s16 = .int .i64 (two p x' y').2 ∧ Below w1.heap.size w1 wx)
  case first =>
    go_region_held3 (fun w' => Below w1.heap.size w1 w' ∧ ∀ b o, b < w1.heap.size → w'.cell? ⟨b, o, none⟩ = w1.cell? ⟨b, o, none⟩) (first | assumption | (refine same_of ?_; (repeat (first | with_reducible exact Below.refl _ _ | with_reducible assumption | (with_reducible refine bl_set ?_ (by simp; try omega) _) | (with_reducible refine bl_alloc ?_ _) | (with_reducible refine bl_dn ?_ _) | (with_reducible refine bl_drew ?_) | (with_reducible refine bl_then ?_ (by with_reducible assumption)))))) ((go_at_call 30; (obtain ⟨hbb, _⟩ := (by assumption : Below w1.heap.size w1 _ ∧ _)); refine (Sc.Ref.Two_any p x' y' FX.out FY.out _).mono ?_; rintro e w' ⟨rfl, hg⟩; have hS := same_of (bl_then hbb hg)))
    all_goals
      go_wp2_with fail
      go_meet
      exact ⟨rfl, rfl, by first | assumption | exact hS.1⟩
  case rest =>
    obtain ⟨rfl, rfl, hg4⟩ := hcut
    obtain ⟨w2, rfl⟩ : ∃ w2 : World, w2 = wc := ⟨_, rfl⟩
    have st1 := hide (st0.out.below hg4)
    have hc3 := (hg4.cell (p := ⟨b3, o3, none⟩) hb3).trans hc3
    have c4 := (hg4.cell (p := ⟨_, 4, none⟩) zc).trans c4
    have hb3 := Nat.lt_of_lt_of_le hb3 hg4.size
    clear hbw
    have hbw := st1.out.1
    rcases HV.out with h | h
    · have n1 : ((two p x' y').2 != 0) = true := by simpa using h
      clear h
      go_wp2
      go_ret
      exact ⟨rfl, by (repeat (first | with_reducible exact Below.refl _ _ | with_reducible assumption | (with_reducible refine bl_set ?_ (by simp; try omega) _) | (with_reducible refine bl_alloc ?_ _) | (with_reducible refine bl_dn ?_ _) | (with_reducible refine bl_drew ?_) | (with_reducible refine bl_then ?_ (by with_reducible assumption))))⟩
    · have h2 : ((two p x' y').1 == z') = true := by simpa using h
      rw [h]
      clear h h2
      cases n1 : ((two p x' y').2 != 0)
      · go_wp2
        go_ret
        exact ⟨rfl, by (repeat (first | with_reducible exact Below.refl _ _ | with_reducible assumption | (with_reducible refine bl_set ?_ (by simp; try omega) _) | (with_reducible refine bl_alloc ?_ _) | (with_reducible refine bl_dn ?_ _) | (with_reducible refine bl_drew ?_) | (with_reducible refine bl_then ?_ (by with_reducible assumption))))⟩
      · go_wp2
        go_ret
        exact ⟨rfl, by (repeat (first | with_reducible exact Below.refl _ _ | with_reducible assumption | (with_reducible refine bl_set ?_ (by simp; try omega) _) | (with_reducible refine bl_alloc ?_ _) | (with_reducible refine bl_dn ?_ _) | (with_reducible refine bl_drew ?_) | (with_reducible refine bl_then ?_ (by with_reducible assumption))))⟩
end Ar
end Go.Proofs.Ytfpnafeildigaaa
/-
The plain law of FoldsParts (chapter 11).
-/
set_option linter.unusedSimpArgs false
set_option linter.unusedVariables false
namespace Go.Proofs.Ytfpnafeildigaaa
namespace Ar
open Go.RowKit Sc
theorem joins_of {ints : Bool} {f : List Int → Int × Int} {p : Int} {l r : List Int} (cl : chk (vec' 1 l) = 0) (cr : chk (vec' 1 r) = 0) (cc : chk (vec' 1 (l ++ r)) = 0)
    (h : (f l).2 = 0 → (f r).2 = 0 → (f (l ++ r)).2 = 0 → Fits (f l).1 ∧ Fits (f r).1 ∧ ((two p (f l).1 (f r).1).2 ≠ 0 ∨ (two p (f l).1 (f r).1).1 = (f (l ++ r)).1))
    {e1 e2 e3 : Int} {X Y Z : Arr} (hX : extFold ints f (vec' 1 l) = (e1, X)) (hY : extFold ints f (vec' 1 r) = (e2, Y)) (hZ : extFold ints f (vec' 1 (l ++ r)) = (e3, Z)) : Joins p X e1 Y e2 Z e3 := by
  have one : ∀ {row : List Int} {e : Int} {X : Arr}, chk (vec' 1 row) = 0 → extFold ints f (vec' 1 row) = (e, X) → e = 0 → (f row).2 = 0 ∧ X.xs = [(f row).1] := fun {row e X} c hX he => by
    rw [fold_vec c] at hX
    by_cases q : (f row).2 ≠ 0
    · rw [if_pos q] at hX
      exact absurd ((congrArg Prod.fst hX).trans he) q
    · rw [if_neg q] at hX
      have : X = ⟨1, 0, 0, 0, [(f row).1]⟩ := (congrArg Prod.snd hX).symm
      exact ⟨by simpa using q, by rw [this]⟩
  intro h1 h2 h3
  obtain ⟨a1, a2⟩ := one cl hX h1
  obtain ⟨b1, b2⟩ := one cr hY h2
  obtain ⟨c1, c2⟩ := one cc hZ h3
  obtain ⟨f1, f2, f3⟩ := h a1 b1 c1
  exact ⟨_, _, _, a2, b2, c2, f1, f2, f3⟩
theorem two15_fits {x y : Int} (h : (two 15 x y).2 = 0) : Fits (two 15 x y).1 := by
  have e : two 15 x y = Sc.chk (x + y) := rfl
  rw [e] at h ⊢
  unfold Sc.chk at h ⊢
  by_cases q : Fits (x + y)
  · rw [if_pos q]; exact q
  · rw [if_neg q] at h; cases h
theorem scan_last {l : List Int} : ∀ {n : Int}, Fits n → (scanE n l).1 = 0 → lastE n (scanE n l).2 = n + l.sum ∧ Fits (lastE n (scanE n l).2) := by
  induction l with
  | nil => intro n hn _; exact ⟨by show n = n + 0; omega, hn⟩
  | cons x l ih =>
    intro n hn h
    rw [scanE_cons] at h ⊢
    by_cases h1 : (two 15 n x).2 ≠ 0
    · rw [if_pos h1] at h; exact absurd h h1
    rw [if_neg h1] at h ⊢
    have h1 : (two 15 n x).2 = 0 := by simpa using h1
    by_cases h2 : (scanE (two 15 n x).1 l).1 ≠ 0
    · rw [if_pos h2] at h; exact absurd h h2
    rw [if_neg h2]
    have h2 : (scanE (two 15 n x).1 l).1 = 0 := by simpa using h2
    obtain ⟨i1, i2⟩ := ih (two15_fits h1) h2
    refine ⟨?_, i2⟩
    show lastE (two 15 n x).1 _ = _
    rw [i1, two15_val h1, List.sum_cons]; omega
theorem sumRow_ok {l : List Int} (h : (sumRow l).2 = 0) : (sumRow l).1 = l.sum ∧ Fits (sumRow l).1 := by
  unfold sumRow at h ⊢
  by_cases q : (scanE 0 l).1 ≠ 0
  · rw [if_pos q] at h; exact absurd h q
  · rw [if_neg q]
    have q : (scanE 0 l).1 = 0 := by simpa using q
    obtain ⟨h1, h2⟩ := scan_last (n := 0) (by decide) q
    exact ⟨by show lastE 0 _ = _; rw [h1]; omega, h2⟩
theorem join15 {x y z : Int} (h : z = x + y) : (two 15 x y).2 ≠ 0 ∨ (two 15 x y).1 = z := by
  by_cases q : (two 15 x y).2 = 0
  · right; rw [two15_val q, h]
  · exact Or.inl q
theorem joins_sum {l r : List Int} (cl : chk (vec' 1 l) = 0) (cr : chk (vec' 1 r) = 0) (cc : chk (vec' 1 (l ++ r)) = 0) {e1 e2 e3 : Int} {X Y Z : Arr} (hX : extSum (vec' 1 l) = (e1, X)) (hY : extSum (vec' 1 r) = (e2, Y)) (hZ : extSum (vec' 1 (l ++ r)) = (e3, Z)) : Joins 15 X e1 Y e2 Z e3 := by
  refine joins_of (f := sumRow) cl cr cc (fun h1 h2 h3 => ?_) hX hY hZ
  obtain ⟨a1, a2⟩ := sumRow_ok h1
  obtain ⟨b1, b2⟩ := sumRow_ok h2
  obtain ⟨c1, c2⟩ := sumRow_ok h3
  exact ⟨a2, b2, join15 (by rw [a1, b1, c1, List.sum_append])⟩
theorem end_ne {p : Int} {l : List Int} (h : (endRow p l).2 = 0) : l ≠ [] := by rintro rfl; exact absurd h (by show (13 : Int) ≠ 0; decide)
theorem joins_least {l r : List Int} (cl : chk (vec' 1 l) = 0) (cr : chk (vec' 1 r) = 0) (cc : chk (vec' 1 (l ++ r)) = 0) (fl : ∀ x ∈ l, Fits x) (fr : ∀ x ∈ r, Fits x) {e1 e2 e3 : Int} {X Y Z : Arr} (hX : extEnd 31 (vec' 1 l) = (e1, X)) (hY : extEnd 31 (vec' 1 r) = (e2, Y)) (hZ : extEnd 31 (vec' 1 (l ++ r)) = (e3, Z)) : Joins 31 X e1 Y e2 Z e3 := by
  refine joins_of (f := endRow 31) cl cr cc (fun h1 h2 h3 => ?_) hX hY hZ
  obtain ⟨_, a1, a2⟩ := end31 (end_ne h1)
  obtain ⟨_, b1, b2⟩ := end31 (end_ne h2)
  refine ⟨fl _ a1, fr _ b1, Or.inr ?_⟩
  show min (endRow 31 l).1 (endRow 31 r).1 = _
  generalize (endRow 31 l).1 = u at *
  generalize (endRow 31 r).1 = v at *
  rw [end31_eq (v := min u v) (row := l ++ r)]
  · rw [List.mem_append]
    by_cases q : u ≤ v
    · left; rw [show min u v = u by omega]; exact a1
    · right; rw [show min u v = v by omega]; exact b1
  · intro y hy
    rcases List.mem_append.1 hy with h | h
    · have := a2 y h; omega
    · have := b2 y h; omega
theorem joins_most {l r : List Int} (cl : chk (vec' 1 l) = 0) (cr : chk (vec' 1 r) = 0) (cc : chk (vec' 1 (l ++ r)) = 0) (fl : ∀ x ∈ l, Fits x) (fr : ∀ x ∈ r, Fits x) {e1 e2 e3 : Int} {X Y Z : Arr} (hX : extEnd 32 (vec' 1 l) = (e1, X)) (hY : extEnd 32 (vec' 1 r) = (e2, Y)) (hZ : extEnd 32 (vec' 1 (l ++ r)) = (e3, Z)) : Joins 32 X e1 Y e2 Z e3 := by
  refine joins_of (f := endRow 32) cl cr cc (fun h1 h2 h3 => ?_) hX hY hZ
  obtain ⟨_, a1, a2⟩ := end32 (end_ne h1)
  obtain ⟨_, b1, b2⟩ := end32 (end_ne h2)
  refine ⟨fl _ a1, fr _ b1, Or.inr ?_⟩
  show max (endRow 32 l).1 (endRow 32 r).1 = _
  generalize (endRow 32 l).1 = u at *
  generalize (endRow 32 r).1 = v at *
  rw [end32_eq (v := max u v) (row := l ++ r)]
  · rw [List.mem_append]
    by_cases q : v ≤ u
    · left; rw [show max u v = u by omega]; exact a1
    · right; rw [show max u v = v by omega]; exact b1
  · intro y hy
    rcases List.mem_append.1 hy with h | h
    · have := a2 y h; omega
    · have := b2 y h; omega
theorem joins_count {l r : List Int} (cl : chk (vec' 1 l) = 0) (cr : chk (vec' 1 r) = 0) (cc : chk (vec' 1 (l ++ r)) = 0) (hl : l.length + r.length ≤ 400) {e1 e2 e3 : Int} {X Y Z : Arr} (hX : extCount (vec' 1 l) = (e1, X)) (hY : extCount (vec' 1 r) = (e2, Y)) (hZ : extCount (vec' 1 (l ++ r)) = (e3, Z)) : Joins 15 X e1 Y e2 Z e3 := by
  refine joins_of (f := countRow) cl cr cc (fun h1 h2 h3 => ?_) hX hY hZ
  have f : ∀ n : Nat, n ≤ 400 → -9223372036854775808 ≤ (n : Int) ∧ (n : Int) ≤ 9223372036854775807 := fun n hn => by omega
  exact ⟨f l.length (by omega), f r.length (by omega), join15 (by show ((l ++ r).length : Int) = _; rw [List.length_append]; rfl)⟩
/-- the least of both has a result where that of the first has one -/
theorem least_on {l r : List Int} (cl : chk (vec' 1 l) = 0) (cc : chk (vec' 1 (l ++ r)) = 0) (h : (extEnd 31 (vec' 1 l)).1 = 0) : (extEnd 31 (vec' 1 (l ++ r))).1 = 0 := by
  show (extFold true (endRow 31) _).1 = 0
  have h : (extFold true (endRow 31) (vec' 1 l)).1 = 0 := h
  rw [fold_vec cl] at h
  rw [fold_vec cc]
  have q : (endRow 31 l).2 = 0 := by
    by_cases q : (endRow 31 l).2 ≠ 0
    · rw [if_pos q] at h; exact h
    · simpa using q
  have ne := end_ne q
  have q2 := (end31 (row := l ++ r) (by intro e; exact ne (List.append_eq_nil_iff.1 e).1)).1
  rw [if_neg (by simpa using q2)]
end Ar
end Go.Proofs.Ytfpnafeildigaaa
/-
The walk of FoldsParts (chapter 11), run by the engine.
-/
set_option linter.unusedSimpArgs false
set_option linter.unusedVariables false
namespace Go.Proofs.Ytfpnafeildigaaa
namespace Ar
open Go.RowKit Sc
open En
def spGood : Spc
  | [x], H, _ => .is ((getA H x).1 ∧ (getA H x).2.xs.length ≤ 9223372036854775807 ∧ Fits (getA H x).2.l0 ∧ Fits (getA H x).2.l1) (.v (.bool (goodB (getA H x).2)))
  | _, _, _ => .bad
def spAwake : Spc
  | [], _, _ => .is True (.v (.bool true))
  | _, _, _ => .bad
def spCat : Spc
  | [x, y], H, nx => ret2 nx ((getA H x).1 ∧ (getA H y).1 ∧ chk (getA H x).2 = 0 ∧ chk (getA H y).2 = 0) (extCat (getA H x).2 (getA H y).2)
  | _, _, _ => .bad
def spFold (F : Arr → Int × Arr) : Spc
  | [x], H, nx => ret2 nx ((getA H x).1 ∧ Fine (getA H x).2) (F (getA H x).2)
  | _, _, _ => .bad
def spJoined : Spc
  | [.v (.int .i64 p), x, .v (.int .i64 e), y, .v (.int .i64 f), z, .v (.int .i64 g)], H, _ => .is ((getA H x).1 ∧ (getA H y).1 ∧ (getA H z).1 ∧ Joins p (getA H x).2 e (getA H y).2 f (getA H z).2 g) (.v (.bool true))
  | _, _, _ => .bad
theorem spGood_q {x : SV} {H : Nat → Ch} {nx : Nat} : spGood [x] H nx = .is ((getA H x).1 ∧ (getA H x).2.xs.length ≤ 9223372036854775807 ∧ Fits (getA H x).2.l0 ∧ Fits (getA H x).2.l1) (.v (.bool (goodB (getA H x).2))) := rfl
theorem spAwake_q {H : Nat → Ch} {nx : Nat} : spAwake [] H nx = .is True (.v (.bool true)) := rfl
theorem spCat_q {x y : SV} {H : Nat → Ch} {nx : Nat} : spCat [x, y] H nx = En.ret2 nx ((getA H x).1 ∧ (getA H y).1 ∧ chk (getA H x).2 = 0 ∧ chk (getA H y).2 = 0) (extCat (getA H x).2 (getA H y).2) := rfl
theorem spFold_q {F : Arr → Int × Arr} {x : SV} {H : Nat → Ch} {nx : Nat} : spFold F [x] H nx = En.ret2 nx ((getA H x).1 ∧ Fine (getA H x).2) (F (getA H x).2) := rfl
theorem spJoined_q {x y z : SV} {p e f g : Int} {H : Nat → Ch} {nx : Nat} : spJoined [.v (.int .i64 p), x, .v (.int .i64 e), y, .v (.int .i64 f), z, .v (.int .i64 g)] H nx = .is ((getA H x).1 ∧ (getA H y).1 ∧ (getA H z).1 ∧ Joins p (getA H x).2 e (getA H y).2 f (getA H z).2 g) (.v (.bool true)) := rfl
theorem spGood_ok : SpecOk Try.prog 52 spGood := by
  intro args hp nx w0 w H hv
  match args, hv with
  | [x], ⟨h1, h2, h3, h4⟩ =>
    obtain ⟨A, c, e, hs, hc⟩ := getA_ok H h1
    refine bool_ok ?_
    simp only [dens, e]
    exact good_any _ A c h2 h3 h4 w hs
theorem spAwake_ok : SpecOk Try.prog 41 spAwake := by
  intro args hp nx w0 w H hv
  match args, hv with
  | [], _ => exact bool_ok (awake11 w)
theorem spCat_ok : SpecOk Try.prog 37 spCat := by
  intro args hp nx w0 w H hv
  match args, hv with
  | [x, y], ⟨h1, h2, h3, h4⟩ =>
    obtain ⟨A, c, e, hs, hc⟩ := getA_ok H h1
    obtain ⟨B, d, e', ht, hd⟩ := getA_ok H h2
    refine ret2_ok ?_
    simp only [dens, e, e']
    exact cat_go _ _ A B h3 h4 hc hd rfl w hs ht
theorem spFold_ok {F : Arr → Int × Arr} {f : FuncId} (h : ∀ (a : Arr) (A : Option Addr) (c : Nat), Fine a → a.xs.length ≤ c → ∀ w, Sl w A a.xs → Calls Try.prog f #[.agg #[.int .i64 a.k, .int .i64 a.r, .int .i64 a.l0, .int .i64 a.l1, .slice A a.xs.length c]] w (RetC w (F a).1 (F a).2)) : SpecOk Try.prog f (spFold F) := by
  intro args hp nx w0 w H hv
  match args, hv with
  | [x], ⟨h1, h2⟩ =>
    obtain ⟨A, c, e, hs, hc⟩ := getA_ok H h1
    refine ret2_ok ?_
    simp only [dens, e]
    exact h _ A c h2 hc w hs
theorem spJoined_ok : SpecOk Try.prog 55 spJoined := by
  intro args hp nx w0 w H hv
  unfold spJoined at hv ⊢
  split at hv
  · next p x e y f z g =>
    obtain ⟨h1, h2, h3, hj⟩ := hv
    obtain ⟨A, c, e1, hs, _⟩ := getA_ok H h1
    obtain ⟨B, d, e2, ht, _⟩ := getA_ok H h2
    obtain ⟨C, k, e3, hu, _⟩ := getA_ok H h3
    refine bool_ok ?_
    simp only [dens, den, e1, e2, e3]
    exact joined_yes p _ _ _ A B C c d k e f g hj w hs ht hu
  · exact hv.elim
def gamParts : Gam :=
  gcons 52 spGood (gcons 41 spAwake (gcons 37 spCat (gcons 42 (spFold extSum) (gcons 46 (spFold (extEnd 31))
    (gcons 48 (spFold (extEnd 32)) (gcons 50 (spFold extCount) (gcons 55 spJoined gnil)))))))
theorem gamParts_ok : GOk Try.prog gamParts :=
  gOk_cons (by kernel_rfl) spGood_ok <| gOk_cons (by kernel_rfl) spAwake_ok <| gOk_cons (by kernel_rfl) spCat_ok <|
  gOk_cons (by kernel_rfl) (spFold_ok fun a A c ha hc w hs => fsum_go a A ha hc rfl w hs) <|
  gOk_cons (by kernel_rfl) (spFold_ok fun a A c ha hc w hs => fleast_go a A ha hc rfl w hs) <|
  gOk_cons (by kernel_rfl) (spFold_ok fun a A c ha hc w hs => fmost_go a A ha hc rfl w hs) <|
  gOk_cons (by kernel_rfl) (spFold_ok fun a A c ha hc w hs => fcount_go a A ha hc rfl w hs) <|
  gOk_cons (by kernel_rfl) spJoined_ok gOk_nil
def tiParts : List (TypeId × TI) :=
  [(25, ⟨true, true, 5, [.v (.int .i64 0), .v (.int .i64 0), .v (.int .i64 0), .v (.int .i64 0), .v (.slice none 0 0)], [(0, 1), (1, 1), (2, 2), (4, 1)], 0, 0, 0, 4, 0⟩),
   (3, ⟨true, false, 1, [.v (.int .i64 0)], [], 0, 0, 0, 0, 0⟩)]
theorem tiParts_ok : TyAll Try.prog (lookT tiParts) :=
  tyAll_cons (.mk' (by kernel_rfl) (by kernel_rfl) (by decide) (by decide) (by kernel_rfl) (by kernel_rfl)) <|
  tyAll_cons (.mk' (by kernel_rfl) (by kernel_rfl) (by decide) (by decide) (by kernel_rfl) (by kernel_rfl)) tyAll_nil
theorem follow11 : Try.prog.follows .mixedOrders = true := by kernel_rfl
end Ar
end Go.Proofs.Ytfpnafeildigaaa
/-
The walk of FoldsParts (chapter 11), run by the engine.
-/
set_option linter.unusedSimpArgs false
set_option linter.unusedVariables false
namespace Go.Proofs.Ytfpnafeildigaaa
namespace Ar
open Go.RowKit Sc
open En
set_option maxRecDepth 100000 in
set_option maxHeartbeats 8000000 in
theorem partsE_walk (a b : Arr) (A B : Option Addr) (c d : Nat) (hla : a.xs.length ≤ 9223372036854775807) (hlb : b.xs.length ≤ 9223372036854775807) (f0 : Fits a.l0) (f1 : Fits a.l1) (hx : ∀ x ∈ a.xs, Fits x) (g0 : Fits b.l0) (g1 : Fits b.l1) (hy : ∀ x ∈ b.xs, Fits x) (hcA : a.xs.length ≤ c) (hcB : b.xs.length ≤ d) (w : World) (hs : Sl w A a.xs) (ht : Sl w B b.xs) :
    Calls Try.prog 15 #[.agg #[.int .i64 a.k, .int .i64 a.r, .int .i64 a.l0, .int .i64 a.l1, .slice A a.xs.length c], .agg #[.int .i64 b.k, .int .i64 b.r, .int .i64 b.l0, .int .i64 b.l1, .slice B b.xs.length d]] w fun e w' => e = .returned (.bool true) ∧ Below w.heap.size w w' := by
  refine calls_run (args := [arS 0 A c a, arS 1 B d b]) (hp := [(0, .ints A c .i64 a.xs), (1, .ints B d .i64 b.xs)]) (nx := 2) (n := 1000) (U := []) (T := lookT tiParts) (G := gamParts) (post := fun s xs => xs = [.v (.bool true)])
    follow11 tiParts_ok gamParts_ok Try.func15 rfl (by kernel_rfl) (by show 2 ≤ 155; decide) (hh_args [.ints A c .i64 a.xs, .ints B d .i64 b.xs] 0 (by simp [sl_hold hs hcA, sl_hold ht hcB]) (by simp [mutb])) (free_args [.ints A c .i64 a.xs, .ints B d .i64 b.xs]) ?_ ?_
  · rintro s xs w' rfl H
    exact ⟨rfl, H.below⟩
  rw [Try.results15]
  simp only [En.q0, En.q1, En.q2, En.q3, En.q4, En.q5, En.q6, En.q7, En.q8, En.q9, En.q10, En.q11, En.q12, En.q13, En.q14, En.q15, En.q16, En.q17, En.q18, En.q19, En.q20, En.q21, En.q22, En.q23, En.q24, En.q25, En.q26, En.q27, En.q28, En.q29, En.q30, En.q31, En.q32, En.q33, En.q34, En.q35, En.q36, En.q37, En.q38, En.q39, En.q40, En.q41, En.q42, En.q43, En.q44, En.q45, En.q46, En.q47, En.q48, En.q49, En.q50, En.q51, En.q52, En.q53, En.q54, En.q55, En.q56, En.q57, En.q58, En.q59, En.q60, En.q61, En.q62, En.q63, En.q64, En.q65, En.q66, En.q67, En.q68, En.q69, En.q70, En.q71, En.q72, En.q73, En.q74, En.q75, En.q76, En.q77, En.q78, En.q79, En.q80, En.q81, En.q82, En.q83, En.q84, En.q85, En.q86, En.q87, En.q88, En.q89, En.q90, En.q91, En.q92, En.q93, En.q94, En.q95, En.q96, En.q97, En.q98, En.q99, En.q100, En.q101, En.q102, En.q103, En.q104, En.q105, En.q106, En.q107, En.q108, En.q109, En.q110, En.q111, En.q112, En.q113, En.q114, En.q115, En.q116, En.q117, En.q118, En.q119, En.q120, En.q121, En.q122, En.q123, En.q124, En.q125, En.q126, En.q127, En.q128, En.q129, En.q130, En.q131, En.q132, En.q133, En.q134, En.q135, En.q136, En.q137, En.q138, En.q139, En.q140, En.q141, En.q142, En.q143, En.q144, En.q145, En.q146, En.q147, En.q148, En.q149, En.q150, En.q151, En.q152, En.q153, En.q154, En.q155, En.q156, En.q157, En.q158, En.q159, En.q160, En.q161, En.q162, En.q163, En.q164, En.q165, En.q166, En.q167, En.q168, En.q169, En.q170, En.q171, En.q172, En.q173, En.q174, En.q175, En.q176, En.q177, En.q178, En.q179, En.q180, En.q181, En.q182, En.q183, En.q184, En.q185, En.q186, En.q187, En.q188, En.q189, En.q190, En.q191, En.q192, En.q193, En.q194, En.q195, En.q196, En.q197, En.q198, En.q199, En.q200, En.q201, En.q202, En.q203, En.q204, En.q205, En.q206, En.q207, En.q208, En.q209, En.q210, En.q211, En.q212, En.q213, En.q214, En.q215, En.q216, En.q217, En.q218, En.q219, En.q220, En.q221, En.q222, En.q223, En.q224, En.q225, En.q226, En.q227, En.q228, En.q229, En.q230, En.q231, En.q232, En.q233, En.q234, En.q235, En.q236, En.q237, En.q238, En.q239, En.q240, En.q241, En.q242, En.q243, En.q244, En.q245, En.q246, En.q247, En.q248, En.q249, En.q250, En.q251, En.q252, En.q253, En.q254, En.q255, En.q256, En.q257, En.q258, En.q259, En.q260, En.q261, En.q262, En.q263, En.q264, En.q265, En.q266, En.q267, En.q268, En.q269, En.q270, En.q271, En.q272, En.q273, En.q274, En.q275, En.q276, En.q277, En.q278, En.q279, En.q280, En.q281, En.q282, En.q283, En.q284, En.q285, En.q286, En.q287, En.q288, En.q289, En.q290, En.q291, En.q292, En.q293, En.q294, En.q295, En.q296, En.q297, En.q298, En.q299, En.q300, En.q301, En.q302, En.q303, En.q304, En.q305, En.q306, En.q307, En.q308, En.q309, En.q310, En.q311, En.q312, En.q313, En.q314, En.q315, En.q316, En.q317, En.q318, En.q319, En.q320, En.q321, En.q322, En.q323, En.q324, En.q325, En.q326, En.q327, En.q328, En.q329, En.q330, En.q331, En.q332, En.q333, En.q334, En.q335, En.q336, En.q337, En.q338, En.q339, En.q340, En.q341, En.q342, En.q343, En.q344, En.q345, En.q346, En.q347, En.q348, En.q349, En.q350, En.q351, En.q352, En.q353, En.q354, En.q355, En.q356, En.q357, En.q358, En.q359, En.q360, En.q361, En.q362, En.q363, En.q364, En.q365, En.q366, En.q367, En.q368, En.q369, En.q370, En.q371, En.q372, En.q373, En.q374, En.q375, En.q376, En.q377, En.q378, En.q379, En.q380, En.q381, En.q382, En.q383, En.q384, En.q385, En.q386, En.q387, En.q388, En.q389, En.q390, En.q391, En.q392, En.q393, En.q394, En.q395, En.q396, En.q397, En.q398, En.q399, En.q400, En.q401, En.q402, En.q403, En.q404, En.q405, En.q406, En.q407, En.q408, En.q409, En.q410, En.q411, En.q412, En.q413, En.q414, En.q415, En.q416, En.q417, En.q418, En.q419, En.q420, En.q421, En.q422, En.q423, En.q424, En.q425, En.q426, En.q427, En.q428, En.q429, En.q430, En.q431, En.q432, En.q433, En.q434, En.q435, En.q436, En.q437, En.q438, En.q439, En.q440, En.q441, En.q442, En.q443, En.q444, En.q445, En.q446, En.q447, En.q448, En.q449, En.q450, En.q451, En.q452, En.q453, En.q454, En.q455, En.q456, En.q457, En.q458, En.q459, En.q460, En.q461, En.q462, En.q463, En.q464, En.q465, En.q466, En.q467, En.q468, En.q469, En.q470, En.q471, En.q472, En.q473, En.q474, En.q475, En.q476, En.q477, En.q478, En.q479, En.q480, En.q481, En.q482, En.q483, En.q484, En.q485, List.toList_toArray, cond_true, cond_false, Nat.reduceBEq, Nat.reduceAdd, Nat.reduceMul, Nat.reduceEqDiff, Nat.reduceLeDiff, Nat.reduceLT, Bool.true_and, Bool.and_true, Bool.false_and, Bool.and_false, true_and, and_true, and_self, ne_eq, not_false_eq_true, reduceCtorEq, Bool.not_true, Bool.not_false, true_implies, not_true_eq_false, false_or, or_false, true_or, or_true, List.nil_append, List.cons_append, List.append_nil, List.map_cons, List.map_nil, Nat.le_refl, eq_self, forall_const, En.bitN, Nat.testBit, Nat.reduceShiftRight, Nat.reduceShiftLeft, Nat.reduceAnd, Nat.reduceOr, Nat.reduceBNe, Nat.zero_or, Nat.or_zero, Nat.sub_zero, Int.reduceToNat, Nat.reduceSub, Nat.zero_add, Nat.add_zero, List.length_cons, List.length_nil, Nat.zero_mul, Nat.reduceLeDiff, Int.reduceLE, Int.reduceLT, List.cons_ne_nil, arS, tiParts, gamParts, spGood_q, spAwake_q, spCat_q, spFold_q, spJoined_q, getA_q, getA_z, getC_q, En.ret2, arr_eta]
  simp only [beq_true, beq_false, beq_self_eq_true, bne_self_eq_false, Bool.not_true, Bool.not_false, Bool.not_not, Bool.not_eq_true', Bool.not_eq_false', Bool.true_and, Bool.and_true, Bool.false_and, Bool.and_false, cond_true, cond_false, implies_true, true_implies, false_implies, imp_self, true_and, and_true, and_self, reduceCtorEq, bne_iff_ne, beq_iff_eq, ne_eq, not_true_eq_false, not_false_eq_true, eq_self, beq_eq_false_iff_ne, bne_eq_false_iff_eq, Bool.and_eq_true, Bool.and_eq_false_imp]
  refine ⟨⟨hla, f0, f1⟩, ?_⟩
  cases ga : goodB a
  · simp
  cases gb : goodB b
  · simp [hlb, g0, g1]
  simp only [beq_true, beq_false, beq_self_eq_true, bne_self_eq_false, Bool.not_true, Bool.not_false, Bool.not_not, Bool.not_eq_true', Bool.not_eq_false', Bool.true_and, Bool.and_true, Bool.false_and, Bool.and_false, cond_true, cond_false, implies_true, true_implies, false_implies, imp_self, true_and, and_true, and_self, reduceCtorEq, bne_iff_ne, beq_iff_eq, ne_eq, not_true_eq_false, not_false_eq_true, eq_self, beq_eq_false_iff_ne, bne_eq_false_iff_eq, Bool.and_eq_true, Bool.and_eq_false_imp, hlb, g0, g1]
  by_cases ra : a.r = 1
  rotate_left
  · simp [ra]
  by_cases rb : b.r = 1
  rotate_left
  · simp [ra, rb]
  obtain ⟨_, ca, _, _⟩ := goodB_yes ga
  obtain ⟨_, cb, _, _⟩ := goodB_yes gb
  simp only [ra, rb, ca, cb, beq_true, beq_false, beq_self_eq_true, bne_self_eq_false, Bool.not_true, Bool.not_false, Bool.not_not, Bool.not_eq_true', Bool.not_eq_false', Bool.true_and, Bool.and_true, Bool.false_and, Bool.and_false, cond_true, cond_false, implies_true, true_implies, false_implies, imp_self, true_and, and_true, and_self, reduceCtorEq, bne_iff_ne, beq_iff_eq, ne_eq, not_true_eq_false, not_false_eq_true, eq_self, beq_eq_false_iff_ne, bne_eq_false_iff_eq, Bool.and_eq_true, Bool.and_eq_false_imp]
  by_cases hec : (extCat a b).1 = 0
  rotate_left
  · simp [hec]
  obtain ⟨_, ca', ka, _⟩ := goodB_yes ga
  obtain ⟨_, cb', kb, _⟩ := goodB_yes gb
  have fa : Fine a := ⟨by have := (goodB_yes ga).1; omega, f0, f1, hx⟩
  have fb : Fine b := ⟨by have := (goodB_yes gb).1; omega, g0, g1, hy⟩
  obtain ⟨Q, hQ⟩ : ∃ Q, extCat a b = (0, Q) := ⟨(extCat a b).2, Prod.ext hec rfl⟩
  rw [hQ]
  obtain ⟨hq, cq, hl4⟩ := cat_good ga gb ra rb hQ
  have fq := fine_cat fa fb hq hl4
  have va : a = vec' 1 a.xs := by have h := vec_of ca ra; rw [ka] at h; exact h
  have vb : b = vec' 1 b.xs := by have h := vec_of cb rb; rw [kb] at h; exact h
  have cl : chk (vec' 1 a.xs) = 0 := by rw [← va]; exact ca
  have cr : chk (vec' 1 b.xs) = 0 := by rw [← vb]; exact cb
  have cc : chk (vec' 1 (a.xs ++ b.xs)) = 0 := by rw [← hq]; exact cq
  have J1 : Joins 15 (extSum a).2 (extSum a).1 (extSum b).2 (extSum b).1 (extSum Q).2 (extSum Q).1 := joins_sum cl cr cc (by rw [← va]) (by rw [← vb]) (by rw [← hq])
  have J2 : Joins 31 (extEnd 31 a).2 (extEnd 31 a).1 (extEnd 31 b).2 (extEnd 31 b).1 (extEnd 31 Q).2 (extEnd 31 Q).1 := joins_least cl cr cc hx hy (by rw [← va]) (by rw [← vb]) (by rw [← hq])
  have J3 : Joins 32 (extEnd 32 a).2 (extEnd 32 a).1 (extEnd 32 b).2 (extEnd 32 b).1 (extEnd 32 Q).2 (extEnd 32 Q).1 := joins_most cl cr cc hx hy (by rw [← va]) (by rw [← vb]) (by rw [← hq])
  have J4 : Joins 15 (extCount a).2 (extCount a).1 (extCount b).2 (extCount b).1 (extCount Q).2 (extCount Q).1 := joins_count cl cr cc hl4 (by rw [← va]) (by rw [← vb]) (by rw [← hq])
  have L2 : (extEnd 31 a).1 = 0 → (extEnd 31 Q).1 = 0 := by
    intro e
    have h := least_on cl cc (by rw [← va]; exact e)
    rw [← hq] at h; exact h
  have N : ∀ l : List Int, chk (vec' 1 l) = 0 → (extCount (vec' 1 l)).1 = 0 := by
    intro l h
    show (extFold false countRow _).1 = 0
    rw [fold_vec h]; rfl
  have n1 : (extCount a).1 = 0 := by rw [va]; exact N _ cl
  have n2 : (extCount b).1 = 0 := by rw [vb]; exact N _ cr
  have n3 : (extCount Q).1 = 0 := by rw [hq]; exact N _ cc
  simp [fa, fb, fq, J1, J2, J3, J4, n1, n2, n3]
  rw [n1, n2, n3] at J4
  exact ⟨L2, fun _ => J4⟩
end Ar
end Go.Proofs.Ytfpnafeildigaaa
