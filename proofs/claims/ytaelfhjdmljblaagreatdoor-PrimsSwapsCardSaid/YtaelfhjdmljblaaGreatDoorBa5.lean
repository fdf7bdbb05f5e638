/-
The cells of a result of One: the closure, and the loop that fills a new block with what it returns, or raises the first error (chapter 10).
-/
import Derived.Test.YtaelfhjdmljblaaGreatDoorBa4
import Derived.Deep.RegionHeld3
import Derived.WalkLawsBesides
set_option linter.unusedSimpArgs false
set_option linter.unusedVariables false
namespace Go.Proofs.YtaelfhjdmljblaaGreatDoor
namespace Ar
open Go.RowKit Sc

theorem one1_any (p : Int) (xs : List Int) (A : Option Addr) (c P Q k : Nat) (x : Int) (hx : Fits x) (w : World) (hk : k < xs.length) (hl : xs.length ≤ 9223372036854775807) (hP : w.cell? ⟨P, 0, none⟩ = some (.int .i64 p))
    (hQ : w.cell? ⟨Q, 4, none⟩ = some (.slice A xs.length c)) (hs : Sl w A xs) (hxk : xs.getD k 0 = x) :
    Calls Tryz.prog 58 #[.int .i64 k, .pointer (some ⟨P, 0, none⟩), .pointer (some ⟨Q, 0, none⟩)] w fun e w' => e = ret2 (one p x) ∧ Below w.heap.size w w' := by
  obtain ⟨b, o, x', rfl, hb, hc, hx'⟩ := hs.at_ hk
  have e : x' = x := hx'.out.symm.trans hxk
  subst e
  clear hxk hs hx'
  have hPl := block_lt_of_cell hP
  have hQl := block_lt_of_cell hQ
  have hx' := hide hx
  clear hx
  go_enter Tryz.func58, Tryz.ntmps58
  go_wp2
  go_region_held3 (fun w' => w'.cell? ⟨P, 0, none⟩ = some (.int .i64 p) ∧ w'.cell? ⟨Q, 4, none⟩ = some (.slice (some ⟨b, o, none⟩) xs.length c) ∧ w'.cell? ⟨b, o + k, none⟩ = some (.int .i64 x')) (simp [go_sem, *]) ((go_at_call 59; refine (One_any p x' hx'.out _).mono ?_; rintro e w' ⟨rfl, hg⟩; have hc' : ∀ b o, b < w.heap.size → w'.cell? ⟨b, o, none⟩ = w.cell? ⟨b, o, none⟩ := fun b o h => hg.cell (p := ⟨b, o, none⟩) h))
  all_goals
    go_wp2
    go_ret2
    exact ⟨rfl, by (repeat (first | exact Below.refl _ _ | assumption | (refine bl_then ?_ (by assumption)) | (refine bl_alloc ?_ _) | (refine bl_dn ?_ _) | (refine bl_drew ?_)))⟩

theorem run_make_rowN {P : Program} (t e : TypeId) (i : TypeInfo) (z : Value) (ht : P.underlying t = some (.slice e)) (hi : P.info? e = some i) (hz : i.zero = some z)
    (kl kc : IntKind) (n c : Nat) (hnc : n ≤ c) (hbytes : i.bytes * c ≤ 281474976710656) (h63 : c ≤ 9223372036854775807) (w : World) :
    (Instr.makeSlice t (.int kl (n : Int)) (.int kc (c : Int))).run P w = .ok (.slice (some ⟨w.heap.size, 0, none⟩) n c) (w.alloc (.cells (madeCells z.cells (c * i.size)) e)) := by
  have hb : (i.bytes : Int) * (c : Int) ≤ 281474976710656 := by
    have h : ((i.bytes * c : Nat) : Int) ≤ 281474976710656 := by omega
    rwa [Int.natCast_mul] at h
  have hr := run_make (P := P) w t e i z ht hi hz kl kc n c (by omega) (by omega) hb (by omega)
  simp only [Int.toNat_natCast] at hr
  exact hr
theorem info_i64 : (Tryz.prog.info? 2).map (fun i => (i.zero, i.size, i.bytes)) = some (some (.int .i64 0), 1, 8) := by kernel_rfl
/-- a new block of n cells -/
def blank (n : Nat) : Array Value := madeCells #[.int .i64 0] n
theorem make_i64 (n : Nat) (hn : n ≤ 100000) (w : World) :
    (Instr.makeSlice 31 (.int .i64 (n : Int)) (.int .i64 (n : Int))).run Tryz.prog w = .ok (.slice (some ⟨w.heap.size, 0, none⟩) n n) (w.alloc (.cells (blank n) 2)) := by
  obtain ⟨i0, hi, hz0, hz1, hz2⟩ := info_parts info_i64
  have := run_make_rowN (P := Tryz.prog) _ _ i0 _ Tryz.underlying31 hi hz0 .i64 .i64 n n (Nat.le_refl _) (by rw [hz2]; omega) (by omega) w
  rw [hz1, Nat.mul_one] at this
  exact this
theorem Out.new (w : World) (n : Nat) (t : TypeId) : Out (w.alloc (.cells (blank n) t)) w.heap.size n [] :=
  ⟨by simp, fun j hj => ⟨(blank n)[j]'(by rw [blank, size_madeCells]; exact hj), by
    rw [World.cell?_alloc_at (hn := rfl)]; exact Array.getElem?_eq_getElem _⟩, fun j hj => by simp at hj, fun j => by rw [World.frozen?_alloc_at (hn := rfl)]⟩
theorem mapE_cons (f : Int → Int × Int) (a : Int) (l : List Int) : mapE f (a :: l) = if (f a).2 ≠ 0 then ((f a).2, []) else if (mapE f l).1 ≠ 0 then ((mapE f l).1, []) else (0, (f a).1 :: (mapE f l).2) := rfl
theorem mapE_step {f : Int → Int × Int} {l ys : List Int} {x : Int} (h : mapE f l = (0, ys)) (hx : (f x).2 = 0) : mapE f (l ++ [x]) = (0, ys ++ [(f x).1]) := by
  induction l generalizing ys with
  | nil => simp [mapE] at h; subst h; simp [mapE, hx]
  | cons a l ih =>
    rw [mapE_cons] at h
    by_cases ha : (f a).2 = 0
    · rw [if_neg (by simpa using ha)] at h
      by_cases hl : (mapE f l).1 = 0
      · rw [if_neg (by simpa using hl)] at h
        have e : mapE f l = (0, (mapE f l).2) := by rw [← hl]
        have := ih e
        simp only [Prod.mk.injEq, true_and] at h
        subst h
        show mapE f (a :: (l ++ [x])) = _
        rw [mapE_cons]
        rw [if_neg (by simpa using ha), this]
        simp
      · rw [if_pos hl] at h
        exact absurd (congrArg Prod.fst h) hl
    · rw [if_pos ha] at h
      exact absurd (congrArg Prod.fst h) ha
theorem mapE_err {f : Int → Int × Int} {l ys r : List Int} {x : Int} (h : mapE f l = (0, ys)) (hx : (f x).2 ≠ 0) : (mapE f (l ++ x :: r)).1 = (f x).2 := by
  induction l generalizing ys with
  | nil => simp [mapE, hx]
  | cons a l ih =>
    rw [mapE_cons] at h
    by_cases ha : (f a).2 = 0
    · rw [if_neg (by simpa using ha)] at h
      by_cases hl : (mapE f l).1 = 0
      · have e : mapE f l = (0, (mapE f l).2) := by rw [← hl]
        have := ih e
        show (mapE f (a :: (l ++ x :: r))).1 = _
        rw [mapE_cons]
        rw [if_neg (by simpa using ha), if_pos (by rw [this]; exact hx)]
        exact this
      · rw [if_pos hl] at h
        exact absurd (congrArg Prod.fst h) hl
    · rw [if_pos ha] at h
      exact absurd (congrArg Prod.fst h) ha
theorem mapE_len {f : Int → Int × Int} {l ys : List Int} (h : mapE f l = (0, ys)) : ys.length = l.length := by
  induction l generalizing ys with
  | nil => simp [mapE] at h; subst h; rfl
  | cons a l ih =>
    rw [mapE_cons] at h
    by_cases ha : (f a).2 = 0
    · rw [if_neg (by simpa using ha)] at h
      by_cases hl : (mapE f l).1 = 0
      · rw [if_neg (by simpa using hl)] at h
        simp only [Prod.mk.injEq, true_and] at h
        subst h
        simp [ih (show mapE f l = (0, (mapE f l).2) by rw [← hl])]
      · rw [if_pos hl] at h
        exact absurd (congrArg Prod.fst h) hl
    · rw [if_pos ha] at h
      exact absurd (congrArg Prod.fst h) ha
theorem take_split {xs : List Int} {k : Nat} (hk : k < xs.length) : xs = xs.take k ++ xs.getD k 0 :: xs.drop (k + 1) := by
  rw [List.getD_eq_getElem?_getD, List.getElem?_eq_getElem hk]
  simp
theorem take_succ_getD {xs : List Int} {k : Nat} (hk : k < xs.length) : xs.take (k + 1) = xs.take k ++ [xs.getD k 0] := by
  rw [List.take_succ_eq_append_getElem hk, List.getD_eq_getElem?_getD, List.getElem?_eq_getElem hk]
  rfl
/-- what the loop that fills the cells answers -/
def AllPost (w : World) (n : Nat) (m : Int × List Int) (e : Ending) (w' : World) : Prop :=
  Below w.heap.size w w' ∧ ((m.1 = 0 ∧ ∃ g, e = .returned (.slice (some ⟨g, 0, none⟩) n n) ∧ w.heap.size ≤ g ∧ Out w' g n m.2) ∨ (m.1 ≠ 0 ∧ e = .panicked [{ v := wrongV m.1, recovered := false }]))
end Ar
end Go.Proofs.YtaelfhjdmljblaaGreatDoor
/-
The loop that fills a new block with what a closure returns, or raises the first error (chapter 10).
-/
set_option linter.unusedSimpArgs false
set_option linter.unusedVariables false
namespace Go.Proofs.YtaelfhjdmljblaaGreatDoor
namespace Ar
open Go.RowKit Sc

set_option maxHeartbeats 400000 in
theorem all_one (p : Int) (xs : List Int) (A : Option Addr) (c P Q : Nat) (hx : ∀ x ∈ xs, Fits x) (w : World) (hl : xs.length ≤ 100000) (hP : w.cell? ⟨P, 0, none⟩ = some (.int .i64 p))
    (hQ : w.cell? ⟨Q, 4, none⟩ = some (.slice A xs.length c)) (hs : Sl w A xs) :
    Calls Tryz.prog 60 #[.agg #[.int .i64 xs.length, .func (.func 58) #[] #[.pointer (some ⟨P, 0, none⟩), .pointer (some ⟨Q, 0, none⟩)]]] w fun e w' => AllPost w xs.length (mapE (one p) xs) e w' := by
  have hPl := block_lt_of_cell hP
  have hQl := block_lt_of_cell hQ
  have HP := hide hP; have HQ := hide hQ; have HX := hide hx
  have hmk := fun W => make_i64 xs.length hl W
  clear hP hQ hx
  obtain ⟨n, hn⟩ : ∃ n, xs.length = n := ⟨_, rfl⟩
  rw [hn] at hmk hl HQ ⊢
  have HN := hide hn
  clear hn
  go_enter Tryz.func60, Tryz.ntmps60
  go_wp2
  go_loopw [12] (fun i wr => ∃ k : Nat, ∃ ys : List Int, k ≤ n ∧ i = .int .i64 k ∧ Hid (mapE (one p) (xs.take k) = (0, ys)) ∧ Hid (ys.length = k) ∧ Hid (Out wr (w.heap.size + 1) n ys) ∧ Below w.heap.size w wr ∧
      wr.cell? ⟨w.heap.size, 1, none⟩ = some (.func (.func 58) #[] #[.pointer (some ⟨P, 0, none⟩), .pointer (some ⟨Q, 0, none⟩)])) (fun i _ => n - (intOf i).toNat)
  case atStart => exact ⟨0, [], Nat.zero_le _, rfl, rfl, rfl, (by have := Out.new (w.alloc (.cells #[.int .i64 n, .func (.func 58) #[] #[.pointer (some ⟨P, 0, none⟩), .pointer (some ⟨Q, 0, none⟩)]] 89)) n 2; exact hide (by simpa using this)), by (repeat (first | with_reducible exact Below.refl _ _ | with_reducible assumption | (with_reducible refine bl_set ?_ (by simp; try omega) _) | (with_reducible refine bl_alloc ?_ _) | (with_reducible refine bl_dn ?_ _) | (with_reducible refine bl_drew ?_) | (with_reducible refine bl_then ?_ (by with_reducible assumption)))), by simp [go_sem]⟩
  case round =>
    obtain ⟨k, ys, hk, rfl, hm, hy, ho, hb, hbox⟩ := hrel
    by_cases hlt : k < n
    · have hkx : k < xs.length := by have := HN.out; omega
      obtain ⟨x, hxk⟩ : ∃ x, Hid (xs.getD k 0 = x) := ⟨_, rfl⟩
      have hfx : Hid (Fits x) := HX.out x (by rw [← hxk.out, List.getD_eq_getElem?_getD, List.getElem?_eq_getElem hkx]; exact List.getElem_mem hkx)
      have hcl := hide (fun W : World => fun hPW hQW hsW => one1_any p xs A c P Q k x hfx.out W hkx (by have := HN.out; omega) hPW hQW hsW hxk.out)
      have hPr := hide ((hb.cell (p := ⟨P, 0, none⟩) hPl).trans HP.out)
      have hQr : Hid (wr.cell? ⟨Q, 4, none⟩ = some (.slice A xs.length c)) := (hb.cell (p := ⟨Q, 4, none⟩) hQl).trans (by rw [HN.out]; exact HQ.out)
      have hsr := hide (hs.below hb)
      clear hkx
      by_cases he : (one p x).2 = 0
      · have c1 : ((one p x).2 != 0) = false := by simpa using he
        have HE := hide he
        clear he
        go_wp2_with (go_at_call 58; refine (hcl.out _ hPr.out hQr.out hsr.out).mono ?_; rintro e w2 ⟨rfl, hg⟩; (have HO2 := hide (Out.below ho.out hg)); (obtain ⟨v, hv⟩ := HO2.out.2.1 k hlt); (have hfz := HO2.out.2.2.2 k))
        have hHO := HO2.out
        go_roundw
        case rel => exact ⟨k + 1, ys ++ [(one p x).1], by omega, by go_num, (by show _ = _; rw [take_succ_getD (by have := HN.out; omega), hxk.out]; exact mapE_step hm.out HE.out), (by show _ = _; simp [hy.out]),
          (by have := Out.set HO2.out (by rw [hy.out]; exact hlt) (one p x).1; rw [hy.out] at this; exact this), (hb.trans (hg.mono hb.size)).setCell (by simp) _,
          (World.cell?_setCell_other _ _ _ _ (by simp)).trans ((hg.cell (p := ⟨w.heap.size, 1, none⟩) (block_lt_of_cell hbox)).trans hbox)⟩
        case measure => simp [intOf]; omega
      · have c1 : ((one p x).2 != 0) = true := by simpa using he
        have HE : Hid ((mapE (one p) xs).1 = (one p x).2) := by
          show _ = _
          have := mapE_err (r := xs.drop (k + 1)) hm.out he
          rw [← hxk.out, ← take_split (by have := HN.out; omega)] at this
          rw [← hxk.out]; exact this
        have HE2 := hide he
        clear he
        go_wp2_with (go_at_call 58; refine (hcl.out _ hPr.out hQr.out hsr.out).mono ?_; rintro e w2 ⟨rfl, hg⟩)
        exact ⟨rfl, hb.trans (hg.mono hb.size), Or.inr ⟨by rw [HE.out]; exact HE2.out, by rw [HE.out]⟩⟩
    · have HE : Hid (mapE (one p) xs = (0, ys)) := by
        have e := hm.out
        rw [List.take_of_length_le (by have := HN.out; omega)] at e
        exact e
      go_wp2
      go_ret
      refine ⟨hb, Or.inl ⟨by rw [HE.out], w.heap.size + 1, rfl, by omega, ?_⟩⟩
      rw [HE.out]; exact ho.out
theorem all_one_ok (p : Int) (xs : List Int) (A : Option Addr) (c P Q : Nat) (hx : ∀ x ∈ xs, Fits x) (w : World) (hl : xs.length ≤ 100000) (hP : w.cell? ⟨P, 0, none⟩ = some (.int .i64 p))
    (hQ : w.cell? ⟨Q, 4, none⟩ = some (.slice A xs.length c)) (hs : Sl w A xs) (ys : List Int) (hm : mapE (one p) xs = (0, ys)) :
    Calls Tryz.prog 60 #[.agg #[.int .i64 xs.length, .func (.func 58) #[] #[.pointer (some ⟨P, 0, none⟩), .pointer (some ⟨Q, 0, none⟩)]]] w fun e w' => Below w.heap.size w w' ∧ ∃ g, e = .returned (.slice (some ⟨g, 0, none⟩) xs.length xs.length) ∧ w.heap.size ≤ g ∧ Out w' g xs.length ys := by
  refine (all_one p xs A c P Q hx w hl hP hQ hs).mono ?_
  rw [hm]
  rintro e w' ⟨hb, ⟨_, g, h1, h2, h3⟩ | ⟨h0, _⟩⟩
  · exact ⟨hb, g, h1, h2, h3⟩
  · exact absurd rfl h0
theorem all_one_err (p : Int) (xs : List Int) (A : Option Addr) (c P Q : Nat) (hx : ∀ x ∈ xs, Fits x) (w : World) (hl : xs.length ≤ 100000) (hP : w.cell? ⟨P, 0, none⟩ = some (.int .i64 p))
    (hQ : w.cell? ⟨Q, 4, none⟩ = some (.slice A xs.length c)) (hs : Sl w A xs) (er : Int) (hm : (mapE (one p) xs).1 = er) (h0 : er ≠ 0) :
    Calls Tryz.prog 60 #[.agg #[.int .i64 xs.length, .func (.func 58) #[] #[.pointer (some ⟨P, 0, none⟩), .pointer (some ⟨Q, 0, none⟩)]]] w fun e w' => Below w.heap.size w w' ∧ e = .panicked [{ v := wrongV er, recovered := false }] := by
  refine (all_one p xs A c P Q hx w hl hP hQ hs).mono ?_
  rintro e w' ⟨hb, ⟨h1, _⟩ | ⟨_, h1⟩⟩
  · exact absurd (hm.symm.trans h1) h0
  · rw [hm] at h1; exact ⟨hb, h1⟩
end Ar
end Go.Proofs.YtaelfhjdmljblaaGreatDoor
/-
extend.One: its contract (chapter 10).
-/
set_option linter.unusedSimpArgs false
set_option linter.unusedVariables false
namespace Go.Proofs.YtaelfhjdmljblaaGreatDoor
namespace Ar
open Go.RowKit Sc

/-- what a function hands back that answers an array and an error: the array's cells lie in a new block -/
def ArrRet (w : World) (r : Int × Arr) (e : Ending) (w' : World) : Prop :=
  Below w.heap.size w w' ∧ ∃ (A : Option Addr) (c : Nat), e = .returned (.tuple #[.agg #[.int .i64 r.2.k, .int .i64 r.2.r, .int .i64 r.2.l0, .int .i64 r.2.l1, .slice A r.2.xs.length c], .int .i64 r.1]) ∧ Sl w' A r.2.xs ∧ (∀ g o, A = some ⟨g, o, none⟩ → w.heap.size ≤ g) ∧ r.2.xs.length ≤ c
theorem bl_set {a b : World} (h : Below a.heap.size a b) {q : Addr} (hq : a.heap.size ≤ q.block) (u : Value) : Below a.heap.size a (b.setCell q u) := h.setCell hq u
theorem Out.far {w : World} {g n : Nat} {ys : List Int} (h : Out w g n ys) {q : Addr} (hq : q.block ≠ g) (u : Value) : Out (w.setCell q u) g n ys :=
  ⟨by simpa [World.setCell] using h.1, fun j hj => (h.2.1 j hj).imp fun v hv => (World.cell?_setCell_other _ _ _ _ (fun e => hq (congrArg Addr.block e))).trans hv,
    fun j hj => (World.cell?_setCell_other _ _ _ _ (fun e => hq (congrArg Addr.block e))).trans (h.2.2.1 j hj), fun j => (World.frozen?_setCell _ _ _ _).trans (h.2.2.2 j)⟩
theorem arr_zero {w w' : World} (er : Int) (hb : Below w.heap.size w w') :
    ArrRet w (er, .zero) (.returned (.tuple #[.agg #[.int .i64 0, .int .i64 0, .int .i64 0, .int .i64 0, .slice none 0 0], .int .i64 er])) w' :=
  ⟨hb, none, 0, rfl, Sl.nil _ _, (fun _ _ h => by cases h), Nat.le_refl _⟩
theorem one_arity (p : Int) (a : Arr) (A : Option Addr) (c : Nat) (h : arity p ≠ (1, 0)) (w : World) :
    Calls Tryz.prog 39 #[.int .i64 p, .agg #[.int .i64 a.k, .int .i64 a.r, .int .i64 a.l0, .int .i64 a.l1, .slice A a.xs.length c]] w fun e w' => ArrRet w (2, .zero) e w' := by
  obtain ⟨h1, h2⟩ | ⟨h1, h2⟩ : (arity p = (2, 0) ∧ True) ∨ (arity p = (0, 2) ∧ True) := by
    unfold arity at h ⊢
    by_cases a : 1 ≤ p ∧ p ≤ 3
    · rw [if_pos a] at h; exact absurd rfl h
    · by_cases b : 15 ≤ p ∧ p ≤ 32
      · left; exact ⟨by rw [if_neg a, if_pos b], trivial⟩
      · right; exact ⟨by rw [if_neg a, if_neg b], trivial⟩
  all_goals
    clear h h2
    go_enter_defers Tryz.func39, Tryz.ntmps39
    go_wp2_with (go_at_call 56; refine (arity_any p _).mono ?_; rw [h1]; rintro e w' ⟨rfl, hg⟩; obtain ⟨hc, hf, hz⟩ := bcell hg)
    simp [bodyPostD, Leaves, settle, results, Tryz.results39, go_sem, hc]
    exact arr_zero _ (by (repeat (first | with_reducible exact Below.refl _ _ | with_reducible assumption | (with_reducible refine bl_set ?_ (by simp; try omega) _) | (with_reducible refine bl_alloc ?_ _) | (with_reducible refine bl_dn ?_ _) | (with_reducible refine bl_drew ?_) | (with_reducible refine bl_then ?_ (by with_reducible assumption)))))
theorem one_check (p : Int) (a : Arr) (A : Option Addr) (c : Nat) (hl : a.xs.length ≤ 9223372036854775807) (f0 : Fits a.l0) (f1 : Fits a.l1) (h : arity p = (1, 0)) (h2 : chk a ≠ 0) (w : World) (hs : Sl w A a.xs) :
    Calls Tryz.prog 39 #[.int .i64 p, .agg #[.int .i64 a.k, .int .i64 a.r, .int .i64 a.l0, .int .i64 a.l1, .slice A a.xs.length c]] w fun e w' => ArrRet w (chk a, .zero) e w' := by
  have n1 : (chk a != 0) = true := by simpa using h2
  clear h2
  have H := hide h
  clear h
  go_enter_defers Tryz.func39, Tryz.ntmps39
  go_wp2_with (first | (go_at_call 56; refine (arity_any p _).mono ?_; rw [H.out]; rintro e w1 ⟨rfl, hg⟩; obtain ⟨hc, hf, hz⟩ := bcell hg; (have zw10 : w.heap.size < w1.heap.size := by have := hg.size; simp at this; omega); (have zw11 : w.heap.size + 1 < w1.heap.size := by have := hg.size; simp at this; omega); (have zw12 : w.heap.size + 1 + 1 < w1.heap.size := by have := hg.size; simp at this; omega); (have zw13 : w.heap.size + 1 + 1 + 1 < w1.heap.size := by have := hg.size; simp at this; omega)) | (go_at_call 38; refine (ac_any a A c hl f0 f1 _ (hs.below (by (repeat (first | with_reducible exact Below.refl _ _ | with_reducible assumption | (with_reducible refine bl_set ?_ (by simp; try omega) _) | (with_reducible refine bl_alloc ?_ _) | (with_reducible refine bl_dn ?_ _) | (with_reducible refine bl_drew ?_) | (with_reducible refine bl_then ?_ (by with_reducible assumption))))))).mono ?_; rintro e w2 ⟨rfl, hg2⟩; obtain ⟨hc2, hf2, hz2⟩ := bcell hg2; (have zw20 : w.heap.size < w2.heap.size := by have := Nat.le_trans hg.size hg2.size; simp at this; omega); (have zw21 : w.heap.size + 1 < w2.heap.size := by have := Nat.le_trans hg.size hg2.size; simp at this; omega); (have zw22 : w.heap.size + 1 + 1 < w2.heap.size := by have := Nat.le_trans hg.size hg2.size; simp at this; omega); (have zw23 : w.heap.size + 1 + 1 + 1 < w2.heap.size := by have := Nat.le_trans hg.size hg2.size; simp at this; omega)))
  simp [bodyPostD, Leaves, settle, results, Tryz.results39, go_sem, hc, hc2, zw12, zw13, zw22, zw23]
  exact arr_zero _ (by (repeat (first | with_reducible exact Below.refl _ _ | with_reducible assumption | (with_reducible refine bl_set ?_ (by simp; try omega) _) | (with_reducible refine bl_alloc ?_ _) | (with_reducible refine bl_dn ?_ _) | (with_reducible refine bl_drew ?_) | (with_reducible refine bl_then ?_ (by with_reducible assumption)))))
theorem one_kind (p : Int) (a : Arr) (A : Option Addr) (c : Nat) (hl : a.xs.length ≤ 9223372036854775807) (f0 : Fits a.l0) (f1 : Fits a.l1) (h : arity p = (1, 0)) (h2 : chk a = 0) (h3 : a.k ≠ 1) (w : World) (hs : Sl w A a.xs) :
    Calls Tryz.prog 39 #[.int .i64 p, .agg #[.int .i64 a.k, .int .i64 a.r, .int .i64 a.l0, .int .i64 a.l1, .slice A a.xs.length c]] w fun e w' => ArrRet w (21, .zero) e w' := by
  have n1 : (a.k != 1) = true := by simpa using h3
  have HC := hide h2
  have H := hide h
  clear h h2 h3
  go_enter_defers Tryz.func39, Tryz.ntmps39
  go_wp2_with (first | (go_at_call 56; refine (arity_any p _).mono ?_; rw [H.out]; rintro e w1 ⟨rfl, hg⟩; obtain ⟨hc, hf, hz⟩ := bcell hg; (have zw10 : w.heap.size < w1.heap.size := by have := hg.size; simp at this; omega); (have zw11 : w.heap.size + 1 < w1.heap.size := by have := hg.size; simp at this; omega); (have zw12 : w.heap.size + 1 + 1 < w1.heap.size := by have := hg.size; simp at this; omega); (have zw13 : w.heap.size + 1 + 1 + 1 < w1.heap.size := by have := hg.size; simp at this; omega)) | (go_at_call 38; refine (ac_any a A c hl f0 f1 _ (hs.below (by (repeat (first | with_reducible exact Below.refl _ _ | with_reducible assumption | (with_reducible refine bl_set ?_ (by simp; try omega) _) | (with_reducible refine bl_alloc ?_ _) | (with_reducible refine bl_dn ?_ _) | (with_reducible refine bl_drew ?_) | (with_reducible refine bl_then ?_ (by with_reducible assumption))))))).mono ?_; rw [HC.out]; rintro e w2 ⟨rfl, hg2⟩; obtain ⟨hc2, hf2, hz2⟩ := bcell hg2; (have zw20 : w.heap.size < w2.heap.size := by have := Nat.le_trans hg.size hg2.size; simp at this; omega); (have zw21 : w.heap.size + 1 < w2.heap.size := by have := Nat.le_trans hg.size hg2.size; simp at this; omega); (have zw22 : w.heap.size + 1 + 1 < w2.heap.size := by have := Nat.le_trans hg.size hg2.size; simp at this; omega); (have zw23 : w.heap.size + 1 + 1 + 1 < w2.heap.size := by have := Nat.le_trans hg.size hg2.size; simp at this; omega)))
  simp [bodyPostD, Leaves, settle, results, Tryz.results39, go_sem, hc, hc2, zw12, zw13, zw22, zw23]
  exact arr_zero _ (by (repeat (first | with_reducible exact Below.refl _ _ | with_reducible assumption | (with_reducible refine bl_set ?_ (by simp; try omega) _) | (with_reducible refine bl_alloc ?_ _) | (with_reducible refine bl_dn ?_ _) | (with_reducible refine bl_drew ?_) | (with_reducible refine bl_then ?_ (by with_reducible assumption)))))
theorem one_run (p : Int) (a : Arr) (A : Option Addr) (c : Nat) (hl : a.xs.length ≤ 100000) (f0 : Fits a.l0) (f1 : Fits a.l1) (hx : ∀ x ∈ a.xs, Fits x) (h : arity p = (1, 0)) (h2 : chk a = 0) (h3 : a.k = 1) (ys : List Int) (hm : mapE (one p) a.xs = (0, ys)) (w : World) (hs : Sl w A a.xs) :
    Calls Tryz.prog 39 #[.int .i64 p, .agg #[.int .i64 a.k, .int .i64 a.r, .int .i64 a.l0, .int .i64 a.l1, .slice A a.xs.length c]] w fun e w' => ArrRet w (0, ⟨1, a.r, a.l0, a.l1, ys⟩) e w' := by
  have n1 : (a.k != 1) = false := by rw [h3]; rfl
  have HC := hide h2
  have H := hide h
  have HM := hide hm
  have HX := hide hx
  have hl' := hide hl
  clear h h2 h3 hm hx
  have hl : a.xs.length ≤ 9223372036854775807 := by omega
  have hmf : ∀ (fn : Fn) (first cap : Array Value) (w : World), (Instr.makeFunc fn first cap).run Tryz.prog w = .ok (.func fn first cap) w := fun _ _ _ _ => rfl
  go_enter_defers Tryz.func39, Tryz.ntmps39
  go_wp2_with (first | (go_at_call 56; refine (arity_any p _).mono ?_; rw [H.out]; rintro e w1 ⟨rfl, hg⟩; obtain ⟨hc, hf, hz⟩ := bcell hg; (have zw10 : w.heap.size < w1.heap.size := by have := hg.size; simp at this; omega); (have zw11 : w.heap.size + 1 < w1.heap.size := by have := hg.size; simp at this; omega); (have zw12 : w.heap.size + 1 + 1 < w1.heap.size := by have := hg.size; simp at this; omega); (have zw13 : w.heap.size + 1 + 1 + 1 < w1.heap.size := by have := hg.size; simp at this; omega)) | (go_at_call 38; refine (ac_any a A c hl f0 f1 _ (hs.below (by (repeat (first | with_reducible exact Below.refl _ _ | with_reducible assumption | (with_reducible refine bl_set ?_ (by simp; try omega) _) | (with_reducible refine bl_alloc ?_ _) | (with_reducible refine bl_dn ?_ _) | (with_reducible refine bl_drew ?_) | (with_reducible refine bl_then ?_ (by with_reducible assumption))))))).mono ?_; rw [HC.out]; rintro e w2 ⟨rfl, hg2⟩; obtain ⟨hc2, hf2, hz2⟩ := bcell hg2; (have zw20 : w.heap.size < w2.heap.size := by have := Nat.le_trans hg.size hg2.size; simp at this; omega); (have zw21 : w.heap.size + 1 < w2.heap.size := by have := Nat.le_trans hg.size hg2.size; simp at this; omega); (have zw22 : w.heap.size + 1 + 1 < w2.heap.size := by have := Nat.le_trans hg.size hg2.size; simp at this; omega); (have zw23 : w.heap.size + 1 + 1 + 1 < w2.heap.size := by have := Nat.le_trans hg.size hg2.size; simp at this; omega)))
  have hP3 := hide (show (w2.alloc (.cells #[.int .i64 a.xs.length, .func (.func 58) #[] #[.pointer (some ⟨w.heap.size, 0, none⟩), .pointer (some ⟨w.heap.size + 1, 0, none⟩)]] 89)).cell? ⟨w.heap.size, 0, none⟩ = some (.int .i64 p) by simp [go_sem, hc, hc2, zw10, zw20])
  have hQ3 := hide (show (w2.alloc (.cells #[.int .i64 a.xs.length, .func (.func 58) #[] #[.pointer (some ⟨w.heap.size, 0, none⟩), .pointer (some ⟨w.heap.size + 1, 0, none⟩)]] 89)).cell? ⟨w.heap.size + 1, 4, none⟩ = some (.slice A a.xs.length c) by simp [go_sem, hc, hc2, zw11, zw21])
  have hS3 := hide (show Sl (w2.alloc (.cells #[.int .i64 a.xs.length, .func (.func 58) #[] #[.pointer (some ⟨w.heap.size, 0, none⟩), .pointer (some ⟨w.heap.size + 1, 0, none⟩)]] 89)) A a.xs from hs.below (by (repeat (first | with_reducible exact Below.refl _ _ | with_reducible assumption | (with_reducible refine bl_set ?_ (by simp; try omega) _) | (with_reducible refine bl_alloc ?_ _) | (with_reducible refine bl_dn ?_ _) | (with_reducible refine bl_drew ?_) | (with_reducible refine bl_then ?_ (by with_reducible assumption))))))
  go_region_held3 (fun w' => w'.cell? ⟨w.heap.size + 1, 1, none⟩ = some (.int .i64 a.r) ∧ w'.cell? ⟨w.heap.size + 1, 2, none⟩ = some (.int .i64 a.l0) ∧ w'.cell? ⟨w.heap.size + 1, 3, none⟩ = some (.int .i64 a.l1) ∧
      w'.cell? ⟨w2.heap.size, 0, none⟩ = some (.int .i64 a.xs.length) ∧ w'.cell? ⟨w2.heap.size, 1, none⟩ = some (.func (.func 58) #[] #[.pointer (some ⟨w.heap.size, 0, none⟩), .pointer (some ⟨w.heap.size + 1, 0, none⟩)]))
    (simp [go_sem, *]) ((go_at_call 60; refine (all_one_ok p a.xs A c w.heap.size (w.heap.size + 1) HX.out _ hl'.out (by exact hP3.out) (by exact hQ3.out) (by exact hS3.out) ys HM.out).mono ?_; rintro e w4 ⟨hg4, g, rfl, hgg, ho⟩; (have hc4 : ∀ b o, b < w2.heap.size + 1 → w4.cell? ⟨b, o, none⟩ = (w2.alloc (.cells #[.int .i64 a.xs.length, .func (.func 58) #[] #[.pointer (some ⟨w.heap.size, 0, none⟩), .pointer (some ⟨w.heap.size + 1, 0, none⟩)]] 89)).cell? ⟨b, o, none⟩ := fun b o h => hg4.cell (p := ⟨b, o, none⟩) (by simpa using h)); (have hf4 : ∀ b o, b < w2.heap.size + 1 → w4.frozen? ⟨b, o, none⟩ = (w2.alloc (.cells #[.int .i64 a.xs.length, .func (.func 58) #[] #[.pointer (some ⟨w.heap.size, 0, none⟩), .pointer (some ⟨w.heap.size + 1, 0, none⟩)]] 89)).frozen? ⟨b, o, none⟩ := fun b o h => hg4.frozen (p := ⟨b, o, none⟩) (by simpa using h)); (have ho := hide ho)))
  go_wp2
  refine leaves_cons (f := 57) (args := #[.pointer (some ⟨w.heap.size + 1 + 1, 0, none⟩), .pointer (some ⟨w.heap.size + 1 + 1 + 1, 0, none⟩)]) (by simp) (by simp [go_sem]) ?_
  refine (caught_idle _ _ _).mono ?_
  rintro e u' w'' ⟨rfl, rfl, rfl⟩
  have zw42 : w.heap.size + 1 + 1 < w2.heap.size + 1 := by omega
  have zw43 : w.heap.size + 1 + 1 + 1 < w2.heap.size + 1 := by omega
  simp [Leaves, settle, results, Tryz.results39, go_sem, hc, hc2, hc4, zw12, zw13, zw22, zw23, zw42, zw43]
  have hlen := mapE_len HM.out
  have hgg' : w2.heap.size + 1 ≤ g := by have := hgg; simp at this; exact this
  refine ⟨by (repeat (first | with_reducible exact Below.refl _ _ | with_reducible assumption | (with_reducible refine bl_set ?_ (by simp; try omega) _) | (with_reducible refine bl_alloc ?_ _) | (with_reducible refine bl_dn ?_ _) | (with_reducible refine bl_drew ?_) | (with_reducible refine bl_then ?_ (by with_reducible assumption)))), some ⟨g, 0, none⟩, a.xs.length, by show _ = Ending.returned (.tuple #[.agg #[_, _, _, _, .slice _ ys.length _], _]); rw [hlen], ?_, ?_, Nat.le_of_eq hlen⟩
  · have := ((((((ho.out.far (q := ⟨w.heap.size + 1 + 1, 0, none⟩) (by simp; omega) (.int .i64 1)).far (q := ⟨w.heap.size + 1 + 1, 1, none⟩) (by simp; omega) (.int .i64 a.r)).far (q := ⟨w.heap.size + 1 + 1, 2, none⟩) (by simp; omega) (.int .i64 a.l0)).far (q := ⟨w.heap.size + 1 + 1, 3, none⟩) (by simp; omega) (.int .i64 a.l1)).far (q := ⟨w.heap.size + 1 + 1, 4, none⟩) (by simp; omega) (.slice (some ⟨g, 0, none⟩) a.xs.length a.xs.length)).far (q := ⟨w.heap.size + 1 + 1 + 1, 0, none⟩) (by simp; omega) (.int .i64 0))
    rw [← hlen] at this
    have := this.sl
    rw [hlen] at this
    exact this
  · intro g' o' h
    injection h with h
    injection h with h1 h2 h3
    subst h1
    omega
end Ar
end Go.Proofs.YtaelfhjdmljblaaGreatDoor
/-
extend.One where a cell has an error: its contract (chapter 10).
-/
set_option linter.unusedSimpArgs false
set_option linter.unusedVariables false
namespace Go.Proofs.YtaelfhjdmljblaaGreatDoor
namespace Ar
open Go.RowKit Sc

/-- what is known where a region ends in a panic: the deferred calls, and two slots -/
def PanicPost (D : List Deferred) (x y : Nat) (p q : Value) (er : Int) (W : World) : Exit → Act → World → Prop
  | .panic c, a, w => c = [{ v := wrongV er, recovered := false }] ∧ a.defers = D ∧ a.tmps.getD x undef = p ∧ a.tmps.getD y undef = q ∧ Below W.heap.size W w
  | _, _, _ => False
theorem put_getD {T : Array Value} {d x : Nat} (v : Value) (h : d ≠ x) : (T.setIfInBounds d v).getD x undef = T.getD x undef := by
  simp [Array.getD_eq_getD_getElem?, Array.getElem?_setIfInBounds, h]
theorem PanicPost.put {D : List Deferred} {x y : Nat} {p q : Value} {er : Int} {W : World} {c : List PanicEntry} {a : Act} {d : Nat} {v : Value} {w : World} (hx : d ≠ x) (hy : d ≠ y)
    (h : PanicPost D x y p q er W (.panic c) (a.put (some d) v) w) : PanicPost D x y p q er W (.panic c) a w := by
  obtain ⟨h1, h2, h3, h4, h5⟩ := h
  exact ⟨h1, h2, (put_getD v hx).symm.trans h3, (put_getD v hy).symm.trans h4, h5⟩

/-- the object that does something with cells -/
abbrev oneObj (n : Nat) (P Q : Nat) : Obj := .cells #[.int .i64 n, .func (.func 58) #[] #[.pointer (some ⟨P, 0, none⟩), .pointer (some ⟨Q, 0, none⟩)]] 89

set_option maxRecDepth 100000 in
theorem one_fail (p : Int) (a : Arr) (A : Option Addr) (c : Nat) (hl : a.xs.length ≤ 100000) (f0 : Fits a.l0) (f1 : Fits a.l1) (hx : ∀ x ∈ a.xs, Fits x) (h : arity p = (1, 0)) (h2 : chk a = 0) (h3 : a.k = 1) (er : Int) (hm : (mapE (one p) a.xs).1 = er) (her : er ≠ 0) (w : World) (hs : Sl w A a.xs) :
    Calls Tryz.prog 39 #[.int .i64 p, .agg #[.int .i64 a.k, .int .i64 a.r, .int .i64 a.l0, .int .i64 a.l1, .slice A a.xs.length c]] w fun e w' => ArrRet w (er, .zero) e w' := by
  have n1 : (a.k != 1) = false := by rw [h3]; rfl
  have HC := hide h2
  have H := hide h
  have HM := hide hm
  have HX := hide hx
  have hl' := hide hl
  have HER := hide her
  clear h h2 h3 hm hx her
  have hl : a.xs.length ≤ 9223372036854775807 := by omega
  have hmf : ∀ (fn : Fn) (first cap : Array Value) (w : World), (Instr.makeFunc fn first cap).run Tryz.prog w = .ok (.func fn first cap) w := fun _ _ _ _ => rfl
  go_enter_defers Tryz.func39, Tryz.ntmps39
  go_wp2_with (first | (go_at_call 56; refine (arity_any p _).mono ?_; rw [H.out]; rintro e w1 ⟨rfl, hg⟩; obtain ⟨hc, hf, hz⟩ := bcell hg; (have zw10 : w.heap.size < w1.heap.size := by have := hg.size; simp at this; omega); (have zw11 : w.heap.size + 1 < w1.heap.size := by have := hg.size; simp at this; omega); (have zw12 : w.heap.size + 1 + 1 < w1.heap.size := by have := hg.size; simp at this; omega); (have zw13 : w.heap.size + 1 + 1 + 1 < w1.heap.size := by have := hg.size; simp at this; omega)) | (go_at_call 38; refine (ac_any a A c hl f0 f1 _ (hs.below (by (repeat (first | with_reducible exact Below.refl _ _ | with_reducible assumption | (with_reducible refine bl_set ?_ (by simp; try omega) _) | (with_reducible refine bl_alloc ?_ _) | (with_reducible refine bl_dn ?_ _) | (with_reducible refine bl_drew ?_) | (with_reducible refine bl_then ?_ (by with_reducible assumption))))))).mono ?_; rw [HC.out]; rintro e w2 ⟨rfl, hg2⟩; obtain ⟨hc2, hf2, hz2⟩ := bcell hg2; (have zw20 : w.heap.size < w2.heap.size := by have := Nat.le_trans hg.size hg2.size; simp at this; omega); (have zw21 : w.heap.size + 1 < w2.heap.size := by have := Nat.le_trans hg.size hg2.size; simp at this; omega); (have zw22 : w.heap.size + 1 + 1 < w2.heap.size := by have := Nat.le_trans hg.size hg2.size; simp at this; omega); (have zw23 : w.heap.size + 1 + 1 + 1 < w2.heap.size := by have := Nat.le_trans hg.size hg2.size; simp at this; omega)))
  have hP3 : Hid ((w2.alloc (oneObj a.xs.length w.heap.size (w.heap.size + 1))).cell? ⟨w.heap.size, 0, none⟩ = some (.int .i64 p)) := by show _ = _; simp [go_sem, hc, hc2, zw10, zw20]
  have hQ3 : Hid ((w2.alloc (oneObj a.xs.length w.heap.size (w.heap.size + 1))).cell? ⟨w.heap.size + 1, 4, none⟩ = some (.slice A a.xs.length c)) := by show _ = _; simp [go_sem, hc, hc2, zw11, zw21]
  have hS3 := hide (show Sl (w2.alloc (oneObj a.xs.length w.heap.size (w.heap.size + 1))) A a.xs from hs.below (by (repeat (first | with_reducible exact Below.refl _ _ | with_reducible assumption | (with_reducible refine bl_set ?_ (by simp; try omega) _) | (with_reducible refine bl_alloc ?_ _) | (with_reducible refine bl_dn ?_ _) | (with_reducible refine bl_drew ?_) | (with_reducible refine bl_then ?_ (by with_reducible assumption))))))
  have L1 : Hid ((w2.alloc (oneObj a.xs.length w.heap.size (w.heap.size + 1))).cell? ⟨w.heap.size + 1, 1, none⟩ = some (.int .i64 a.r)) := by show _ = _; simp [go_sem, hc, hc2, zw11, zw21]
  have L2 : Hid ((w2.alloc (oneObj a.xs.length w.heap.size (w.heap.size + 1))).cell? ⟨w.heap.size + 1, 2, none⟩ = some (.int .i64 a.l0)) := by show _ = _; simp [go_sem, hc, hc2, zw11, zw21]
  have L3 : Hid ((w2.alloc (oneObj a.xs.length w.heap.size (w.heap.size + 1))).cell? ⟨w.heap.size + 1, 3, none⟩ = some (.int .i64 a.l1)) := by show _ = _; simp [go_sem, hc, hc2, zw11, zw21]
  have L4 : Hid ((w2.alloc (oneObj a.xs.length w.heap.size (w.heap.size + 1))).cell? ⟨w2.heap.size, 0, none⟩ = some (.int .i64 a.xs.length)) := by show _ = _; simp [go_sem]
  have L5 : Hid ((w2.alloc (oneObj a.xs.length w.heap.size (w.heap.size + 1))).cell? ⟨w2.heap.size, 1, none⟩ = some (.func (.func 58) #[] #[.pointer (some ⟨w.heap.size, 0, none⟩), .pointer (some ⟨w.heap.size + 1, 0, none⟩)])) := by show _ = _; simp [go_sem]
  have R0 : Hid ((w2.alloc (oneObj a.xs.length w.heap.size (w.heap.size + 1))).cell? ⟨w.heap.size + 1 + 1, 0, none⟩ = some (.int .i64 0)) := by show _ = _; simp [go_sem, hc, hc2, zw12, zw22]
  have R1 : Hid ((w2.alloc (oneObj a.xs.length w.heap.size (w.heap.size + 1))).cell? ⟨w.heap.size + 1 + 1, 1, none⟩ = some (.int .i64 0)) := by show _ = _; simp [go_sem, hc, hc2, zw12, zw22]
  have R2 : Hid ((w2.alloc (oneObj a.xs.length w.heap.size (w.heap.size + 1))).cell? ⟨w.heap.size + 1 + 1, 2, none⟩ = some (.int .i64 0)) := by show _ = _; simp [go_sem, hc, hc2, zw12, zw22]
  have R3 : Hid ((w2.alloc (oneObj a.xs.length w.heap.size (w.heap.size + 1))).cell? ⟨w.heap.size + 1 + 1, 3, none⟩ = some (.int .i64 0)) := by show _ = _; simp [go_sem, hc, hc2, zw12, zw22]
  have R4 : Hid ((w2.alloc (oneObj a.xs.length w.heap.size (w.heap.size + 1))).cell? ⟨w.heap.size + 1 + 1, 4, none⟩ = some (.slice none 0 0)) := by show _ = _; simp [go_sem, hc, hc2, zw12, zw22]
  have RE : Hid ((w2.alloc (oneObj a.xs.length w.heap.size (w.heap.size + 1))).cell? ⟨w.heap.size + 1 + 1 + 1, 0, none⟩ = some (.int .i64 0)) := by show _ = _; simp [go_sem, hc, hc2, zw13, zw23]
  have FA : Hid (∀ i, (w2.alloc (oneObj a.xs.length w.heap.size (w.heap.size + 1))).frozen? ⟨w.heap.size + 1 + 1, i, none⟩ = false) := by show ∀ i, _ = _; intro i; simp [go_sem, hf, hf2, zw12, zw22]
  have FE : Hid ((w2.alloc (oneObj a.xs.length w.heap.size (w.heap.size + 1))).frozen? ⟨w.heap.size + 1 + 1 + 1, 0, none⟩ = false) := by show _ = _; simp [go_sem, hf, hf2, zw13, zw23]
  have zw32 : w.heap.size + 1 + 1 < (w2.alloc (oneObj a.xs.length w.heap.size (w.heap.size + 1))).heap.size := by simp; omega
  have zw33 : w.heap.size + 1 + 1 + 1 < (w2.alloc (oneObj a.xs.length w.heap.size (w.heap.size + 1))).heap.size := by simp; omega
  have hb3 : Below w.heap.size w (w2.alloc (oneObj a.xs.length w.heap.size (w.heap.size + 1))) := by (repeat (first | with_reducible exact Below.refl _ _ | with_reducible assumption | (with_reducible refine bl_set ?_ (by simp; try omega) _) | (with_reducible refine bl_alloc ?_ _) | (with_reducible refine bl_dn ?_ _) | (with_reducible refine bl_drew ?_) | (with_reducible refine bl_then ?_ (by with_reducible assumption))))
  clear hc hf hc2 hf2 hmf
  change Code.wp _ _ _ _ (w2.alloc (oneObj a.xs.length w.heap.size (w.heap.size + 1)))
  generalize (w2.alloc (oneObj a.xs.length w.heap.size (w.heap.size + 1))) = W3 at *
  have l1 := L1.out; have l2 := L2.out; have l3 := L3.out; have l4 := L4.out; have l5 := L5.out
  refine Code.wp_mono (Q := PanicPost [{ target := Target.fn (.func 57) #[], args := #[.pointer (some ⟨w.heap.size + 1 + 1, 0, none⟩), .pointer (some ⟨w.heap.size + 1 + 1 + 1, 0, none⟩)] }] 4 5 (.pointer (some ⟨w.heap.size + 1 + 1, 0, none⟩)) (.pointer (some ⟨w.heap.size + 1 + 1 + 1, 0, none⟩)) er W3) ?_ ?_
  · rintro e a' w4 hp
    cases e <;> first | exact absurd hp id | skip
    obtain ⟨rfl, hD, h4, h5, hg4⟩ := hp
    show Leaves _ _ _ _ _ _ _
    rw [hD]
    refine leaves_cons (f := 57) (args := #[.pointer (some ⟨w.heap.size + 1 + 1, 0, none⟩), .pointer (some ⟨w.heap.size + 1 + 1 + 1, 0, none⟩)]) (by simp) (by simp [go_sem]) ?_
    have hcell : ∀ b o, b < W3.heap.size → w4.cell? ⟨b, o, none⟩ = W3.cell? ⟨b, o, none⟩ := fun b o h => hg4.cell (p := ⟨b, o, none⟩) h
    have hfroz : ∀ b o, b < W3.heap.size → w4.frozen? ⟨b, o, none⟩ = W3.frozen? ⟨b, o, none⟩ := fun b o h => hg4.frozen (p := ⟨b, o, none⟩) h
    have hsz : W3.heap.size ≤ w4.heap.size := hg4.size
    refine (caught_panicking (w.heap.size + 1 + 1) (w.heap.size + 1 + 1 + 1) er _ _ _ _ _ _ [] w4 (by omega) (by omega) (by omega) ((hcell _ _ zw32).trans R0.out) ((hcell _ _ zw32).trans R1.out) ((hcell _ _ zw32).trans R2.out) ((hcell _ _ zw32).trans R3.out) ((hcell _ _ zw32).trans R4.out) ((hcell _ _ zw33).trans RE.out) (fun i => (hfroz _ _ zw32).trans (FA.out i)) ((hfroz _ _ zw33).trans FE.out)).mono ?_
    rintro e u' w'' ⟨rfl, rfl, rfl⟩
    have z0 := (hcell _ _ zw32).trans R0.out
    have z1 := (hcell _ _ zw32).trans R1.out
    have z2 := (hcell _ _ zw32).trans R2.out
    have z3 := (hcell _ _ zw32).trans R3.out
    have z4 := (hcell _ _ zw32).trans R4.out
    have ze := (hcell _ _ zw33).trans RE.out
    have zs : w.heap.size + 1 + 1 < w4.heap.size := by omega
    have zt : w.heap.size + 1 + 1 + 1 < w4.heap.size := by omega
    unfold caughtW
    rw [Array.getD_eq_getD_getElem?] at h4 h5
    simp [Leaves, settle, results, Tryz.results39, h4, h5, go_sem, z0, z1, z2, z3, z4, ze, zs, zt]
    exact arr_zero _ (by have hb4 : Below w.heap.size w w4 := bl_then hb3 hg4; (repeat (first | with_reducible exact Below.refl _ _ | with_reducible assumption | (with_reducible refine bl_set ?_ (by simp; try omega) _) | (with_reducible refine bl_alloc ?_ _) | (with_reducible refine bl_dn ?_ _) | (with_reducible refine bl_drew ?_) | (with_reducible refine bl_then ?_ (by with_reducible assumption)))))
  refine wp_region_held_drew (S := fun w' => w'.cell? ⟨w.heap.size + 1, 1, none⟩ = some (.int .i64 a.r) ∧ w'.cell? ⟨w.heap.size + 1, 2, none⟩ = some (.int .i64 a.l0) ∧ w'.cell? ⟨w.heap.size + 1, 3, none⟩ = some (.int .i64 a.l1) ∧
      w'.cell? ⟨w2.heap.size, 0, none⟩ = some (.int .i64 a.xs.length) ∧ w'.cell? ⟨w2.heap.size, 1, none⟩ = some (.func (.func 58) #[] #[.pointer (some ⟨w.heap.size, 0, none⟩), .pointer (some ⟨w.heap.size + 1, 0, none⟩)]))
    (by kernel_rfl) ⟨l1, l2, l3, l4, l5⟩ (fun hHeld => ?_)
  refine wpAnyH_take (i := 0) (v := ?_) rfl (by kernel_rfl) (by kernel_rfl) (by kernel_rfl) (fun c a w h => PanicPost.put (d := 37) (by decide) (by decide) h) (Or.inl ⟨by rfl, ?_⟩) (by assumption) ?_
  rotate_left
  · intro w hSw
    (try dsimp only at hSw)
    go_simp
    try with_reducible rfl
  simp only [Act.put, List.setIfInBounds_toArray, List.set_cons_zero, List.set_cons_succ]
  refine wpAnyH_take (i := 1) (v := ?_) rfl (by kernel_rfl) (by kernel_rfl) (by kernel_rfl) (fun c a w h => PanicPost.put (d := 38) (by decide) (by decide) h) (Or.inl ⟨by rfl, ?_⟩) (by assumption) ?_
  rotate_left
  · intro w hSw
    (try dsimp only at hSw)
    go_simp
    try with_reducible rfl
  simp only [Act.put, List.setIfInBounds_toArray, List.set_cons_zero, List.set_cons_succ]
  refine wpAnyH_take (i := 2) (v := ?_) rfl (by kernel_rfl) (by kernel_rfl) (by kernel_rfl) (fun c a w h => PanicPost.put (d := 39) (by decide) (by decide) h) (Or.inl ⟨by rfl, ?_⟩) (by assumption) ?_
  rotate_left
  · intro w hSw
    (try dsimp only at hSw)
    go_simp
    try with_reducible rfl
  simp only [Act.put, List.setIfInBounds_toArray, List.set_cons_zero, List.set_cons_succ]
  refine wpAnyH_take (i := 3) (v := ?_) rfl (by kernel_rfl) (by kernel_rfl) (by kernel_rfl) (fun c a w h => PanicPost.put (d := 40) (by decide) (by decide) h) (Or.inl ⟨by rfl, ?_⟩) (by assumption) ?_
  rotate_left
  · intro w hSw
    (try dsimp only at hSw)
    go_simp
    try with_reducible rfl
  simp only [Act.put, List.setIfInBounds_toArray, List.set_cons_zero, List.set_cons_succ]
  refine wpAnyH_take (i := 4) (v := ?_) rfl (by kernel_rfl) (by kernel_rfl) (by kernel_rfl) (fun c a w h => PanicPost.put (d := 41) (by decide) (by decide) h) (Or.inl ⟨by rfl, ?_⟩) (by assumption) ?_
  rotate_left
  · intro w hSw
    (try dsimp only at hSw)
    go_simp
    try with_reducible rfl
  simp only [Act.put, List.setIfInBounds_toArray, List.set_cons_zero, List.set_cons_succ]
  refine wpAnyH_ready (rs := [5]) (by kernel_rfl) (by simp) ?_
  refine AllReadyH.cons rfl (fun K hK => ?_) AllReadyH.nil
  go_simp
  refine (all_one_err p a.xs A c w.heap.size (w.heap.size + 1) HX.out _ hl'.out (by exact hP3.out) (by exact hQ3.out) (by exact hS3.out) er HM.out HER.out).mono ?_
  rintro e w4 ⟨hg4, rfl⟩
  exact ⟨rfl, rfl, rfl, rfl, bl_then (bl_drew (Below.refl _ _)) hg4⟩

theorem one_any (p : Int) (a : Arr) (A : Option Addr) (c : Nat) (hl : a.xs.length ≤ 100000) (f0 : Fits a.l0) (f1 : Fits a.l1) (hx : ∀ x ∈ a.xs, Fits x) (w : World) (hs : Sl w A a.xs) :
    Calls Tryz.prog 39 #[.int .i64 p, .agg #[.int .i64 a.k, .int .i64 a.r, .int .i64 a.l0, .int .i64 a.l1, .slice A a.xs.length c]] w (ArrRet w (extOne p a)) := by
  unfold extOne
  by_cases h : arity p = (1, 0)
  · rw [if_neg (by simpa using h)]
    by_cases h2 : chk a = 0
    · rw [if_neg (by simpa using h2)]
      by_cases h3 : a.k = 1
      · rw [if_neg (by simpa using h3)]
        by_cases h4 : (mapE (one p) a.xs).1 = 0
        · rw [if_neg (by simpa using h4)]
          exact one_run p a A c hl f0 f1 hx h h2 h3 _ (by rw [← h4]) w hs
        · rw [if_pos h4]
          exact one_fail p a A c hl f0 f1 hx h h2 h3 _ rfl h4 w hs
      · rw [if_pos h3]
        exact one_kind p a A c (by omega) f0 f1 h h2 h3 w hs
    · rw [if_pos h2]
      exact one_check p a A c (by omega) f0 f1 h h2 w hs
  · rw [if_pos h]
    exact one_arity p a A c h w
end Ar
end Go.Proofs.YtaelfhjdmljblaaGreatDoor
