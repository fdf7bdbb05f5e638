/-
invigilatorref10.kinds and cell: their contracts (chapter 10).
-/
import Derived.Test.YtfpnafeildigaaaArTw
import Derived.Test.YtfpnafeildigaaaArAc
set_option linter.unusedSimpArgs false
set_option linter.unusedVariables false
namespace Go.Proofs.Ytfpnafeildigaaa
namespace Ar
open Go.RowKit Sc
def kindErr (p : Int) (a b : Arr) : Int := if kindsOk p a b = true then 0 else 21
theorem kindErr_ok {p : Int} {a b : Arr} (h : kindsOk p a b = true) : kindErr p a b = 0 := if_pos h
theorem kindErr_no {p : Int} {a b : Arr} (h : kindsOk p a b = false) : kindErr p a b = 21 := if_neg (by rw [h]; simp)
theorem kinds_any (p : Int) (a b : Arr) (A B : Option Addr) (c d : Nat) (w : World) :
    Calls Try.prog 70 #[.int .i64 p, .agg #[.int .i64 a.k, .int .i64 a.r, .int .i64 a.l0, .int .i64 a.l1, .slice A a.xs.length c], .agg #[.int .i64 b.k, .int .i64 b.r, .int .i64 b.l0, .int .i64 b.l1, .slice B b.xs.length d]] w fun e w' => e = .returned (.int .i64 (kindErr p a b)) ∧ Below w.heap.size w w' := by
  by_cases h1 : a.k = 1
  · have n1 : (a.k == 1) = true := by simpa using h1
    by_cases h2 : b.k = 1
    · have n2 : (b.k == 1) = true := by simpa using h2
      have H : Hid (kindErr p a b = 0) := kindErr_ok (by unfold kindsOk; simp [h1, h2])
      clear h1 h2
      go_enter Try.func70, Try.ntmps70
      go_wp2
      go_ret
      exact ⟨by rw [H.out]; rfl, by (repeat (first | with_reducible exact Below.refl _ _ | with_reducible assumption | (with_reducible refine bl_set ?_ (by simp; try omega) _) | (with_reducible refine bl_alloc ?_ _) | (with_reducible refine bl_dn ?_ _) | (with_reducible refine bl_drew ?_) | (with_reducible refine bl_then ?_ (by with_reducible assumption))))⟩
    · have n2 : (b.k == 1) = false := by simpa using h2
      have n3 : (a.k == b.k) = false := by rw [h1]; simpa using fun e : 1 = b.k => h2 e.symm
      have H : Hid (kindErr p a b = 21) := kindErr_no (by unfold kindsOk; simp [h1, h2]; intro e; exact absurd e.symm h2)
      clear h1 h2
      go_enter Try.func70, Try.ntmps70
      go_wp2
      go_ret
      exact ⟨by rw [H.out]; rfl, by (repeat (first | with_reducible exact Below.refl _ _ | with_reducible assumption | (with_reducible refine bl_set ?_ (by simp; try omega) _) | (with_reducible refine bl_alloc ?_ _) | (with_reducible refine bl_dn ?_ _) | (with_reducible refine bl_drew ?_) | (with_reducible refine bl_then ?_ (by with_reducible assumption))))⟩
  · have n1 : (a.k == 1) = false := by simpa using h1
    by_cases h3 : a.k = b.k
    · have n3 : (a.k == b.k) = true := by simpa using h3
      by_cases h4 : p = 23
      · have n4 : (p == 23) = true := by simpa using h4
        have H : Hid (kindErr p a b = 0) := kindErr_ok (by unfold kindsOk; simp [h3, h4])
        clear h1 h3 h4
        go_enter Try.func70, Try.ntmps70
        go_wp2
        go_ret
        exact ⟨by rw [H.out]; rfl, by (repeat (first | with_reducible exact Below.refl _ _ | with_reducible assumption | (with_reducible refine bl_set ?_ (by simp; try omega) _) | (with_reducible refine bl_alloc ?_ _) | (with_reducible refine bl_dn ?_ _) | (with_reducible refine bl_drew ?_) | (with_reducible refine bl_then ?_ (by with_reducible assumption))))⟩
      · have n4 : (p == 23) = false := by simpa using h4
        by_cases h5 : p = 24
        · have n5 : (p == 24) = true := by simpa using h5
          have H : Hid (kindErr p a b = 0) := kindErr_ok (by unfold kindsOk; simp [h3, h5])
          clear h1 h3 h4 h5
          go_enter Try.func70, Try.ntmps70
          go_wp2
          go_ret
          exact ⟨by rw [H.out]; rfl, by (repeat (first | with_reducible exact Below.refl _ _ | with_reducible assumption | (with_reducible refine bl_set ?_ (by simp; try omega) _) | (with_reducible refine bl_alloc ?_ _) | (with_reducible refine bl_dn ?_ _) | (with_reducible refine bl_drew ?_) | (with_reducible refine bl_then ?_ (by with_reducible assumption))))⟩
        · have n5 : (p == 24) = false := by simpa using h5
          have H : Hid (kindErr p a b = 21) := kindErr_no (by unfold kindsOk; simp [h1, h4, h5])
          clear h1 h3 h4 h5
          go_enter Try.func70, Try.ntmps70
          go_wp2
          go_ret
          exact ⟨by rw [H.out]; rfl, by (repeat (first | with_reducible exact Below.refl _ _ | with_reducible assumption | (with_reducible refine bl_set ?_ (by simp; try omega) _) | (with_reducible refine bl_alloc ?_ _) | (with_reducible refine bl_dn ?_ _) | (with_reducible refine bl_drew ?_) | (with_reducible refine bl_then ?_ (by with_reducible assumption))))⟩
    · have n3 : (a.k == b.k) = false := by simpa using h3
      have H : Hid (kindErr p a b = 21) := kindErr_no (by unfold kindsOk; simp [h1, h3])
      clear h1 h3
      go_enter Try.func70, Try.ntmps70
      go_wp2
      go_ret
      exact ⟨by rw [H.out]; rfl, by (repeat (first | with_reducible exact Below.refl _ _ | with_reducible assumption | (with_reducible refine bl_set ?_ (by simp; try omega) _) | (with_reducible refine bl_alloc ?_ _) | (with_reducible refine bl_dn ?_ _) | (with_reducible refine bl_drew ?_) | (with_reducible refine bl_then ?_ (by with_reducible assumption))))⟩
/-- the place of an operand's cell -/
def idx (r : Int) (i : Nat) : Nat := if r = 0 then 0 else i
theorem cell_any (a : Arr) (A : Option Addr) (c i : Nat) (x : Int) (w : World) (hl : a.xs.length ≤ 9223372036854775807) (hi : idx a.r i < a.xs.length) (hx : a.xs.getD (idx a.r i) 0 = x) (hs : Sl w A a.xs) :
    Calls Try.prog 71 #[.agg #[.int .i64 a.k, .int .i64 a.r, .int .i64 a.l0, .int .i64 a.l1, .slice A a.xs.length c], .int .i64 i] w fun e w' => e = .returned (.int .i64 x) ∧ Below w.heap.size w w' := by
  unfold idx at hi hx
  by_cases h : a.r = 0
  · have n1 : (a.r == 0) = true := by simpa using h
    rw [if_pos h] at hi hx
    obtain ⟨b, o, x', rfl, hb, hc, hx'⟩ := hs.at_ hi
    have e : x' = x := hx'.out.symm.trans hx
    subst e
    clear hx hs hx' h
    have hc0 : w.cell? ⟨b, o, none⟩ = some (.int .i64 x') := hc
    clear hc
    go_enter Try.func71, Try.ntmps71
    go_wp2
    go_ret
    exact ⟨rfl, by (repeat (first | with_reducible exact Below.refl _ _ | with_reducible assumption | (with_reducible refine bl_set ?_ (by simp; try omega) _) | (with_reducible refine bl_alloc ?_ _) | (with_reducible refine bl_dn ?_ _) | (with_reducible refine bl_drew ?_) | (with_reducible refine bl_then ?_ (by with_reducible assumption))))⟩
  · have n1 : (a.r == 0) = false := by simpa using h
    rw [if_neg h] at hi hx
    obtain ⟨b, o, x', rfl, hb, hc, hx'⟩ := hs.at_ hi
    have e : x' = x := hx'.out.symm.trans hx
    subst e
    clear hx hs hx' h
    go_enter Try.func71, Try.ntmps71
    go_wp2
    go_ret
    exact ⟨rfl, by (repeat (first | with_reducible exact Below.refl _ _ | with_reducible assumption | (with_reducible refine bl_set ?_ (by simp; try omega) _) | (with_reducible refine bl_alloc ?_ _) | (with_reducible refine bl_dn ?_ _) | (with_reducible refine bl_drew ?_) | (with_reducible refine bl_then ?_ (by with_reducible assumption))))⟩
theorem pairs_get {a b : Arr} (he : (extLens a b).1 = 0) {k : Nat} (hk : k < many a b) : idx a.r k < a.xs.length ∧ idx b.r k < b.xs.length ∧ (pairs a b).getD k (0, 0) = (a.xs.getD (idx a.r k) 0, b.xs.getD (idx b.r k) 0) := by
  obtain ⟨c1, c2⟩ := ext_chk he
  unfold many at hk
  unfold pairs idx
  by_cases ha : a.r = 0
  · simp only [if_pos ha] at hk ⊢
    have p0 := chk_pos c1 ha
    have hk' : k < (b.xs.map (fun y => (a.xs.getD 0 0, y))).length := by simpa using hk
    have e : (b.xs.map (fun y => (a.xs.getD 0 0, y))).getD k (0, 0) = (a.xs.getD 0 0, b.xs.getD k 0) := by
      rw [List.getD_eq_getElem?_getD, List.getElem?_eq_getElem hk', List.getD_eq_getElem?_getD (l := b.xs), List.getElem?_eq_getElem hk]; simp
    rw [e]
    by_cases hbr : b.r = 0
    · simp only [if_pos hbr]
      have hone := (chk_zero c2 hbr).2.2
      obtain rfl : k = 0 := by omega
      exact ⟨p0, hk, by trivial⟩
    · simp only [if_neg hbr]; exact ⟨p0, hk, by trivial⟩
  · simp only [if_neg ha] at hk ⊢
    by_cases hbr : b.r = 0
    · simp only [if_pos hbr]
      have p0 := chk_pos c2 hbr
      have hk' : k < (a.xs.map (fun x => (x, b.xs.getD 0 0))).length := by simpa using hk
      refine ⟨hk, p0, ?_⟩
      rw [List.getD_eq_getElem?_getD, List.getElem?_eq_getElem hk', List.getD_eq_getElem?_getD (l := a.xs), List.getElem?_eq_getElem hk]; simp
    · simp only [if_neg hbr]
      have hl := (ext_len he ha hbr).2.2
      have hkb : k < b.xs.length := by omega
      have hk' : k < (a.xs.zip b.xs).length := by simp; omega
      refine ⟨hk, hkb, ?_⟩
      rw [List.getD_eq_getElem?_getD, List.getElem?_eq_getElem hk', List.getD_eq_getElem?_getD (l := a.xs), List.getElem?_eq_getElem hk, List.getD_eq_getElem?_getD (l := b.xs), List.getElem?_eq_getElem hkb]; simp
end Ar
end Go.Proofs.Ytfpnafeildigaaa
