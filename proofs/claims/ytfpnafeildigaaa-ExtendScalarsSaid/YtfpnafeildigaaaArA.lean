/-
Contracts of the functions over shapes and arrays (chapters 5 and 6), and words for slices of numbers.
-/
import Derived.Test.YtfpnafeildigaaaArMath
import Derived.Test.YtfpnafeildigaaaScF
import Derived.Handy
import Derived.Deep.QuietTactic
import Derived.BigQuiet
set_option linter.unusedSimpArgs false
set_option linter.unusedVariables false
namespace Go.Proofs.Ytfpnafeildigaaa
namespace Ar
open Go.RowKit Sc

theorem below_drewN (w : World) (B n : Nat) : Below B w (w.drewN n) := ⟨rfl, rfl, rfl, Nat.le_refl _, fun _ _ => rfl⟩
theorem bl_then {a b c : World} (h : Below a.heap.size a b) (k : Below b.heap.size b c) : Below a.heap.size a c := h.trans (k.mono h.size)
theorem bl_alloc {a b : World} (h : Below a.heap.size a b) (o : Obj) : Below a.heap.size a (b.alloc o) := h.alloc h.size o
theorem bl_dn {a b : World} (h : Below a.heap.size a b) (n : Nat) : Below a.heap.size a (b.drewN n) := h.trans (below_drewN _ _ _)
theorem bl_drew {a b : World} (h : Below a.heap.size a b) : Below a.heap.size a b.drew := h.drew
theorem bcell {W w1 : World} (hb : Below W.heap.size W w1) : (∀ b o, b < W.heap.size → w1.cell? ⟨b, o, none⟩ = W.cell? ⟨b, o, none⟩) ∧
    (∀ b o, b < W.heap.size → w1.frozen? ⟨b, o, none⟩ = W.frozen? ⟨b, o, none⟩) ∧ W.heap.size ≤ w1.heap.size :=
  ⟨fun b o h => hb.cell (p := ⟨b, o, none⟩) h, fun b o h => hb.frozen (p := ⟨b, o, none⟩) h, hb.size⟩
/-- a slice that reads as a list of numbers -/
def Sl (w : World) (A : Option Addr) (xs : List Int) : Prop :=
  xs ≠ [] → ∃ b o, A = some ⟨b, o, none⟩ ∧ b < w.heap.size ∧ ∀ j, j < xs.length → w.cell? ⟨b, o + j, none⟩ = some (.int .i64 (xs.getD j 0))
theorem Sl.below {w w' : World} {A : Option Addr} {xs : List Int} (h : Sl w A xs) (hb : Below w.heap.size w w') : Sl w' A xs := fun hn => by
  obtain ⟨b, o, e, hl, hc⟩ := h hn
  exact ⟨b, o, e, Nat.lt_of_lt_of_le hl hb.size, fun j hj => (hb.cell (p := ⟨b, o + j, none⟩) hl).trans (hc j hj)⟩
theorem Sl.nil (w : World) (A : Option Addr) : Sl w A [] := fun h => absurd rfl h
theorem Sl.at_ {w : World} {A : Option Addr} {xs : List Int} (h : Sl w A xs) {k : Nat} (hk : k < xs.length) :
    ∃ b o x, A = some ⟨b, o, none⟩ ∧ b < w.heap.size ∧ w.cell? ⟨b, o + k, none⟩ = some (.int .i64 x) ∧ Hid (xs.getD k 0 = x) := by
  obtain ⟨b, o, e, hl, hc⟩ := h (by rintro rfl; simp at hk)
  exact ⟨b, o, _, e, hl, hc k hk, rfl⟩
theorem any_step {P : Int → Bool} {xs : List Int} {k : Nat} (hk : k < xs.length) (h : (xs.take k).any P = false) : (xs.take (k + 1)).any P = P (xs.getD k 0) := by
  rw [List.take_succ_eq_append_getElem hk, List.any_append, h]
  simp [List.getD_eq_getElem?_getD, List.getElem?_eq_getElem hk]
theorem any_hit {P : Int → Bool} {xs : List Int} {k : Nat} (hk : k < xs.length) (h : P (xs.getD k 0) = true) : xs.any P = true := by
  rw [List.any_eq_true]
  exact ⟨xs[k], List.getElem_mem hk, by simpa [List.getD_eq_getElem?_getD, List.getElem?_eq_getElem hk] using h⟩

def neg1 (n : Int) : Bool := decide (n < 0)
def non0 (n : Int) : Bool := n != 0
def over (n : Int) : Bool := decide (400 < n)
theorem neg1_any (n : Int) (w : World) : Calls Try.prog 145 #[.int .i64 n] w fun e w' => e = .returned (.bool (neg1 n)) ∧ w = w' := by
  go_enter Try.func145, Try.ntmps145
  go_wp2
  go_ret
  exact ⟨rfl, rfl⟩
theorem non0_any (n : Int) (w : World) : Calls Try.prog 146 #[.int .i64 n] w fun e w' => e = .returned (.bool (non0 n)) ∧ w = w' := by
  go_enter Try.func146, Try.ntmps146
  go_wp2
  go_ret
  exact ⟨rfl, rfl⟩
theorem over_any (n : Int) (w : World) : Calls Try.prog 147 #[.int .i64 n] w fun e w' => e = .returned (.bool (over n)) ∧ w = w' := by
  go_enter Try.func147, Try.ntmps147
  go_wp2
  go_ret
  exact ⟨rfl, rfl⟩
theorem index_neg1 (A : Option Addr) (c : Nat) (xs : List Int) (w : World) (hl : xs.length ≤ 9223372036854775807) (hs : Sl w A xs) :
    Calls Try.prog 148 #[.slice A xs.length c, .func (.func 145) #[] #[]] w fun e w' => ∃ i : Int, e = .returned (.int .i64 i) ∧ Hid (decide (0 ≤ i) = xs.any neg1) ∧ w = w' := by
  go_enter Try.func148, Try.ntmps148
  go_wp2
  go_loop [5, 8] (fun _ i => ∃ k : Nat, k ≤ xs.length ∧ i = .int .i64 k ∧ Hid ((xs.take k).any neg1 = false)) (fun _ i => xs.length - (intOf i).toNat)
  case atStart => exact ⟨0, Nat.zero_le _, rfl, rfl⟩
  case round =>
    obtain ⟨k, hk, rfl, hany⟩ := hrel
    by_cases hlt : k < xs.length
    · obtain ⟨b, o, x, rfl, hb, hc, hx⟩ := hs.at_ hlt
      by_cases hp : neg1 x = true
      · have H := hide (any_hit (P := neg1) hlt (by rw [hx.out]; exact hp))
        go_wp2_with (go_at_call 145; refine (neg1_any _ _).mono ?_; rintro e w' ⟨rfl, rfl⟩)
        go_ret
        exact ⟨_, rfl, (show _ = _ from by rw [H.out]; simp), rfl⟩
      · have hp' : neg1 x = false := by simpa using hp
        have H := hide (any_step hlt hany.out)
        have H2 : Hid (neg1 (xs.getD k 0) = false) := by show _ = _; rw [hx.out]; exact hp'
        clear hp
        go_wp2_with (go_at_call 145; refine (neg1_any _ _).mono ?_; rintro e w' ⟨rfl, rfl⟩)
        go_round
        case rel => exact ⟨k + 1, by omega, by go_num, H.out.trans H2.out⟩
        case measure => simp [intOf]; omega
    · go_wp2
      go_ret
      refine ⟨_, rfl, ?_, rfl⟩
      have e := hany.out
      rw [List.take_of_length_le (by omega)] at e
      show _ = _
      rw [e]; rfl
theorem contains_neg1 (A : Option Addr) (c : Nat) (xs : List Int) (w : World) (hl : xs.length ≤ 9223372036854775807) (hs : Sl w A xs) :
    Calls Try.prog 144 #[.slice A xs.length c, .func (.func 145) #[] #[]] w fun e w' => e = .returned (.bool (xs.any neg1)) ∧ w = w' := by
  go_enter Try.func144, Try.ntmps144
  go_wp2_with (go_at_call 148; refine (index_neg1 A c xs _ hl hs).mono ?_; rintro e w' ⟨i, rfl, hi, rfl⟩)
  go_ret
  exact ⟨by rw [← hi.out]; rfl, rfl⟩
theorem index_non0 (A : Option Addr) (c : Nat) (xs : List Int) (w : World) (hl : xs.length ≤ 9223372036854775807) (hs : Sl w A xs) :
    Calls Try.prog 148 #[.slice A xs.length c, .func (.func 146) #[] #[]] w fun e w' => ∃ i : Int, e = .returned (.int .i64 i) ∧ Hid (decide (0 ≤ i) = xs.any non0) ∧ w = w' := by
  go_enter Try.func148, Try.ntmps148
  go_wp2
  go_loop [5, 8] (fun _ i => ∃ k : Nat, k ≤ xs.length ∧ i = .int .i64 k ∧ Hid ((xs.take k).any non0 = false)) (fun _ i => xs.length - (intOf i).toNat)
  case atStart => exact ⟨0, Nat.zero_le _, rfl, rfl⟩
  case round =>
    obtain ⟨k, hk, rfl, hany⟩ := hrel
    by_cases hlt : k < xs.length
    · obtain ⟨b, o, x, rfl, hb, hc, hx⟩ := hs.at_ hlt
      by_cases hp : non0 x = true
      · have H := hide (any_hit (P := non0) hlt (by rw [hx.out]; exact hp))
        go_wp2_with (go_at_call 146; refine (non0_any _ _).mono ?_; rintro e w' ⟨rfl, rfl⟩)
        go_ret
        exact ⟨_, rfl, (show _ = _ from by rw [H.out]; simp), rfl⟩
      · have hp' : non0 x = false := by simpa using hp
        have H := hide (any_step hlt hany.out)
        have H2 : Hid (non0 (xs.getD k 0) = false) := by show _ = _; rw [hx.out]; exact hp'
        clear hp
        go_wp2_with (go_at_call 146; refine (non0_any _ _).mono ?_; rintro e w' ⟨rfl, rfl⟩)
        go_round
        case rel => exact ⟨k + 1, by omega, by go_num, H.out.trans H2.out⟩
        case measure => simp [intOf]; omega
    · go_wp2
      go_ret
      refine ⟨_, rfl, ?_, rfl⟩
      have e := hany.out
      rw [List.take_of_length_le (by omega)] at e
      show _ = _
      rw [e]; rfl
theorem contains_non0 (A : Option Addr) (c : Nat) (xs : List Int) (w : World) (hl : xs.length ≤ 9223372036854775807) (hs : Sl w A xs) :
    Calls Try.prog 144 #[.slice A xs.length c, .func (.func 146) #[] #[]] w fun e w' => e = .returned (.bool (xs.any non0)) ∧ w = w' := by
  go_enter Try.func144, Try.ntmps144
  go_wp2_with (go_at_call 148; refine (index_non0 A c xs _ hl hs).mono ?_; rintro e w' ⟨i, rfl, hi, rfl⟩)
  go_ret
  exact ⟨by rw [← hi.out]; rfl, rfl⟩
theorem index_over (A : Option Addr) (c : Nat) (xs : List Int) (w : World) (hl : xs.length ≤ 9223372036854775807) (hs : Sl w A xs) :
    Calls Try.prog 148 #[.slice A xs.length c, .func (.func 147) #[] #[]] w fun e w' => ∃ i : Int, e = .returned (.int .i64 i) ∧ Hid (decide (0 ≤ i) = xs.any over) ∧ w = w' := by
  go_enter Try.func148, Try.ntmps148
  go_wp2
  go_loop [5, 8] (fun _ i => ∃ k : Nat, k ≤ xs.length ∧ i = .int .i64 k ∧ Hid ((xs.take k).any over = false)) (fun _ i => xs.length - (intOf i).toNat)
  case atStart => exact ⟨0, Nat.zero_le _, rfl, rfl⟩
  case round =>
    obtain ⟨k, hk, rfl, hany⟩ := hrel
    by_cases hlt : k < xs.length
    · obtain ⟨b, o, x, rfl, hb, hc, hx⟩ := hs.at_ hlt
      by_cases hp : over x = true
      · have H := hide (any_hit (P := over) hlt (by rw [hx.out]; exact hp))
        go_wp2_with (go_at_call 147; refine (over_any _ _).mono ?_; rintro e w' ⟨rfl, rfl⟩)
        go_ret
        exact ⟨_, rfl, (show _ = _ from by rw [H.out]; simp), rfl⟩
      · have hp' : over x = false := by simpa using hp
        have H := hide (any_step hlt hany.out)
        have H2 : Hid (over (xs.getD k 0) = false) := by show _ = _; rw [hx.out]; exact hp'
        clear hp
        go_wp2_with (go_at_call 147; refine (over_any _ _).mono ?_; rintro e w' ⟨rfl, rfl⟩)
        go_round
        case rel => exact ⟨k + 1, by omega, by go_num, H.out.trans H2.out⟩
        case measure => simp [intOf]; omega
    · go_wp2
      go_ret
      refine ⟨_, rfl, ?_, rfl⟩
      have e := hany.out
      rw [List.take_of_length_le (by omega)] at e
      show _ = _
      rw [e]; rfl
theorem contains_over (A : Option Addr) (c : Nat) (xs : List Int) (w : World) (hl : xs.length ≤ 9223372036854775807) (hs : Sl w A xs) :
    Calls Try.prog 144 #[.slice A xs.length c, .func (.func 147) #[] #[]] w fun e w' => e = .returned (.bool (xs.any over)) ∧ w = w' := by
  go_enter Try.func144, Try.ntmps144
  go_wp2_with (go_at_call 148; refine (index_over A c xs _ hl hs).mono ?_; rintro e w' ⟨i, rfl, hi, rfl⟩)
  go_ret
  exact ⟨by rw [← hi.out]; rfl, rfl⟩
theorem product_0 (l0 l1 : Int) (w : World) : Calls Try.prog 137 #[.int .i64 0, .agg #[.int .i64 l0, .int .i64 l1]] w fun e w' => e = .returned (.int .i64 (1)) ∧ Below w.heap.size w w' := by
  go_enter Try.func137, Try.ntmps137
  go_wp2
  go_ret
  exact ⟨rfl, by (repeat (first | exact Below.refl _ _ | assumption | (refine bl_then ?_ (by assumption)) | (refine bl_alloc ?_ _) | (refine bl_dn ?_ _) | (refine bl_drew ?_)))⟩
theorem product_1 (l0 l1 : Int) (h1 : Fits l0) (w : World) : Calls Try.prog 137 #[.int .i64 1, .agg #[.int .i64 l0, .int .i64 l1]] w fun e w' => e = .returned (.int .i64 (l0)) ∧ Below w.heap.size w w' := by
  unfold Fits at h1
  go_enter Try.func137, Try.ntmps137
  go_wp2
  go_ret
  exact ⟨rfl, by (repeat (first | exact Below.refl _ _ | assumption | (refine bl_then ?_ (by assumption)) | (refine bl_alloc ?_ _) | (refine bl_dn ?_ _) | (refine bl_drew ?_)))⟩
theorem product_2 (l0 l1 : Int) (h : Fits (l0 * l1)) (h1 : Fits l0) (h2 : Fits l1) (w : World) : Calls Try.prog 137 #[.int .i64 2, .agg #[.int .i64 l0, .int .i64 l1]] w fun e w' => e = .returned (.int .i64 (l0 * l1)) ∧ Below w.heap.size w w' := by
  have e1 : IntKind.i64.wrap (l1 * l0) = l0 * l1 := by rw [Int.mul_comm]; exact IntWalk.i64_in _ h
  have e2 : IntKind.i64.wrap (l0 * l1) = l0 * l1 := IntWalk.i64_in _ h
  unfold Fits at h1 h2
  clear h
  go_enter Try.func137, Try.ntmps137
  go_wp2
  go_ret
  exact ⟨rfl, by (repeat (first | exact Below.refl _ _ | assumption | (refine bl_then ?_ (by assumption)) | (refine bl_alloc ?_ _) | (refine bl_dn ?_ _) | (refine bl_drew ?_)))⟩
theorem many_0 (l0 l1 : Int) (w : World) : Calls Try.prog 105 #[.int .i64 0, .agg #[.int .i64 l0, .int .i64 l1]] w fun e w' => e = .returned (.int .i64 (1)) ∧ Below w.heap.size w w' := by
  go_enter Try.func105, Try.ntmps105
  go_wp2
  go_rounds 1
  go_ret
  exact ⟨rfl, by (repeat (first | exact Below.refl _ _ | assumption | (refine bl_then ?_ (by assumption)) | (refine bl_alloc ?_ _) | (refine bl_dn ?_ _) | (refine bl_drew ?_)))⟩
theorem many_1 (l0 l1 : Int) (h1 : Fits l0) (w : World) : Calls Try.prog 105 #[.int .i64 1, .agg #[.int .i64 l0, .int .i64 l1]] w fun e w' => e = .returned (.int .i64 (l0)) ∧ Below w.heap.size w w' := by
  unfold Fits at h1
  go_enter Try.func105, Try.ntmps105
  go_wp2
  go_rounds 2
  go_ret
  exact ⟨rfl, by (repeat (first | exact Below.refl _ _ | assumption | (refine bl_then ?_ (by assumption)) | (refine bl_alloc ?_ _) | (refine bl_dn ?_ _) | (refine bl_drew ?_)))⟩
theorem many_2 (l0 l1 : Int) (h : Fits (l0 * l1)) (h1 : Fits l0) (h2 : Fits l1) (w : World) : Calls Try.prog 105 #[.int .i64 2, .agg #[.int .i64 l0, .int .i64 l1]] w fun e w' => e = .returned (.int .i64 (l0 * l1)) ∧ Below w.heap.size w w' := by
  have e1 : IntKind.i64.wrap (l1 * l0) = l0 * l1 := by rw [Int.mul_comm]; exact IntWalk.i64_in _ h
  have e2 : IntKind.i64.wrap (l0 * l1) = l0 * l1 := IntWalk.i64_in _ h
  unfold Fits at h1 h2
  clear h
  go_enter Try.func105, Try.ntmps105
  go_wp2
  go_rounds 3
  go_ret
  exact ⟨rfl, by (repeat (first | exact Below.refl _ _ | assumption | (refine bl_then ?_ (by assumption)) | (refine bl_alloc ?_ _) | (refine bl_dn ?_ _) | (refine bl_drew ?_)))⟩
theorem has0_neg1 (A : Option Addr) (c : Nat) (w : World) (hs : Sl w A []) (b : Bool) (hb : ([] : List Int).any neg1 = b) :
    Calls Try.prog 144 #[.slice A 0 c, .func (.func 145) #[] #[]] w fun e w' => e = .returned (.bool b) ∧ w = w' := by
  subst hb
  exact contains_neg1 A c [] w (by simp) hs
theorem has1_neg1 (A : Option Addr) (c : Nat) (x : Int) (w : World) (hs : Sl w A [x]) (b : Bool) (hb : ([x] : List Int).any neg1 = b) :
    Calls Try.prog 144 #[.slice A 1 c, .func (.func 145) #[] #[]] w fun e w' => e = .returned (.bool b) ∧ w = w' := by
  subst hb
  exact contains_neg1 A c [x] w (by simp) hs
theorem has2_neg1 (A : Option Addr) (c : Nat) (x y : Int) (w : World) (hs : Sl w A [x, y]) (b : Bool) (hb : ([x, y] : List Int).any neg1 = b) :
    Calls Try.prog 144 #[.slice A 2 c, .func (.func 145) #[] #[]] w fun e w' => e = .returned (.bool b) ∧ w = w' := by
  subst hb
  exact contains_neg1 A c [x, y] w (by simp) hs
theorem has0_non0 (A : Option Addr) (c : Nat) (w : World) (hs : Sl w A []) (b : Bool) (hb : ([] : List Int).any non0 = b) :
    Calls Try.prog 144 #[.slice A 0 c, .func (.func 146) #[] #[]] w fun e w' => e = .returned (.bool b) ∧ w = w' := by
  subst hb
  exact contains_non0 A c [] w (by simp) hs
theorem has1_non0 (A : Option Addr) (c : Nat) (x : Int) (w : World) (hs : Sl w A [x]) (b : Bool) (hb : ([x] : List Int).any non0 = b) :
    Calls Try.prog 144 #[.slice A 1 c, .func (.func 146) #[] #[]] w fun e w' => e = .returned (.bool b) ∧ w = w' := by
  subst hb
  exact contains_non0 A c [x] w (by simp) hs
theorem has2_non0 (A : Option Addr) (c : Nat) (x y : Int) (w : World) (hs : Sl w A [x, y]) (b : Bool) (hb : ([x, y] : List Int).any non0 = b) :
    Calls Try.prog 144 #[.slice A 2 c, .func (.func 146) #[] #[]] w fun e w' => e = .returned (.bool b) ∧ w = w' := by
  subst hb
  exact contains_non0 A c [x, y] w (by simp) hs
theorem has0_over (A : Option Addr) (c : Nat) (w : World) (hs : Sl w A []) (b : Bool) (hb : ([] : List Int).any over = b) :
    Calls Try.prog 144 #[.slice A 0 c, .func (.func 147) #[] #[]] w fun e w' => e = .returned (.bool b) ∧ w = w' := by
  subst hb
  exact contains_over A c [] w (by simp) hs
theorem has1_over (A : Option Addr) (c : Nat) (x : Int) (w : World) (hs : Sl w A [x]) (b : Bool) (hb : ([x] : List Int).any over = b) :
    Calls Try.prog 144 #[.slice A 1 c, .func (.func 147) #[] #[]] w fun e w' => e = .returned (.bool b) ∧ w = w' := by
  subst hb
  exact contains_over A c [x] w (by simp) hs
theorem has2_over (A : Option Addr) (c : Nat) (x y : Int) (w : World) (hs : Sl w A [x, y]) (b : Bool) (hb : ([x, y] : List Int).any over = b) :
    Calls Try.prog 144 #[.slice A 2 c, .func (.func 147) #[] #[]] w fun e w' => e = .returned (.bool b) ∧ w = w' := by
  subst hb
  exact contains_over A c [x, y] w (by simp) hs
theorem sl_box1 (w : World) (t : TypeId) (l0 l1 : Int) (n : Nat) : Sl ((w.alloc (.cells #[.int .i64 l0, .int .i64 l1] t)).drewN n) (some ⟨w.heap.size, 0, none⟩) [l0] := fun _ =>
  ⟨_, _, rfl, by simp [World.drewN], fun j hj => by
    obtain rfl : j = 0 := by simpa using hj
    show ((w.alloc (.cells #[.int .i64 l0, .int .i64 l1] t))).cell? _ = _
    rw [World.cell?_alloc_at (hn := rfl)]; rfl⟩
theorem sl_box2 (w : World) (t : TypeId) (l0 l1 : Int) (n : Nat) : Sl ((w.alloc (.cells #[.int .i64 l0, .int .i64 l1] t)).drewN n) (some ⟨w.heap.size, 0, none⟩) [l0, l1] := fun _ =>
  ⟨_, _, rfl, by simp [World.drewN], fun j hj => by
    show ((w.alloc (.cells #[.int .i64 l0, .int .i64 l1] t))).cell? _ = _
    rw [World.cell?_alloc_at (hn := rfl)]
    match j, hj with
    | 0, _ => rfl
    | 1, _ => rfl⟩
theorem sl_box3 (w : World) (t : TypeId) (l0 l1 : Int) (n : Nat) : Sl ((w.alloc (.cells #[.int .i64 l0, .int .i64 l1] t)).drewN n) (some ⟨w.heap.size, 1, none⟩) [l1] := fun _ =>
  ⟨_, _, rfl, by simp [World.drewN], fun j hj => by
    obtain rfl : j = 0 := by simpa using hj
    show ((w.alloc (.cells #[.int .i64 l0, .int .i64 l1] t))).cell? _ = _
    rw [World.cell?_alloc_at (hn := rfl)]; rfl⟩
end Ar
end Go.Proofs.Ytfpnafeildigaaa
