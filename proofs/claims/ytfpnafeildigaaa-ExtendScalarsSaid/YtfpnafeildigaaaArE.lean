/-
Contracts of Like and Same of the reference, and of Alike (chapters 6 and 7).
-/
import Derived.Test.YtfpnafeildigaaaArD
set_option linter.unusedSimpArgs false
set_option linter.unusedVariables false
namespace Go.Proofs.Ytfpnafeildigaaa
namespace Ar
open Go.RowKit Sc

def like (a b : Arr) : Bool := a.k == b.k && (a.r == b.r && (a.l0 == b.l0 && a.l1 == b.l1))
def same (a b : Arr) : Bool := like a b && decide (a.xs = b.xs)
theorem take_eq_step {xs ys : List Int} {k : Nat} (hx : k < xs.length) (hy : k < ys.length) (h : xs.take k = ys.take k) (e : xs.getD k 0 = ys.getD k 0) : xs.take (k + 1) = ys.take (k + 1) := by
  rw [List.getD_eq_getElem?_getD, List.getElem?_eq_getElem hx, List.getD_eq_getElem?_getD, List.getElem?_eq_getElem hy] at e
  have e' : xs[k] = ys[k] := e
  rw [List.take_succ_eq_append_getElem hx, List.take_succ_eq_append_getElem hy, h, e']
theorem take_ne {xs ys : List Int} {k : Nat} (e : xs.getD k 0 ≠ ys.getD k 0) : xs ≠ ys := by rintro rfl; exact e rfl
theorem like_any (a b : Arr) (A B : Option Addr) (c d : Nat) (w : World) : Calls Try.prog 77 #[.agg #[.int .i64 a.k, .int .i64 a.r, .int .i64 a.l0, .int .i64 a.l1, .slice A a.xs.length c], .agg #[.int .i64 b.k, .int .i64 b.r, .int .i64 b.l0, .int .i64 b.l1, .slice B b.xs.length d]] w fun e w' => e = .returned (.bool (like a b)) ∧ Below w.heap.size w w' := by
  have heq := fun (p q r s : Int) (w : World) => eql_lens p q r s w
  by_cases h1 : a.k = b.k
  · have n1 : (a.k == b.k) = true := by simpa using h1
    by_cases h2 : a.r = b.r
    · have n2 : (a.r == b.r) = true := by simpa using h2
      have H : Hid (like a b = (a.l0 == b.l0 && a.l1 == b.l1)) := by show _ = _; unfold like; rw [n1, n2]; rfl
      clear h1 h2
      go_enter Try.func77, Try.ntmps77
      go_wp2
      go_ret
      exact ⟨by rw [H.out]; rfl, by (repeat (first | exact Below.refl _ _ | assumption | (refine bl_then ?_ (by assumption)) | (refine bl_alloc ?_ _) | (refine bl_dn ?_ _) | (refine bl_drew ?_)))⟩
    · have n2 : (a.r == b.r) = false := by simpa using h2
      have H : Hid (like a b = false) := by show _ = _; unfold like; rw [n1, n2]; rfl
      clear h1 h2
      go_enter Try.func77, Try.ntmps77
      go_wp2
      go_ret
      exact ⟨by rw [H.out]; rfl, by (repeat (first | exact Below.refl _ _ | assumption | (refine bl_then ?_ (by assumption)) | (refine bl_alloc ?_ _) | (refine bl_dn ?_ _) | (refine bl_drew ?_)))⟩
  · have n1 : (a.k == b.k) = false := by simpa using h1
    have H : Hid (like a b = false) := by show _ = _; unfold like; rw [n1]; rfl
    clear h1
    go_enter Try.func77, Try.ntmps77
    go_wp2
    go_ret
    exact ⟨by rw [H.out]; rfl, by (repeat (first | exact Below.refl _ _ | assumption | (refine bl_then ?_ (by assumption)) | (refine bl_alloc ?_ _) | (refine bl_dn ?_ _) | (refine bl_drew ?_)))⟩
set_option maxHeartbeats 400000 in
theorem same_any (a b : Arr) (A B : Option Addr) (c d : Nat) (hla : a.xs.length ≤ 9223372036854775807) (hlb : b.xs.length ≤ 9223372036854775807) (w : World) (ha : Sl w A a.xs) (hb : Sl w B b.xs) :
    Calls Try.prog 35 #[.agg #[.int .i64 a.k, .int .i64 a.r, .int .i64 a.l0, .int .i64 a.l1, .slice A a.xs.length c], .agg #[.int .i64 b.k, .int .i64 b.r, .int .i64 b.l0, .int .i64 b.l1, .slice B b.xs.length d]] w fun e w' => e = .returned (.bool (same a b)) ∧ Below w.heap.size w w' := by
  cases hl : like a b
  · have HL := hide hl
    have H : Hid (same a b = false) := by show _ = _; unfold same; rw [hl]; rfl
    clear hl
    go_enter Try.func35, Try.ntmps35
    go_wp2_with (go_at_call 77; refine (like_any a b A B c d _).mono ?_; rw [HL.out]; rintro e w' ⟨rfl, hg⟩; obtain ⟨hc, hf, hz⟩ := bcell hg)
    go_ret
    exact ⟨by rw [H.out]; rfl, by (repeat (first | exact Below.refl _ _ | assumption | (refine bl_then ?_ (by assumption)) | (refine bl_alloc ?_ _) | (refine bl_dn ?_ _) | (refine bl_drew ?_)))⟩
  · have HL := hide hl
    by_cases hn : a.xs.length = b.xs.length
    · have n1 : ((a.xs.length : Int) != (b.xs.length : Int)) = false := by simp [hn]
      have HN := hide hn
      have hn1 : a.xs.length ≤ b.xs.length := by omega
      have hn2 : b.xs.length ≤ a.xs.length := by omega
      clear hl hn
      go_enter Try.func35, Try.ntmps35
      go_wp2_with (go_at_call 77; refine (like_any a b A B c d _).mono ?_; rw [HL.out]; rintro e w' ⟨rfl, hg⟩; obtain ⟨hc, hf, hz⟩ := bcell hg)
      have ha' := ha.below (w' := w') (by (repeat (first | exact Below.refl _ _ | assumption | (refine bl_then ?_ (by assumption)) | (refine bl_alloc ?_ _) | (refine bl_dn ?_ _) | (refine bl_drew ?_))))
      have hb' := hb.below (w' := w') (by (repeat (first | exact Below.refl _ _ | assumption | (refine bl_then ?_ (by assumption)) | (refine bl_alloc ?_ _) | (refine bl_dn ?_ _) | (refine bl_drew ?_))))
      go_loopw [5] (fun i wr => ∃ k : Nat, k ≤ a.xs.length ∧ i = .int .i64 k ∧ Hid (a.xs.take k = b.xs.take k) ∧ ∃ n, wr = w'.drewN n) (fun i _ => a.xs.length - (intOf i).toNat)
      case atStart => exact ⟨0, Nat.zero_le _, rfl, rfl, 0, rfl⟩
      case round =>
        obtain ⟨k, hk, rfl, htk, n, rfl⟩ := hrel
        by_cases hlt : k < a.xs.length
        · have hlt' : k < b.xs.length := by omega
          obtain ⟨g, o, x, rfl, hgb, hcx, hx⟩ := ha'.at_ hlt
          obtain ⟨g', o', y, rfl, hgb', hcy, hy⟩ := hb'.at_ hlt'
          by_cases hp : x = y
          · have H := hide (take_eq_step hlt hlt' htk.out (by rw [hx.out, hy.out]; exact hp))
            have n2 : (x != y) = false := by simpa using hp
            clear hp
            go_wp2
            go_quiet (fail)
            go_wp2
            go_roundw
            case rel => exact ⟨k + 1, by omega, by go_num, H, _, rfl⟩
            case measure => simp [intOf]; omega
          · have H := hide (take_ne (xs := a.xs) (ys := b.xs) (k := k) (by rw [hx.out, hy.out]; exact hp))
            have n2 : (x != y) = true := by simpa using hp
            clear hp
            go_wp2
            go_quiet (fail)
            go_wp2
            go_ret
            exact ⟨by unfold same; rw [decide_eq_false H.out]; simp, by (repeat (first | exact Below.refl _ _ | assumption | (refine bl_then ?_ (by assumption)) | (refine bl_alloc ?_ _) | (refine bl_dn ?_ _) | (refine bl_drew ?_)))⟩
        · have HE : Hid (a.xs = b.xs) := by
            have e := htk.out
            rw [List.take_of_length_le (by omega), List.take_of_length_le (by omega)] at e
            exact e
          go_wp2
          go_ret
          exact ⟨by unfold same; rw [HL.out, decide_eq_true HE.out]; rfl, by (repeat (first | exact Below.refl _ _ | assumption | (refine bl_then ?_ (by assumption)) | (refine bl_alloc ?_ _) | (refine bl_dn ?_ _) | (refine bl_drew ?_)))⟩
    · have n1 : ((a.xs.length : Int) != (b.xs.length : Int)) = true := by simpa using fun h : (a.xs.length : Int) = b.xs.length => hn (by omega)
      have H : Hid (same a b = false) := by show _ = _; unfold same; rw [decide_eq_false (fun e => hn (by rw [e]))]; simp
      clear hl hn
      go_enter Try.func35, Try.ntmps35
      go_wp2_with (go_at_call 77; refine (like_any a b A B c d _).mono ?_; rw [HL.out]; rintro e w' ⟨rfl, hg⟩; obtain ⟨hc, hf, hz⟩ := bcell hg)
      go_ret
      exact ⟨by rw [H.out]; rfl, by (repeat (first | exact Below.refl _ _ | assumption | (refine bl_then ?_ (by assumption)) | (refine bl_alloc ?_ _) | (refine bl_dn ?_ _) | (refine bl_drew ?_)))⟩
theorem alike_any (a b : Arr) (A B : Option Addr) (c d : Nat) (e f : Int) (hla : a.xs.length ≤ 9223372036854775807) (hlb : b.xs.length ≤ 9223372036854775807) (w : World) (ha : Sl w A a.xs) (hb : Sl w B b.xs) :
    Calls Try.prog 23 #[.agg #[.int .i64 a.k, .int .i64 a.r, .int .i64 a.l0, .int .i64 a.l1, .slice A a.xs.length c], .int .i64 e, .agg #[.int .i64 b.k, .int .i64 b.r, .int .i64 b.l0, .int .i64 b.l1, .slice B b.xs.length d], .int .i64 f] w fun e' w' => e' = .returned (.bool (e == f && same a b)) ∧ Below w.heap.size w w' := by
  by_cases h : e = f
  · have n1 : (e == f) = true := by simpa using h
    clear h
    go_enter Try.func23, Try.ntmps23
    go_wp2_with (go_at_call 35; refine (same_any a b A B c d hla hlb _ (ha.below (by (repeat (first | exact Below.refl _ _ | assumption | (refine bl_then ?_ (by assumption)) | (refine bl_alloc ?_ _) | (refine bl_dn ?_ _) | (refine bl_drew ?_))))) (hb.below (by (repeat (first | exact Below.refl _ _ | assumption | (refine bl_then ?_ (by assumption)) | (refine bl_alloc ?_ _) | (refine bl_dn ?_ _) | (refine bl_drew ?_)))))).mono ?_; rintro e w' ⟨rfl, hg⟩)
    go_ret
    exact ⟨by rw [n1]; rfl, by (repeat (first | exact Below.refl _ _ | assumption | (refine bl_then ?_ (by assumption)) | (refine bl_alloc ?_ _) | (refine bl_dn ?_ _) | (refine bl_drew ?_)))⟩
  · have n1 : (e == f) = false := by simpa using h
    clear h
    go_enter Try.func23, Try.ntmps23
    go_wp2
    go_ret
    exact ⟨by rw [n1]; rfl, by (repeat (first | exact Below.refl _ _ | assumption | (refine bl_then ?_ (by assumption)) | (refine bl_alloc ?_ _) | (refine bl_dn ?_ _) | (refine bl_drew ?_)))⟩
end Ar
end Go.Proofs.Ytfpnafeildigaaa
