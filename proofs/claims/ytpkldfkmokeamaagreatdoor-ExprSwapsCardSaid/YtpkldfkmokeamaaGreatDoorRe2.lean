/-
The reference's number, asked, order, Order, Kids, Size (chapter 15).
-/
import Derived.Test.YtpkldfkmokeamaaGreatDoorRe1
set_option linter.unusedSimpArgs false
set_option linter.unusedVariables false
namespace Go.Proofs.YtpkldfkmokeamaaGreatDoor
namespace Pr
open Go Go.RowKit En
open Ex
def nuV (l : List Nd) (a : Nat) : Bool := numb (Ks l) a
def askV (l : List Nd) (a : Int) : Int := if (chkV l).2 ≠ 0 then (chkV l).2 else if a < 0 ∨ (l.length : Int) ≤ a ∨ nuV l a.toNat = true then 7 else 0
def ordI (l : List Nd) (i : Nat) : List Int := (Ord l.length (Ms l) (Ks l) i).map fun p : Nat => (p : Int)
theorem nodes_long (n : Nat) (M K : Nat → Nat) : ∀ (d k a : Nat), n - a ≤ d → (Ex.nodes n M K k a).length ≤ n - a := by
  intro d
  induction d with
  | zero =>
    intro k a h
    cases k with
    | zero => rw [Ex.nodes_zero]; exact Nat.zero_le _
    | succ k => rw [Ex.nodes_out (by omega)]; exact Nat.zero_le _
  | succ d ih =>
    intro k a h
    cases k with
    | zero => rw [Ex.nodes_zero]; exact Nat.zero_le _
    | succ k =>
      by_cases ha : a < n
      · rw [Ex.nodes_in ha, List.length_cons]
        have := ih (k + M a) (a + 1 + K a) (by omega)
        omega
      · rw [Ex.nodes_out (by omega)]; exact Nat.zero_le _
theorem ordI_len {l : List Nd} (hg : Good l) {i : Nat} (hw : Whole l.length (Ms l) (Ks l) i) : (ordI l i).length ≤ l.length := by
  rw [ordI, List.length_map, Ord_nodes hg.fine _ i (Nat.le_refl _) hw, List.length_reverse]
  have := nodes_long l.length (Ms l) (Ks l) _ 1 i (Nat.le_refl _)
  omega
theorem chk_tree {l : List Nd} (h : (chkV l).2 = 0) : Whole l.length (Ms l) (Ks l) 0 ∧ eR l 0 = l.length ∧ dpV l 0 ≤ 24 := by
  obtain ⟨h0, h1, hg, h4⟩ := chk_ok h
  have hn0 : 0 < l.length := by omega
  rw [h4, lastV, last_same hg.fine hn0] at h
  have h5 : lastR l.length (Ms l) (Ks l) 24 = (0, 0) := by
    unfold lastR at h ⊢
    split at h
    · cases h
    · split at h
      · cases h
      · split at h
        · cases h
        · next x1 x2 x3 => rw [if_neg x1, if_neg x2, if_neg x3]
  exact last_whole hg.fine hn0 h5
def lsR (c : Prop) (xs : List Int) (e : Int) (nx : Nat) : Res := bif e == 0 then .val c fun B d => (.tup [.g nx B xs.length d, .v (.int .i64 0)], [(nx, .ints B d .i64 xs)]) else .is c (.tup [.v (.slice none 0 0), .v (.int .i64 e)])
theorem lsR_y {c : Prop} {xs : List Int} {e : Int} {nx : Nat} (h : e = 0) : lsR c xs e nx = .val c fun B d => (.tup [.g nx B xs.length d, .v (.int .i64 0)], [(nx, .ints B d .i64 xs)]) := by rw [lsR, h]; rfl
theorem lsR_n {c : Prop} {xs : List Int} {e : Int} {nx : Nat} (h : e ≠ 0) : lsR c xs e nx = .is c (.tup [.v (.slice none 0 0), .v (.int .i64 e)]) := by
  have : (e == 0) = false := by simpa using h
  rw [lsR, this]; rfl
end Pr
end Go.Proofs.YtpkldfkmokeamaaGreatDoor
/-
The reference's Order, Kids, Size (chapter 15).
-/
set_option linter.unusedSimpArgs false
set_option linter.unusedVariables false
namespace Go.Proofs.YtpkldfkmokeamaaGreatDoor
namespace Pr
open Go Go.RowKit En
open Ex
def LsQ2 (O : Nat → Prop) (xs : List Int) (er : Int) (w : World) (e : Ending) (w' : World) : Prop := Below w.heap.size w w' ∧ ((er ≠ 0 ∧ e = .returned (.tuple #[.slice none 0 0, .int .i64 er])) ∨ (er = 0 ∧ ∃ B d, e = .returned (.tuple #[.slice B xs.length d, .int .i64 0]) ∧ Hold w.heap.size w' (.ints B d .i64 xs) ∧ ∀ b, foot (.ints B d .i64 xs) b → w.heap.size ≤ b ∨ O b))
def LsP2 (xs : List Int) (er : Int) (s : SS) (ys : List SV) : Prop := (er ≠ 0 ∧ ys = [.v (.slice none 0 0), .v (.int .i64 er)]) ∨ (er = 0 ∧ ∃ k A c, ys = [.g k A xs.length c, .v (.int .i64 0)] ∧ lookH s.hp k = .ints A c .i64 xs)
theorem LsP2_Q {xs : List Int} {er : Int} {w w' : World} {hp : Hp} {s : SS} {ys : List SV} (h : LsP2 xs er s ys) (H : HH w (oldOf hp) s.hp w') : LsQ2 (oldOf hp) xs er w (.returned (oneV ys)) w' := by
  rcases h with ⟨h0, rfl⟩ | ⟨h0, k, A, c, rfl, hk⟩
  · exact ⟨H.below, .inl ⟨h0, rfl⟩⟩
  · exact ⟨H.below, .inr ⟨h0, A, c, rfl, hk ▸ H.hold k, fun b hb => H.old k b (by rw [hk]; exact hb)⟩⟩
theorem lsR_ok {c : Prop} {xs : List Int} {er : Int} {nx : Nat} {O O' : Nat → Prop} {w0 w w' : World} {hp : Hp} {e : Ending} (H : HH w0 O' hp w) (hO : ∀ b, O b → ∃ j, foot (lookH hp j) b ∧ mutb (lookH hp j) = false) (h : LsQ2 O xs er w e w') :
    ∃ u, e = .returned (den ((lsR c xs er nx).out u).1) ∧ Stp w0 hp w (lsR c xs er nx).wr ((lsR c xs er nx).out u).2 w' := by
  obtain ⟨hb, ⟨h0, rfl⟩ | ⟨h0, B, d, rfl, hs, hf⟩⟩ := h
  · simp only [lsR_n h0]
    exact ⟨⟨0, none, 0, none, 0, mz⟩, rfl, .still hb⟩
  · simp only [lsR_y h0]
    refine ⟨⟨0, B, d, none, 0, mz⟩, rfl, Stp.rd hb ⟨⟨hs, rfl⟩, trivial⟩ fun k b' hx => ?_⟩
    exact foot_look (Q := fun b => w.heap.size ≤ b ∨ ∃ j, foot (lookH hp j) b ∧ mutb (lookH hp j) = false) (l := [(_, _)]) ⟨fun b hb => (hf b hb).imp id (hO b), trivial⟩ hx
theorem lsR_vc {c : Prop} {xs : List Int} {er : Int} {nx : Nat} (h : (lsR c xs er nx).vc) : c := by
  unfold lsR at h
  cases hq : (er == 0) <;> rw [hq] at h <;> exact h
theorem ask_ok {l : List Nd} {a : Int} (h : askV l a = 0) : (chkV l).2 = 0 ∧ 0 ≤ a ∧ a < l.length ∧ nuV l a.toNat = false := by
  rw [askV] at h
  by_cases h0 : (chkV l).2 = 0
  · rw [if_neg (by simp [h0])] at h
    by_cases h1 : a < 0 ∨ (l.length : Int) ≤ a ∨ nuV l a.toNat = true
    · rw [if_pos h1] at h; cases h
    · refine ⟨h0, by omega, by omega, ?_⟩
      cases e : nuV l a.toNat with
      | false => rfl
      | true => exact absurd (.inr (.inr e)) h1
  · rw [if_pos h0] at h; exact absurd h h0
def sizV (l : List Nd) (a : Int) : Int := if askV l a = 0 then (eR l a.toNat : Int) - a else 0
end Pr
end Go.Proofs.YtpkldfkmokeamaaGreatDoor
