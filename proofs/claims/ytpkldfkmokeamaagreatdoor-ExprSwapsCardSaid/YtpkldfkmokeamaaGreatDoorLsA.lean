/-
Chapter 15: the walk of ExprLists.
-/
import Derived.Test.YtpkldfkmokeamaaGreatDoorSo1
import Derived.Test.YtpkldfkmokeamaaGreatDoorAx1
set_option linter.unusedSimpArgs false
set_option linter.unusedVariables false
namespace Go.Proofs.YtpkldfkmokeamaaGreatDoor
namespace Pr
open Go Go.RowKit En
open Ex Rf Go.Sort
def chX (n : Nat) : Ch → List Nd
  | .rowV _ _ _ _ _ cs => nodesL n fun i => cut cs (i * 7) 7
  | x => chL n x
def NdX (A : Option Addr) (n c : Nat) : Ch → Prop
  | .rowV A' c' _ z n' cs => A' = A ∧ c' = c ∧ n' = n ∧ z = 7 ∧ cs = (nodesL n fun i => cut cs (i * 7) 7).flatMap ndC
  | x => NdR A n c x
theorem chX_r {n z n' c : Nat} {A : Option Addr} {f : Nat → List SV} : chX n (.recs A c z n' f) = chL n (.recs A c z n' f) := rfl
theorem NdX_r {n m z n' c : Nat} {A B : Option Addr} {f : Nat → List SV} : NdX B n m (.recs A c z n' f) = NdR B n m (.recs A c z n' f) := rfl
theorem NdX_hold {A : Option Addr} {n c B : Nat} {w : World} {x : Ch} (h : NdX A n c x) (hh : Hold B w x) : (chX n x).length = n ∧ ∀ B', Hold B' w (.recs A c 7 (chX n x).length fun i => ndC (ndAt (chX n x) i)) := by
  unfold NdX at h
  split at h
  · next A' c' e z n' cs =>
    obtain ⟨rfl, rfl, rfl, rfl, he⟩ := h
    have hl : (chX n' (.rowV A' c' e 7 n' cs)).length = n' := nodesL_len _ _
    exact ⟨hl, fun B' => by rw [hl]; exact row_nodes hh he hl.symm⟩
  · next y hy =>
    have : chX n x = chL n x := by
      cases x <;> first | rfl | exact (hy _ _ _ _ _ _ rfl).elim
    rw [this]
    exact NdR_hold h hh
def spSameX : Spc
  | [.g k A n c, .g k2 B m d], H, _ => .is (NdX A n c (H k) ∧ NdX B m d (H k2) ∧ n ≤ 9223372036854775807 ∧ m ≤ 9223372036854775807) (.v (.bool (sameV (chX n (H k)) (chX m (H k2)))))
  | [.v (.slice none 0 0), .v (.slice none 0 0)], _, _ => .is True (.v (.bool true))
  | _, _, _ => .bad
theorem spSameX_q {k k2 n c m d : Nat} {A B : Option Addr} {H : Nat → Ch} {nx : Nat} : spSameX [.g k A n c, .g k2 B m d] H nx = .is (NdX A n c (H k) ∧ NdX B m d (H k2) ∧ n ≤ 9223372036854775807 ∧ m ≤ 9223372036854775807) (.v (.bool (sameV (chX n (H k)) (chX m (H k2))))) := rfl
theorem spSameX_ok : SpecOk Tryz.prog 27 spSameX := by
  intro args hp nx w0 O w H hv
  unfold spSameX at hv ⊢
  split at hv
  · next k A n c k2 B m d =>
    obtain ⟨h1, h2, hn, hm⟩ := hv
    obtain ⟨hl, hh⟩ := NdX_hold h1 (H.hold k)
    obtain ⟨gl, gg⟩ := NdX_hold h2 (H.hold k2)
    generalize chX n (lookH hp k) = l at hl hh ⊢
    generalize chX m (lookH hp k2) = l2 at gl gg ⊢
    subst hl
    subst gl
    refine (same15_any l l2 hn hm A c B d w ⟨⟨hh _, rfl⟩, ⟨gg _, rfl⟩, trivial⟩).mono ?_
    rintro e w' ⟨rfl, hb⟩
    exact ⟨⟨0, none, 0, none, 0, mz⟩, rfl, .still hb⟩
  · refine (same15_any [] [] (by decide) (by decide) none 0 none 0 w ⟨⟨⟨⟨by decide, fun h => absurd h (by decide)⟩, fun i hi => absurd hi (Nat.not_lt_zero i)⟩, rfl⟩, ⟨⟨⟨by decide, fun h => absurd h (by decide)⟩, fun i hi => absurd hi (Nat.not_lt_zero i)⟩, rfl⟩, trivial⟩).mono ?_
    rintro e w' ⟨rfl, hb⟩
    exact ⟨⟨0, none, 0, none, 0, mz⟩, rfl, .still hb⟩
  · exact hv.elim
theorem namV_len (l : List Nd) (q : Int) : (namV l q).length ≤ l.length := by rw [namV, List.length_map]; exact res_len l q
end Pr
end Go.Proofs.YtpkldfkmokeamaaGreatDoor
