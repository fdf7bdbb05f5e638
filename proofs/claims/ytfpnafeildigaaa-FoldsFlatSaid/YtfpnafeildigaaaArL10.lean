/-
The walk of ExtendTurns (chapter 10).
-/
import Derived.Test.YtfpnafeildigaaaBb4
set_option linter.unusedSimpArgs false
set_option linter.unusedVariables false
namespace Go.Proofs.Ytfpnafeildigaaa
namespace Ar
open Go.RowKit Sc
theorem Arr5.far {w : World} {g h : Nat} {u0 u1 u2 u3 u4 : Value} (h5 : Arr5 w h u0 u1 u2 u3 u4) (hne : h ≠ g) (o : Nat) (v : Value) : Arr5 (w.setCell ⟨g, o, none⟩ v) h u0 u1 u2 u3 u4 := by
  obtain ⟨h0, h1, h2, h3, h4⟩ := h5
  have k : ∀ q, (⟨g, o, none⟩ : Addr) ≠ ⟨h, q, none⟩ := fun q e => hne (congrArg Addr.block e).symm
  exact ⟨(World.cell?_setCell_other _ _ _ _ (k _)).trans h0, (World.cell?_setCell_other _ _ _ _ (k _)).trans h1, (World.cell?_setCell_other _ _ _ _ (k _)).trans h2, (World.cell?_setCell_other _ _ _ _ (k _)).trans h3, (World.cell?_setCell_other _ _ _ _ (k _)).trans h4⟩
theorem Sl.far {w : World} {A : Option Addr} {xs : List Int} {g : Nat} (h : Sl w A xs) (hne : xs ≠ [] → ∀ b o, A = some ⟨b, o, none⟩ → b ≠ g) (o : Nat) (v : Value) : Sl (w.setCell ⟨g, o, none⟩ v) A xs := fun hn => by
  obtain ⟨b, q, e, hl, hc⟩ := h hn
  have := hne hn b q e
  exact ⟨b, q, e, by simpa [World.setCell] using hl, fun j hj => (World.cell?_setCell_other w _ _ v (fun e => this (congrArg Addr.block e).symm)).trans (hc j hj)⟩
end Ar
end Go.Proofs.Ytfpnafeildigaaa
