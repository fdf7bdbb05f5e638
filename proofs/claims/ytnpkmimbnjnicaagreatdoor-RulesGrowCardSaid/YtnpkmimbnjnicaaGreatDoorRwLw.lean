/-
What the four listed variables give the walks of chapter 21; a world that holds them.
-/
import Derived.Test.YtnpkmimbnjnicaaGreatDoorPrLw
import Derived.Lib.LaidU8
set_option linter.unusedSimpArgs false
set_option linter.unusedVariables false
namespace Go.Proofs.YtnpkmimbnjnicaaGreatDoor
namespace Pr
open Go Go.RowKit En
open Go.ChangeShapes Go.WideShapes Go.ChangeAt Lw
abbrev laidU : List (String × DataW Unit) := [("unicode/utf8.acceptRanges", Rows.laid_unicode_utf8_acceptRanges), ("invigilator/prims.numbers", Rows.laid_invigilator_prims_numbers), ("invigilator/prims.alike", Rows.laid_invigilator_prims_alike), ("unicode/utf8.first", Rows.laid_unicode_utf8_first)]
theorem globU_of_laid {W : World} (h : laidMetH Tryz.prog laidU W) : ∃ bn on cn ba oa ca, 4 ≤ cn ∧ 3 ≤ ca ∧ allRd W.heap.size W (gHp bn on cn ba oa ca) := by
  rw [MakeChecks.laidMetH_plain _ _ _ (by kernel_rfl)] at h
  have r1 := Lib.laidMet.reads h (.tail _ (.head _))
  have r2 := Lib.laidMet.reads h (.tail _ (.tail _ (.head _)))
  obtain ⟨g0, t0, cs0, f0, p0, hg0, ht0, hv0, hd0⟩ := r1
  obtain ⟨g1, t1, cs1, f1, p1, hg1, ht1, hv1, hd1⟩ := r2
  obtain rfl := Option.some.inj (gNum.symm.trans hg0)
  obtain rfl := Option.some.inj (gAli.symm.trans hg1)
  obtain rfl := Option.some.inj (tNum.symm.trans ht0)
  obtain rfl := Option.some.inj (tAli.symm.trans ht1)
  obtain ⟨bn, on, cn, c4, n0, nb, nc⟩ := strs_laid (l := [⟨#[105, 110, 105, 110]⟩, ⟨#[105, 48, 105, 110, 105, 110]⟩, ⟨#[105, 110, 105, 48, 105, 110]⟩, ⟨#[105, 110, 105, 110, 105, 110]⟩]) hd0 (by decide) rfl (fun j => World.var?_cell hg0 hv0 j)
  obtain ⟨ba, oa, ca, c3, a0, ab, ac⟩ := strs_laid (l := [⟨#[107, 48, 107, 110, 105, 110]⟩, ⟨#[107, 110, 107, 48, 105, 110]⟩, ⟨#[107, 110, 107, 110, 105, 110]⟩]) hd1 (by decide) rfl (fun j => World.var?_cell hg1 hv1 j)
  exact ⟨bn, on, cn, ba, oa, ca, c4, c3, ⟨cst_one n0, rfl⟩, ⟨cst_one a0, rfl⟩, ⟨cst_strs (by rfl) nb nc, rfl⟩, ⟨cst_strs (by rfl) ab ac, rfl⟩, trivial⟩
noncomputable def doorU (os : Os) : World :=
  { World.doorLaid Tryz.prog 400 os with heap := (World.doorLaid Tryz.prog 400 os).heap.modify 2 fun o => match o with
      | .cells _ t fz => .cells (Go.Pinned.utf8FirstZ.map fun (z : Nat) => Value.int .u8 (z : Int)).toArray t fz
      | o => o }
theorem doorU_met (os : Os) (args : Array Value) : laidMetH Tryz.prog laidU ((doorU os).forCall (fun _ _ => 0) ⟨#[], args, []⟩).memory :=
  laidMetH_of_parts3 (fuel := 8) (laidMet_of_run' 8 (by kernel_rfl) (by kernel_rfl)) (by kernel_rfl) (by kernel_rfl)
theorem noLooks : false = Tryz.pinned.checked.prog.looks [] := by kernel_rfl
end Pr
end Go.Proofs.YtnpkmimbnjnicaaGreatDoor
