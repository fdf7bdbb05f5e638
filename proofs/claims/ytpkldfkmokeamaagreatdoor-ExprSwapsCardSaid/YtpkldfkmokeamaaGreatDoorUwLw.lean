/-
What the four listed variables give the walks of chapters 15, 16 and 25; a world that holds them.
-/
import Derived.Test.YtpkldfkmokeamaaGreatDoorPrLw
import Derived.Test.YtpkldfkmokeamaaGreatDoorNb1
import Derived.Test.YtpkldfkmokeamaaGreatDoorShelf
import Derived.Lib.LaidU8T
set_option linter.unusedSimpArgs false
set_option linter.unusedVariables false
namespace Go.Proofs.YtpkldfkmokeamaaGreatDoor
namespace Pr
open Go Go.RowKit En
open Go.ChangeShapes Go.WideShapes Go.ChangeAt Lw
abbrev laidU : List (String × DataW Unit) := [("unicode/utf8.acceptRanges", Rows.laid_unicode_utf8_acceptRanges), ("invigilator/prims.numbers", Rows.laid_invigilator_prims_numbers), ("invigilator/prims.alike", Rows.laid_invigilator_prims_alike), ("unicode/utf8.first", Rows.laid_unicode_utf8_first)]
theorem first_data : Rows.laid_unicode_utf8_first = Lib.firstData := by kernel_rfl
theorem accept_data : Rows.laid_unicode_utf8_acceptRanges = Lib.acceptData := by kernel_rfl
theorem tabs_hold {w : World} (h : Lib.Utf8Tabs 2 3 w) : Hold w.heap.size w (.cst 2 0 tabF) ∧ Hold w.heap.size w (.cst 3 0 tabA) := by
  obtain ⟨h1, h2⟩ := h
  refine ⟨⟨block_lt_of_cell (h1 0 (by decide)), fun j v hv => ?_⟩, ⟨block_lt_of_cell (h2 0 (by decide)).1, fun j v hv => ?_⟩⟩
  · simp only [tabF, dens_eq, List.map_map, List.getElem?_map, Option.map_eq_some_iff] at hv
    obtain ⟨x, hx, rfl⟩ := hv
    obtain ⟨hj, e⟩ := List.getElem?_eq_some_iff.1 hx
    simp only [List.length_range, List.getElem_range] at hj e
    subst e
    rw [Nat.zero_add]; exact h1 j hj
  · simp only [tabA, dens_eq, List.map_map, List.getElem?_map, Option.map_eq_some_iff] at hv
    obtain ⟨x, hx, rfl⟩ := hv
    obtain ⟨hj, e⟩ := List.getElem?_eq_some_iff.1 hx
    simp only [List.length_range, List.getElem_range] at hj e
    subst e
    have := h2 (j / 2) (by omega)
    rw [Nat.zero_add]
    by_cases hm : j % 2 = 0
    · have e : 2 * (j / 2) = j := by omega
      have h3 := this.1
      rw [e] at h3
      rw [h3]; simp [den, hm]
    · have e : 2 * (j / 2) + 1 = j := by omega
      have h3 := this.2
      rw [e] at h3
      rw [h3]; simp [den, hm]
theorem globU_of_laid {W : World} (h : laidMetH Tryz.prog laidU W) : ∃ bn on cn ba oa ca, 4 ≤ cn ∧ 3 ≤ ca ∧ allRd W.heap.size W (gHu bn on cn ba oa ca) := by
  rw [MakeChecks.laidMetH_plain _ _ _ (by kernel_rfl)] at h
  have r1 := Lib.laidMet.reads h (.tail _ (.head _))
  have r2 := Lib.laidMet.reads h (.tail _ (.tail _ (.head _)))
  have r3 := Lib.laidMet.reads h (.tail _ (.tail _ (.tail _ (.head _))))
  have r4 := Lib.laidMet.reads h (.head _)
  rw [first_data] at r3
  rw [accept_data] at r4
  have ht : Lib.Utf8Tabs 2 3 W := utf8Tabs_of_readsT (U8Types.of196 laysValid) ⟨by kernel_rfl, by kernel_rfl, by kernel_rfl, by kernel_rfl, by kernel_rfl, by kernel_rfl, by kernel_rfl⟩ r3 r4
  obtain ⟨u1, u2⟩ := tabs_hold ht
  obtain ⟨g0, t0, cs0, f0, p0, hg0, ht0, hv0, hd0⟩ := r1
  obtain ⟨g1, t1, cs1, f1, p1, hg1, ht1, hv1, hd1⟩ := r2
  obtain rfl := Option.some.inj (gNum.symm.trans hg0)
  obtain rfl := Option.some.inj (gAli.symm.trans hg1)
  obtain rfl := Option.some.inj (tNum.symm.trans ht0)
  obtain rfl := Option.some.inj (tAli.symm.trans ht1)
  obtain ⟨bn, on, cn, c4, n0, nb, nc⟩ := strs_laid (l := [⟨#[105, 110, 105, 110]⟩, ⟨#[105, 48, 105, 110, 105, 110]⟩, ⟨#[105, 110, 105, 48, 105, 110]⟩, ⟨#[105, 110, 105, 110, 105, 110]⟩]) hd0 (by decide) rfl (fun j => World.var?_cell hg0 hv0 j)
  obtain ⟨ba, oa, ca, c3, a0, ab, ac⟩ := strs_laid (l := [⟨#[107, 48, 107, 110, 105, 110]⟩, ⟨#[107, 110, 107, 48, 105, 110]⟩, ⟨#[107, 110, 107, 110, 105, 110]⟩]) hd1 (by decide) rfl (fun j => World.var?_cell hg1 hv1 j)
  exact ⟨bn, on, cn, ba, oa, ca, c4, c3, ⟨u1, rfl⟩, ⟨u2, rfl⟩, ⟨cst_one n0, rfl⟩, ⟨cst_one a0, rfl⟩, ⟨cst_strs (by rfl) nb nc, rfl⟩, ⟨cst_strs (by rfl) ab ac, rfl⟩, trivial⟩
noncomputable def doorU (os : Os) : World :=
  { World.doorLaid Tryz.prog 400 os with heap := (World.doorLaid Tryz.prog 400 os).heap.modify 2 fun o => match o with
      | .cells _ t fz => .cells (Lib.firstTab.map fun z => Value.int .u8 z).toArray t fz
      | o => o }
theorem doorU_met (os : Os) (args : Array Value) : laidMetH Tryz.prog laidU ((doorU os).forCall (fun _ _ => 0) ⟨#[], args, []⟩).memory :=
  laidMetH_of_parts3 (fuel := 8) (laidMet_of_run' 8 (by kernel_rfl) (by kernel_rfl)) (by kernel_rfl) (by kernel_rfl)
theorem noLooks : false = Tryz.pinned.checked.prog.looks [] := by kernel_rfl
end Pr
end Go.Proofs.YtpkldfkmokeamaaGreatDoor
