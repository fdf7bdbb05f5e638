/-
What the listed variables give the walks of chapter 12; a world that holds them.
-/
import Derived.Test.YtnpkmimbnjnicaaGreatDoorLwA
import Derived.Test.YtnpkmimbnjnicaaGreatDoorPa1
import Derived.Test.YtnpkmimbnjnicaaGreatDoorCards
import Derived.Test.YtnpkmimbnjnicaaGreatDoorTie
import Derived.LaidMore
import Derived.Stop.Joined
set_option linter.unusedSimpArgs false
set_option linter.unusedVariables false
namespace Go.Proofs.YtnpkmimbnjnicaaGreatDoor
namespace Pr
open Go Go.RowKit En
open Go.ChangeShapes Go.WideShapes Go.ChangeAt Lw
abbrev laid12 : List (String × DataW Unit) := [("invigilator/prims.numbers", Rows.laid_invigilator_prims_numbers), ("invigilator/prims.alike", Rows.laid_invigilator_prims_alike)]
theorem gNum : Tryz.prog.globalNamed "invigilator/prims.numbers" = some 0 := by kernel_rfl
theorem gAli : Tryz.prog.globalNamed "invigilator/prims.alike" = some 1 := by kernel_rfl
theorem tNum : (Tryz.prog.globals[0]?).map (·.type) = some 30 := by kernel_rfl
theorem tAli : (Tryz.prog.globals[1]?).map (·.type) = some 30 := by kernel_rfl
theorem strs_inj {H : Type} {l m : List ByteArray} (h : (strs l : List (DataW H)) = strs m) : l = m := by
  induction l generalizing m with
  | nil => cases m with
    | nil => rfl
    | cons y m => simp [strs] at h
  | cons x l ih =>
    cases m with
    | nil => simp [strs] at h
    | cons y m =>
      simp only [strs, List.map_cons, List.cons.injEq, DataW.lit.injEq, Lit.string.injEq] at h
      have e : x = y := by
        cases x; cases y
        simp only [ByteArray.mk.injEq]
        exact Array.ext' h.1
      rw [e, ih (m := m) h.2]
set_option maxRecDepth 100000 in
theorem strs_laid {W : World} {g : Nat} {cs : Array Value} {fuel : Nat} {d : DataW Unit} {q : List MemPlace} {l : List ByteArray} (h : DataW.trod (fun _ => ()) Tryz.prog W 0 (fun _ => true) false fuel 30 cs.toList = some (d, q))
    (hne : 0 < l.length) (hx : d = .slice (strs l) []) (hc : ∀ j, W.cell? ⟨g, j, none⟩ = cs[j]?) :
    ∃ b o c, l.length ≤ c ∧ W.cell? ⟨g, 0, none⟩ = some (.slice (some ⟨b, o, none⟩) l.length c) ∧ b < W.heap.size ∧ ∀ i, i < l.length → W.cell? ⟨b, o + i, none⟩ = some (.string (l.getD i ByteArray.empty)) := by
  rcases open_strings Tryz.underlying30 Tryz.underlying9 (by kernel_rfl) h with ⟨_, e⟩ | ⟨ad, len, cap, ss, e4, _, hlc, hcm, hnl, e, hcell, _⟩
  · rw [hx] at e
    simp only [Prod.mk.injEq] at e
    cases e.1
  · rw [hx] at e
    simp only [Prod.mk.injEq, DataW.slice.injEq] at e
    have h1 := strs_inj e.1.1
    have h2 := strs_inj (l := []) e.1.2
    have hss : l = ss := by rw [h1, ← List.append_nil (ss.take len), h2, List.take_append_drop]
    simp at hnl
    have hdl : ss.length ≤ len := by
      have := congrArg List.length h2
      simp at this; omega
    have hll : l.length = len := by rw [hss]; omega
    subst hss
    obtain ⟨b, o, rfl, hb, hat⟩ := cells_at (α := Unit) (f := fun i => .string (l.getD i ByteArray.empty)) hcell hne
    refine ⟨b, o, cap, by omega, ?_, hb, hat⟩
    rw [hc 0, ← Array.getElem?_toList, e4, hll]
    rfl
theorem cst_strs {w : World} {b o : Nat} {l : List ByteArray} {cs : List SV} (hs : strsOf cs = some l) (hb : b < w.heap.size) (h : ∀ i, i < l.length → w.cell? ⟨b, o + i, none⟩ = some (.string (l.getD i ByteArray.empty))) : Hold w.heap.size w (.cst b o cs) := by
  refine ⟨hb, fun j v hv => ?_⟩
  rw [strsOf_map hs] at hv
  simp only [List.getElem?_map, Option.map_eq_some_iff] at hv
  obtain ⟨x, hx, rfl⟩ := hv
  have hj := (List.getElem?_eq_some_iff.1 hx).1
  rw [h j hj]
  simp [List.getD, hx]
theorem cst_one {w : World} {g : Nat} {v : SV} (h : w.cell? ⟨g, 0, none⟩ = some (den v)) : Hold w.heap.size w (.cst g 0 [v]) := by
  refine ⟨block_lt_of_cell h, fun j u hu => ?_⟩
  match j, hu with
  | 0, hu => cases hu; exact h
theorem glob_of_laid {W : World} (h : laidMetH Tryz.prog laid12 W) : ∃ bn on cn ba oa ca, 4 ≤ cn ∧ 3 ≤ ca ∧ allRd W.heap.size W (gHp bn on cn ba oa ca) := by
  rw [MakeChecks.laidMetH_plain _ _ _ (by kernel_rfl)] at h
  obtain ⟨ps, ⟨g0, t0, cs0, f0, p0, q0, hg0, ht0, hv0, hd0, ⟨g1, t1, cs1, f1, p1, q1, hg1, ht1, hv1, hd1, _, _⟩, _⟩, _, _⟩ := h
  obtain rfl := Option.some.inj (gNum.symm.trans hg0)
  obtain rfl := Option.some.inj (gAli.symm.trans hg1)
  obtain rfl := Option.some.inj (tNum.symm.trans ht0)
  obtain rfl := Option.some.inj (tAli.symm.trans ht1)
  obtain ⟨bn, on, cn, c4, n0, nb, nc⟩ := strs_laid (l := [⟨#[105, 110, 105, 110]⟩, ⟨#[105, 48, 105, 110, 105, 110]⟩, ⟨#[105, 110, 105, 48, 105, 110]⟩, ⟨#[105, 110, 105, 110, 105, 110]⟩]) hd0 (by decide) rfl (fun j => World.var?_cell hg0 hv0 j)
  obtain ⟨ba, oa, ca, c3, a0, ab, ac⟩ := strs_laid (l := [⟨#[107, 48, 107, 110, 105, 110]⟩, ⟨#[107, 110, 107, 48, 105, 110]⟩, ⟨#[107, 110, 107, 110, 105, 110]⟩]) hd1 (by decide) rfl (fun j => World.var?_cell hg1 hv1 j)
  exact ⟨bn, on, cn, ba, oa, ca, c4, c3, ⟨cst_one n0, rfl⟩, ⟨cst_one a0, rfl⟩, ⟨cst_strs (by rfl) nb nc, rfl⟩, ⟨cst_strs (by rfl) ab ac, rfl⟩, trivial⟩
theorem door_met (os : Os) (args : Array Value) : laidMetH Tryz.prog laid12 ((World.doorLaid Tryz.prog 400 os).forCall (fun _ _ => 0) ⟨#[], args, []⟩).memory :=
  laidMetH_of_parts3 (fuel := 8) (laidMet_of_run' 8 (by kernel_rfl) (by kernel_rfl)) (by kernel_rfl) (by kernel_rfl)
end Pr
end Go.Proofs.YtnpkmimbnjnicaaGreatDoor
