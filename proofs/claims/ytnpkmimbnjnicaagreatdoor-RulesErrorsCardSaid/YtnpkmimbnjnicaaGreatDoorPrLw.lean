/-
What the listed variables give the walks of chapter 12; a world that holds them.
-/
import Derived.Test.YtnpkmimbnjnicaaGreatDoorLwA
import Derived.Test.YtnpkmimbnjnicaaGreatDoorPa1
import Derived.Test.YtnpkmimbnjnicaaGreatDoorCards
import Derived.Test.YtnpkmimbnjnicaaGreatDoorTie
import Derived.LaidMore
import Derived.Stop.Joined
set_option linter.unusedSimpArgs false
set_option linter.unusedVariables false
namespace Go.Proofs.YtnpkmimbnjnicaaGreatDoor
namespace Pr
open Go Go.RowKit En
open Go.ChangeShapes Go.WideShapes Go.ChangeAt Lw
theorem gNum : Tryz.prog.globalNamed "invigilator/prims.numbers" = some 0 := by kernel_rfl
theorem gAli : Tryz.prog.globalNamed "invigilator/prims.alike" = some 1 := by kernel_rfl
theorem tNum : (Tryz.prog.globals[0]?).map (·.type) = some 30 := by kernel_rfl
theorem tAli : (Tryz.prog.globals[1]?).map (·.type) = some 30 := by kernel_rfl
theorem strs_inj {H : Type} {l m : List ByteArray} (h : (strs l : List (DataW H)) = strs m) : l = m := by
  induction l generalizing m with
  | nil => cases m with
    | nil => rfl
    | cons y m => simp [strs] at h
  | cons x l ih =>
    cases m with
    | nil => simp [strs] at h
    | cons y m =>
      simp only [strs, List.map_cons, List.cons.injEq, DataW.lit.injEq, Lit.string.injEq] at h
      have e : x = y := by
        cases x; cases y
        simp only [ByteArray.mk.injEq]
        exact Array.ext' h.1
      rw [e, ih (m := m) h.2]
set_option maxRecDepth 100000 in
theorem strs_laid {W : World} {g : Nat} {cs : Array Value} {fuel : Nat} {d : DataW Unit} {q : List MemPlace} {l : List ByteArray} (h : DataW.trod (fun _ => ()) Tryz.prog W 0 (fun _ => true) false fuel 30 cs.toList = some (d, q))
    (hne : 0 < l.length) (hx : d = .slice (strs l) []) (hc : ∀ j, W.cell? ⟨g, j, none⟩ = cs[j]?) :
    ∃ b o c, l.length ≤ c ∧ W.cell? ⟨g, 0, none⟩ = some (.slice (some ⟨b, o, none⟩) l.length c) ∧ b < W.heap.size ∧ ∀ i, i < l.length → W.cell? ⟨b, o + i, none⟩ = some (.string (l.getD i ByteArray.empty)) := by
  rcases open_strings Tryz.underlying30 Tryz.underlying9 (by kernel_rfl) h with ⟨_, e⟩ | ⟨ad, len, cap, ss, e4, _, hlc, hcm, hnl, e, hcell, _⟩
  · rw [hx] at e
    simp only [Prod.mk.injEq] at e
    cases e.1
  · rw [hx] at e
    simp only [Prod.mk.injEq, DataW.slice.injEq] at e
    have h1 := strs_inj e.1.1
    have h2 := strs_inj (l := []) e.1.2
    have hss : l = ss := by rw [h1, ← List.append_nil (ss.take len), h2, List.take_append_drop]
    simp at hnl
    have hdl : ss.length ≤ len := by
      have := congrArg List.length h2
      simp at this; omega
    have hll : l.length = len := by rw [hss]; omega
    subst hss
    obtain ⟨b, o, rfl, hb, hat⟩ := cells_at (α := Unit) (f := fun i => .string (l.getD i ByteArray.empty)) hcell hne
    refine ⟨b, o, cap, by omega, ?_, hb, hat⟩
    rw [hc 0, ← Array.getElem?_toList, e4, hll]
    rfl
theorem cst_strs {w : World} {b o : Nat} {l : List ByteArray} {cs : List SV} (hs : strsOf cs = some l) (hb : b < w.heap.size) (h : ∀ i, i < l.length → w.cell? ⟨b, o + i, none⟩ = some (.string (l.getD i ByteArray.empty))) : Hold w.heap.size w (.cst b o cs) := by
  refine ⟨hb, fun j v hv => ?_⟩
  rw [strsOf_map hs] at hv
  simp only [List.getElem?_map, Option.map_eq_some_iff] at hv
  obtain ⟨x, hx, rfl⟩ := hv
  have hj := (List.getElem?_eq_some_iff.1 hx).1
  rw [h j hj]
  simp [List.getD, hx]
theorem cst_one {w : World} {g : Nat} {v : SV} (h : w.cell? ⟨g, 0, none⟩ = some (den v)) : Hold w.heap.size w (.cst g 0 [v]) := by
  refine ⟨block_lt_of_cell h, fun j u hu => ?_⟩
  match j, hu with
  | 0, hu => cases hu; exact h
end Pr
end Go.Proofs.YtnpkmimbnjnicaaGreatDoor
