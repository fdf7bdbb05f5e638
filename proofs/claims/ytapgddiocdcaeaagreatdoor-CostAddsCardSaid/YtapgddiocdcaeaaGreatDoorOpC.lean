/-
An argument that is a list of functions, opened (chapter 25).
-/
import Derived.Test.YtapgddiocdcaeaaGreatDoorOpB
import Derived.Test.YtapgddiocdcaeaaGreatDoorCp1
set_option linter.unusedSimpArgs false
set_option linter.unusedVariables false
namespace Go.Proofs.YtapgddiocdcaeaaGreatDoor
namespace Pr
open Go Go.RowKit En
open Ex
open Go.ChangeShapes Go.WideShapes Go.ChangeAt Lw
set_option maxRecDepth 100000 in
/-- the cells of a function -/
theorem trod_def {H : Type} {enc : TypeId × Value → H} {w : World} {base : Nat} {sp : Nat → Bool} {held : Bool} {m : Nat} {cs : List Value} {y : DataW H × List MemPlace} (h : DataW.trod enc Tryz.prog w base sp held m 53 cs = some y) :
    ∃ d : Df, (∀ k, cs = dens (dfC k d)) ∧ d.body.length ≤ 9223372036854775807 ∧ zsM d.body ∧ d.np ≤ 9223372036854775807 ∧ ∀ B, Hold B w (.recs d.bA d.bc 7 d.body.length fun i => ndC (ndAt d.body i)) := by
  have c3 : Tryz.prog.cellsOf 53 = 3 := by kernel_rfl
  obtain ⟨xs, n, _, hx, hl, hlen, hg⟩ := DataW.trod_struct Tryz.underlying53 h
  rw [c3] at hl
  match cs, hl with
  | [v0, v1, v2], _ =>
    match xs, hlen with
    | [y0, y1, y2], _ =>
      have cc : Tryz.prog.cellsOf 9 = 1 := by kernel_rfl
      have c1 : Tryz.prog.cellsOf 51 = 1 := by kernel_rfl
      have c2 : Tryz.prog.cellsOf 30 = 1 := by kernel_rfl
      have g0 : DataW.trod enc Tryz.prog w base sp held n 9 (([v0, v1, v2].drop 0).take (Tryz.prog.cellsOf 9)) = some y0 := hg 0 _ rfl
      have g1 : DataW.trod enc Tryz.prog w base sp held n 51 (([v0, v1, v2].drop 1).take (Tryz.prog.cellsOf 51)) = some y1 := hg 1 _ rfl
      have g2 : DataW.trod enc Tryz.prog w base sp held n 30 (([v0, v1, v2].drop 2).take (Tryz.prog.cellsOf 30)) = some y2 := hg 2 _ rfl
      rw [cc] at g0
      rw [c1] at g1
      rw [c2] at g2
      obtain ⟨nm, e0, _, _⟩ := DataW.trod_string Tryz.underlying9 g0
      obtain ⟨pA, pc, np, _, e1, hp, _, _⟩ := open_recs Tryz.underlying51 (z := 1) (by kernel_rfl) (by decide) g1
      obtain ⟨bA, bc, l, e2, h1, h2, h3⟩ := trod_nodes g2
      simp at e0 e1 e2
      subst e0; subst e1; subst e2
      have hm : maxLen = 9223372036854775807 := by decide
      exact ⟨⟨nm, np, pA, pc, bA, bc, l⟩, fun k => rfl, h1, h2, by rw [← hm]; exact hp, h3⟩
set_option maxRecDepth 100000 in
theorem trod_defs {H : Type} {enc : TypeId × Value → H} {w : World} {base : Nat} {sp : Nat → Bool} {held : Bool} {m : Nat} {cs : List Value} {y : DataW H × List MemPlace} (h : DataW.trod enc Tryz.prog w base sp held m 29 cs = some y) :
    ∃ (A : Option Addr) (c : Nat) (ds : List Df), cs = [.slice A ds.length c] ∧ ds.length ≤ 9223372036854775807 ∧ dfM ds ∧ ∀ B k, Hold B w (dfH k ds A c) ∧ Hold B w (dfD ds) := by
  obtain ⟨A, c, n, g, rfl, hn, hg, hs⟩ := open_recs Tryz.underlying29 (z := 3) (by kernel_rfl) (by decide) h
  have hd : ∀ i, ∃ d : Df, i < n → (∀ k, g i = dens (dfC k d)) ∧ d.body.length ≤ 9223372036854775807 ∧ zsM d.body ∧ d.np ≤ 9223372036854775807 ∧ ∀ B, Hold B w (.recs d.bA d.bc 7 d.body.length fun i => ndC (ndAt d.body i)) := fun i => by
    by_cases hi : i < n
    · obtain ⟨_, m, y, hy⟩ := hg i hi
      obtain ⟨d, h1⟩ := trod_def hy
      exact ⟨d, fun _ => h1⟩
    · exact ⟨dfZ, fun h => absurd h hi⟩
  obtain ⟨f, hf⟩ : ∃ f : Nat → Df, ∀ i, i < n → ((∀ k, g i = dens (dfC k (f i))) ∧ (f i).body.length ≤ 9223372036854775807 ∧ zsM (f i).body ∧ (f i).np ≤ 9223372036854775807 ∧ ∀ B, Hold B w (.recs (f i).bA (f i).bc 7 (f i).body.length fun j => ndC (ndAt (f i).body j))) := ⟨fun i => (hd i).choose, fun i hi => (hd i).choose_spec hi⟩
  have hl : ((List.range n).map f).length = n := by simp
  have hat : ∀ i, i < n → dfAt ((List.range n).map f) i = f i := fun i hi => by
    simp [dfAt, List.getD_eq_getElem?_getD, hi]
  have hm : maxLen = 9223372036854775807 := by decide
  refine ⟨A, c, (List.range n).map f, by rw [hl], by rw [hl, ← hm]; exact hn, fun i hi => ?_, fun B k => ⟨?_, ?_⟩⟩
  · rw [hl] at hi
    rw [hat i hi]
    obtain ⟨_, h1, h2, h3, _⟩ := hf i hi
    exact ⟨h1, h2, h3⟩
  · simp only [dfH, hl]
    refine ⟨hs.congr fun i hi j hj => ?_, fun i hi => rfl⟩
    simp only [hat i hi, (hf i hi).1 k]
  · simp only [dfD, hl]
    intro i hi
    simp only [hat i hi]
    obtain ⟨_, _, _, _, h4⟩ := hf i hi
    exact ⟨⟨(h4 B).1, fun r hr => rfl⟩, fun h => by cases h⟩
set_option maxRecDepth 100000 in
theorem open_defs {H : Type} {enc : TypeId × Value → H} {w : World} {r : Reach} {b0 : Nat} {v : Value} {d : DataW H} {p : List MemPlace} (hv : Value.okWide Tryz.prog w r b0 29 v) (h : DataW.Trod enc Tryz.prog w 0 (fun _ => true) true 29 v d p) :
    ∃ (A : Option Addr) (c : Nat) (ds : List Df), v = .slice A ds.length c ∧ ds.length ≤ 9223372036854775807 ∧ dfM ds ∧ ∀ B k, Hold B w (dfH k ds A c) ∧ Hold B w (dfD ds) := by
  obtain ⟨a, n, c, rfl⟩ := okWide_slice Tryz.underlying29 hv
  obtain ⟨fuel, hf⟩ := h
  have hf : DataW.trod enc Tryz.prog w 0 (fun _ => true) true fuel 29 [.slice a n c] = some (d, p) := hf
  obtain ⟨A, c', l, e, h1, h2, h3⟩ := trod_defs hf
  simp only [List.cons.injEq, and_true] at e
  exact ⟨A, c', l, e, h1, h2, h3⟩
end Pr
end Go.Proofs.YtapgddiocdcaeaaGreatDoor
