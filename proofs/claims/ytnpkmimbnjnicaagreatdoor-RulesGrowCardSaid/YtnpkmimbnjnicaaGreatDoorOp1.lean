/-
Arguments, opened: an array of two ints; what a number's kind says of it (chapter 25).
-/
import Derived.Test.YtnpkmimbnjnicaaGreatDoorLwA
set_option linter.unusedSimpArgs false
set_option linter.unusedVariables false
namespace Go.Proofs.YtnpkmimbnjnicaaGreatDoor
namespace Pr
open Go Go.RowKit En
open Go.ChangeShapes Go.WideShapes Go.ChangeAt Lw
theorem okWide_arr {P : Program} {w : World} {r : Reach} {base n : Nat} {t e : TypeId} {v : Value} (ht : P.underlying t = some (.array n e)) (h : Value.okWide P w r base t v) : ∃ cs, v = .agg cs ∧ cs.size = P.cellsOf t := by
  simp only [Value.okWide, ht] at h
  obtain ⟨cs, h1, h2, _⟩ := h
  exact ⟨cs, h1, h2⟩
theorem wfR {k : IntKind} {x : Int} (h : (Lit.int k x).wf = true) : inr k x := by
  cases k <;> simp [Lit.wf, IntKind.min, IntKind.max, IntKind.bits, IntKind.signed] at h <;> simp only [En.inr, En.lo, En.hi] <;> omega
theorem wf16 {x : Int} (h : (Lit.int .u16 x).wf = true) : 0 ≤ x ∧ x ≤ 65535 := by
  simp [Lit.wf, IntKind.min, IntKind.max, IntKind.bits, IntKind.signed] at h
  omega
theorem wf16s {xs : List Int} (h : ∀ x ∈ xs, (Lit.int .u16 x).wf = true) : ∀ i, i < xs.length → 0 ≤ xs.getD i 0 ∧ xs.getD i 0 ≤ 65535 := by
  intro i hi
  rw [List.getD_eq_getElem?_getD, List.getElem?_eq_getElem hi]
  exact wf16 (h _ (List.getElem_mem hi))
set_option maxRecDepth 100000 in
theorem open_i2 {H : Type} {enc : TypeId × Value → H} {w : World} {r : Reach} {b0 : Nat} {v : Value} {d : DataW H} {p : List MemPlace} (hv : Value.okWide Tryz.prog w r b0 34 v) (h : DataW.Trod enc Tryz.prog w 0 (fun _ => true) true 34 v d p) :
    ∃ x0 x1 : Int, v = .agg #[.int .i64 x0, .int .i64 x1] ∧ (Lit.int .i64 x0).wf = true ∧ (Lit.int .i64 x1).wf = true := by
  obtain ⟨cs, rfl, hsz⟩ := okWide_arr Tryz.underlying34 hv
  have c4 : Tryz.prog.cellsOf 34 = 2 := by kernel_rfl
  have c1 : Tryz.prog.cellsOf 3 = 1 := by kernel_rfl
  have hsz4 : cs.size = 2 := hsz.trans c4
  obtain ⟨l⟩ := cs
  match l, hsz4 with
  | [v0, v1], _ =>
    obtain ⟨fuel, hf⟩ := h
    obtain ⟨zs, m, _, hz, _, hzl, hze⟩ := DataW.trod_array Tryz.underlying34 hf
    have z0 := hze 0 (by omega)
    have z1 := hze 1 (by omega)
    rw [c1] at z0 z1
    match zs, hzl with
    | [u0, u1], _ =>
      obtain ⟨x0, e0, _, f0⟩ := DataW.trod_int Tryz.underlying3 z0
      obtain ⟨x1, e1, _, f1⟩ := DataW.trod_int Tryz.underlying3 z1
      simp [Value.cells] at e0 e1
      subst e0; subst e1
      exact ⟨x0, x1, rfl, f0, f1⟩
theorem mapM_get {α β : Type} {f : α → Option β} : ∀ {l : List α} {cs : List β}, l.mapM f = some cs → cs.length = l.length ∧ ∀ i (h : i < l.length), f l[i] = cs[i]?
  | [], cs, h => by
    simp at h; subst h; exact ⟨rfl, fun i h => absurd h (Nat.not_lt_zero i)⟩
  | a :: l, cs, h => by
    rw [List.mapM_cons] at h
    cases ha : f a with
    | none => rw [ha] at h; cases h
    | some b =>
      rw [ha] at h
      cases hl : l.mapM f with
      | none => rw [hl] at h; cases h
      | some bs =>
        rw [hl] at h
        cases h
        obtain ⟨h1, h2⟩ := mapM_get hl
        refine ⟨by simp [h1], fun i hi => ?_⟩
        cases i with
        | zero => simpa using ha
        | succ i => simpa using h2 i (by simpa using hi)
theorem cells_get {w : World} {base n : Nat} {a : Addr} {cs : List Value} (h : w.cells? base a n = some cs) : cs.length = n ∧ ∀ i, i < n → w.cell? (a.add i) = cs[i]? := by
  unfold World.cells? at h
  split at h
  · obtain ⟨h1, h2⟩ := mapM_get h
    simp only [List.length_range] at h1 h2
    refine ⟨h1, fun i hi => ?_⟩
    have := h2 i hi
    rwa [List.getElem_range] at this
  · cases h
section
variable {H : Type} {enc : TypeId × Value → H} {P : Program} {w : World} {base : Nat} {sp : Nat → Bool} {held : Bool}
theorem open_recs {t e : TypeId} {z fuel : Nat} {cs : List Value} {x : DataW H × List MemPlace} (ht : P.underlying t = some (.slice e)) (hc : P.cellsOf e = z) (hz : 0 < z) (h : DataW.trod enc P w base sp held fuel t cs = some x) :
    ∃ (A : Option Addr) (c n : Nat) (g : Nat → List Value), cs = [.slice A n c] ∧ n ≤ maxLen ∧ (∀ i, i < n → (g i).length = z ∧ ∃ m y, DataW.trod enc P w base sp held m e (g i) = some y) ∧ SlOk w A c z n (fun i j => (g i).getD j undef) := by
  rcases DataW.trod_slice ht h with ⟨rfl, _⟩ | ⟨a, n, c, elems, rest, m, _, rfl, _, _, hlc, hcm, hel, hcell, _⟩
  · exact ⟨none, 0, 0, fun _ => [], rfl, Nat.zero_le _, fun i hi => absurd hi (Nat.not_lt_zero i), Nat.le_refl 0, fun h => absurd rfl h⟩
  · rw [hc] at hcell
    have key : ∀ i, ∃ cs : List Value, i < n → (cs.length = z ∧ (∀ j, j < z → w.cell? ((a.add (i * z)).add j) = cs[j]?) ∧ ∃ y, DataW.trod enc P w base sp held m e cs = some y) := by
      intro i
      by_cases hi : i < n
      · have h1 := hcell i hi
        have h2 : elems[i]? = some elems[i] := List.getElem?_eq_getElem (by omega)
        rw [h2] at h1
        cases hcs : w.cells? base (a.add (i * z)) z with
        | none => rw [hcs] at h1; cases h1
        | some cs =>
          rw [hcs] at h1
          obtain ⟨k1, k2⟩ := cells_get hcs
          exact ⟨cs, fun _ => ⟨k1, k2, _, h1⟩⟩
      · exact ⟨[], fun h => absurd h hi⟩
    obtain ⟨g, hg⟩ : ∃ g : Nat → List Value, ∀ i, i < n → ((g i).length = z ∧ (∀ j, j < z → w.cell? ((a.add (i * z)).add j) = (g i)[j]?) ∧ ∃ y, DataW.trod enc P w base sp held m e (g i) = some y) := ⟨fun i => (key i).choose, fun i hi => (key i).choose_spec hi⟩
    refine ⟨some a, c, n, g, rfl, by omega, fun i hi => ⟨(hg i hi).1, m, (hg i hi).2.2⟩, hlc, fun hn => ?_⟩
    have c0 := (hg 0 (by omega)).2.1 0 hz
    have e0 : (a.add (0 * z)).add 0 = a := by cases a; simp [Addr.add]
    have l0 := (hg 0 (by omega)).1
    rw [e0, List.getElem?_eq_getElem (by rw [l0]; exact hz)] at c0
    obtain ⟨b, o, idx⟩ := a
    cases idx with
    | some q =>
      exfalso
      simp only [World.cell?] at c0
      split at c0
      · simp at c0
      · cases c0
    | none =>
      have e1 : ∀ i j, ((⟨b, o, none⟩ : Addr).add i).add j = ⟨b, o + (i + j), none⟩ := fun i j => by rw [addr_add, addr_add, Nat.add_assoc]
      refine ⟨b, o, rfl, block_lt_of_cell c0, fun i hi j hj => ?_⟩
      have h1 := (hg i hi).2.1 j hj
      have l1 := (hg i hi).1
      rw [e1] at h1
      rw [h1]
      show (g i)[j]? = some ((g i).getD j undef)
      rw [List.getD_eq_getElem?_getD, List.getElem?_eq_getElem (by rw [l1]; exact hj)]
      rfl
end
end Pr
end Go.Proofs.YtnpkmimbnjnicaaGreatDoor
