/-
Arguments, opened: an array of two ints; what a number's kind says of it (chapter 25).
-/
import Derived.Test.YtapgddiocdcaeaaGreatDoorLwA
set_option linter.unusedSimpArgs false
set_option linter.unusedVariables false
namespace Go.Proofs.YtapgddiocdcaeaaGreatDoor
namespace Pr
open Go Go.RowKit En
open Go.ChangeShapes Go.WideShapes Go.ChangeAt Lw
theorem okWide_arr {P : Program} {w : World} {r : Reach} {base n : Nat} {t e : TypeId} {v : Value} (ht : P.underlying t = some (.array n e)) (h : Value.okWide P w r base t v) : ∃ cs, v = .agg cs ∧ cs.size = P.cellsOf t := by
  simp only [Value.okWide, ht] at h
  obtain ⟨cs, h1, h2, _⟩ := h
  exact ⟨cs, h1, h2⟩
theorem wfR {k : IntKind} {x : Int} (h : (Lit.int k x).wf = true) : inr k x := by
  cases k <;> simp [Lit.wf, IntKind.min, IntKind.max, IntKind.bits, IntKind.signed] at h <;> simp only [En.inr, En.lo, En.hi] <;> omega
theorem wf16 {x : Int} (h : (Lit.int .u16 x).wf = true) : 0 ≤ x ∧ x ≤ 65535 := by
  simp [Lit.wf, IntKind.min, IntKind.max, IntKind.bits, IntKind.signed] at h
  omega
theorem wf16s {xs : List Int} (h : ∀ x ∈ xs, (Lit.int .u16 x).wf = true) : ∀ i, i < xs.length → 0 ≤ xs.getD i 0 ∧ xs.getD i 0 ≤ 65535 := by
  intro i hi
  rw [List.getD_eq_getElem?_getD, List.getElem?_eq_getElem hi]
  exact wf16 (h _ (List.getElem_mem hi))
set_option maxRecDepth 100000 in
theorem open_i2 {H : Type} {enc : TypeId × Value → H} {w : World} {r : Reach} {b0 : Nat} {v : Value} {d : DataW H} {p : List MemPlace} (hv : Value.okWide Tryz.prog w r b0 35 v) (h : DataW.Trod enc Tryz.prog w 0 (fun _ => true) true 35 v d p) :
    ∃ x0 x1 : Int, v = .agg #[.int .i64 x0, .int .i64 x1] ∧ (Lit.int .i64 x0).wf = true ∧ (Lit.int .i64 x1).wf = true := by
  obtain ⟨cs, rfl, hsz⟩ := okWide_arr Tryz.underlying35 hv
  have c4 : Tryz.prog.cellsOf 35 = 2 := by kernel_rfl
  have c1 : Tryz.prog.cellsOf 3 = 1 := by kernel_rfl
  have hsz4 : cs.size = 2 := hsz.trans c4
  obtain ⟨l⟩ := cs
  match l, hsz4 with
  | [v0, v1], _ =>
    obtain ⟨fuel, hf⟩ := h
    obtain ⟨zs, m, _, hz, _, hzl, hze⟩ := DataW.trod_array Tryz.underlying35 hf
    have z0 := hze 0 (by omega)
    have z1 := hze 1 (by omega)
    rw [c1] at z0 z1
    match zs, hzl with
    | [u0, u1], _ =>
      obtain ⟨x0, e0, _, f0⟩ := DataW.trod_int Tryz.underlying3 z0
      obtain ⟨x1, e1, _, f1⟩ := DataW.trod_int Tryz.underlying3 z1
      simp [Value.cells] at e0 e1
      subst e0; subst e1
      exact ⟨x0, x1, rfl, f0, f1⟩
end Pr
end Go.Proofs.YtapgddiocdcaeaaGreatDoor
