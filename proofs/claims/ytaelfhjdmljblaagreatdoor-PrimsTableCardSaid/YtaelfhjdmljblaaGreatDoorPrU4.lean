/-
An argument of four bytes, opened (chapter 12).
-/
import Derived.Test.YtaelfhjdmljblaaGreatDoorLwA
set_option linter.unusedSimpArgs false
set_option linter.unusedVariables false
namespace Go.Proofs.YtaelfhjdmljblaaGreatDoor
namespace Pr
open Go Go.RowKit En
open Go.ChangeShapes Go.WideShapes Go.ChangeAt Lw
theorem wf8 {x : Int} (h : (Lit.int .u8 x).wf = true) : 0 ≤ x ∧ x ≤ 255 := by
  simp [Lit.wf, IntKind.min, IntKind.max, IntKind.bits, IntKind.signed] at h
  omega
theorem okWide_array' {P : Program} {w : World} {r : Reach} {base n : Nat} {t e : TypeId} {v : Value} (ht : P.underlying t = some (.array n e)) (h : Value.okWide P w r base t v) : ∃ cs, v = .agg cs ∧ cs.size = P.cellsOf t := by
  simp only [Value.okWide, ht] at h
  obtain ⟨cs, h1, h2, _⟩ := h
  exact ⟨cs, h1, h2⟩
set_option maxRecDepth 100000 in
theorem open_u4 {H : Type} {enc : TypeId × Value → H} {w : World} {r : Reach} {b0 : Nat} {v : Value} {d : DataW H} {p : List MemPlace} (hv : Value.okWide Tryz.prog w r b0 45 v) (h : DataW.Trod enc Tryz.prog w 0 (fun _ => true) true 45 v d p) :
    ∃ x0 x1 x2 x3 : Int, v = .agg #[.int .u8 x0, .int .u8 x1, .int .u8 x2, .int .u8 x3] ∧ (0 ≤ x0 ∧ x0 ≤ 255) ∧ (0 ≤ x1 ∧ x1 ≤ 255) ∧ (0 ≤ x2 ∧ x2 ≤ 255) ∧ (0 ≤ x3 ∧ x3 ≤ 255) := by
  obtain ⟨cs, rfl, hsz⟩ := okWide_array' Tryz.underlying45 hv
  have c4 : Tryz.prog.cellsOf 45 = 4 := by kernel_rfl
  have c1 : Tryz.prog.cellsOf 5 = 1 := by kernel_rfl
  have hsz4 : cs.size = 4 := hsz.trans c4
  obtain ⟨l⟩ := cs
  match l, hsz4 with
  | [v0, v1, v2, v3], _ =>
    obtain ⟨fuel, hf⟩ := h
    obtain ⟨zs, m, _, hz, _, hzl, hze⟩ := DataW.trod_array Tryz.underlying45 hf
    have z0 := hze 0 (by omega)
    have z1 := hze 1 (by omega)
    have z2 := hze 2 (by omega)
    have z3 := hze 3 (by omega)
    rw [c1] at z0 z1 z2 z3
    match zs, hzl with
    | [u0, u1, u2, u3], _ =>
      obtain ⟨x0, e0, _, f0⟩ := DataW.trod_int Tryz.underlying5 z0
      obtain ⟨x1, e1, _, f1⟩ := DataW.trod_int Tryz.underlying5 z1
      obtain ⟨x2, e2, _, f2⟩ := DataW.trod_int Tryz.underlying5 z2
      obtain ⟨x3, e3, _, f3⟩ := DataW.trod_int Tryz.underlying5 z3
      simp [Value.cells] at e0 e1 e2 e3
      subst e0; subst e1; subst e2; subst e3
      exact ⟨x0, x1, x2, x3, rfl, wf8 f0, wf8 f1, wf8 f2, wf8 f3⟩
end Pr
end Go.Proofs.YtaelfhjdmljblaaGreatDoor
