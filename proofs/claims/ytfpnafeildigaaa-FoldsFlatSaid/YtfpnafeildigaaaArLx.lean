/-
Arguments that hold arrays, opened, with their slices' capacities (for every seat).
-/
import Derived.Test.YtfpnafeildigaaaArLw
set_option linter.unusedSimpArgs false
set_option linter.unusedVariables false
namespace Go.Proofs.Ytfpnafeildigaaa
namespace Ar
open Go.ChangeShapes Go.WideShapes Go.ChangeAt Go.RowKit Sc
set_option maxRecDepth 100000 in
/-- five cells that read as an array -/
theorem open_arr5 {H : Type} {enc : TypeId × Value → H} {w : World} {fuel : Nat} {v0 v1 v2 v3 v4 : Value} {y : DataW H × List MemPlace}
    (hf : DataW.trod enc Try.prog w 0 (fun _ => true) true fuel 25 [v0, v1, v2, v3, v4] = some y) :
    ∃ (a : Arr) (A : Option Addr) (c : Nat), v0 = .int .i64 a.k ∧ v1 = .int .i64 a.r ∧ v2 = .int .i64 a.l0 ∧ v3 = .int .i64 a.l1 ∧ v4 = .slice A a.xs.length c ∧ Sl w A a.xs ∧ a.xs.length ≤ c ∧ a.xs.length ≤ maxLen ∧ Fits a.k ∧ Fits a.r ∧ Fits a.l0 ∧ Fits a.l1 ∧ ∀ x ∈ a.xs, Fits x := by
  obtain ⟨xs, n, _, hx, _, hlen, hg⟩ := DataW.trod_struct Try.underlying25 hf
  match xs, hlen with
  | [y0, y1, y2, y3], _ =>
    have cc : Try.prog.cellsOf 3 = 1 := by kernel_rfl
    have c2 : Try.prog.cellsOf 22 = 2 := by kernel_rfl
    have c3 : Try.prog.cellsOf 23 = 1 := by kernel_rfl
    have c6 : Try.prog.cellsOf 2 = 1 := by kernel_rfl
    have g0 : DataW.trod enc Try.prog w 0 (fun _ => true) true n 3 (([v0, v1, v2, v3, v4].drop 0).take (Try.prog.cellsOf 3)) = some y0 := hg 0 _ rfl
    have g1 : DataW.trod enc Try.prog w 0 (fun _ => true) true n 3 (([v0, v1, v2, v3, v4].drop 1).take (Try.prog.cellsOf 3)) = some y1 := hg 1 _ rfl
    have g2 : DataW.trod enc Try.prog w 0 (fun _ => true) true n 22 (([v0, v1, v2, v3, v4].drop 2).take (Try.prog.cellsOf 22)) = some y2 := hg 2 _ rfl
    have g3 : DataW.trod enc Try.prog w 0 (fun _ => true) true n 23 (([v0, v1, v2, v3, v4].drop 4).take (Try.prog.cellsOf 23)) = some y3 := hg 3 _ rfl
    rw [cc] at g0 g1
    rw [c2] at g2
    rw [c3] at g3
    obtain ⟨k, e0, _, f0⟩ := DataW.trod_int Try.underlying3 g0
    obtain ⟨r', e1, _, f1⟩ := DataW.trod_int Try.underlying3 g1
    obtain ⟨zs, m, _, hz, _, hzl, hze⟩ := DataW.trod_array Try.underlying22 g2
    have z0 := hze 0 (by omega)
    have z1 := hze 1 (by omega)
    rw [cc] at z0 z1
    match zs, hzl with
    | [u0, u1], _ =>
      obtain ⟨l0, e2, _, f2⟩ := DataW.trod_int Try.underlying3 z0
      obtain ⟨l1, e3, _, f3⟩ := DataW.trod_int Try.underlying3 z1
      simp at e0 e1 e2 e3
      subst e0; subst e1; subst e2; subst e3
      rcases open_ints Try.underlying23 Try.underlying2 c6 g3 with ⟨e4, hx3⟩ | ⟨ad, len, cap, ns, e4, _, hlc, hcm, hnl, hx3, hcell, hwf⟩
      · simp at e4
        subst e4
        exact ⟨⟨k, r', l0, l1, []⟩, none, 0, rfl, rfl, rfl, rfl, rfl, Sl.nil _ _, by simp, by simp, wf_fits f0, wf_fits f1, wf_fits f2, wf_fits f3, by simp⟩
      · simp at e4
        subst e4
        simp at hnl
        have hlen : (ns.take len).length = len := by simp; omega
        refine ⟨⟨k, r', l0, l1, ns.take len⟩, some ad, cap, rfl, rfl, rfl, rfl, by simp [hlen], fun hne => ?_, by show (ns.take len).length ≤ _; omega, by show (ns.take len).length ≤ _; omega, wf_fits f0, wf_fits f1, wf_fits f2, wf_fits f3, fun x hx => wf_fits (hwf x (List.mem_of_mem_take hx))⟩
        have hp : 0 < ns.length := by
          rcases Nat.eq_zero_or_pos ns.length with h0 | h0
          · exact absurd (by rw [List.eq_nil_of_length_eq_zero h0]; simp) hne
          · exact h0
        obtain ⟨b, off, rfl, hc⟩ := ints_at hcell hp
        refine ⟨b, off, rfl, block_lt_of_cell (hc 0 hp), fun j hj => ?_⟩
        have hj' : j < len := by rw [hlen] at hj; exact hj
        rw [hc j (by omega)]
        simp [List.getD_eq_getElem?_getD, List.getElem?_take, hj']
set_option maxRecDepth 100000 in
/-- an argument that is an array, opened -/
theorem open_arrc {H : Type} {enc : TypeId × Value → H} {w : World} {r : Reach} {b0 : Nat} {v : Value} {d : DataW H} {p : List MemPlace}
    (hv : Value.okWide Try.prog w r b0 25 v) (h : DataW.Trod enc Try.prog w 0 (fun _ => true) true 25 v d p) :
    ∃ (a : Arr) (A : Option Addr) (c : Nat), v = .agg #[.int .i64 a.k, .int .i64 a.r, .int .i64 a.l0, .int .i64 a.l1, .slice A a.xs.length c] ∧ Sl w A a.xs ∧ a.xs.length ≤ c ∧ a.xs.length ≤ maxLen ∧ Fits a.k ∧ Fits a.r ∧ Fits a.l0 ∧ Fits a.l1 ∧ ∀ x ∈ a.xs, Fits x := by
  obtain ⟨cs, rfl, hsz⟩ := okWide_struct Try.underlying25 hv
  have c5 : Try.prog.cellsOf 25 = 5 := by kernel_rfl
  have hsz5 : cs.size = 5 := hsz.trans c5
  obtain ⟨l⟩ := cs
  match l, hsz5 with
  | [v0, v1, v2, v3, v4], _ =>
    obtain ⟨fuel, hf⟩ := h
    obtain ⟨a, A, c, rfl, rfl, rfl, rfl, rfl, h⟩ := open_arr5 hf
    exact ⟨a, A, c, rfl, h⟩
end Ar
end Go.Proofs.Ytfpnafeildigaaa
