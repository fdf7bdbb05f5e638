/-
The theorem of chapter 11: the sum of the sums of a matrix is that of all its cells, of the matrix and of its flip, where there are no errors; likewise least and most; of matrices of at most 400 cells: for every input, without a condition.
-/
import Derived.Test.YtfpnafeildigaaaRows
import Derived.Test.YtfpnafeildigaaaArLw
import Derived.Test.YtfpnafeildigaaaFfC
import Derived.WalkKit
import Derived.ProofKit
import Derived.OpenShut
set_option linter.unusedSimpArgs false
set_option linter.unusedVariables false
namespace Go.Proofs.Ytfpnafeildigaaa.foldsFlat
open Go.ChangeShapes Go.WideShapes Go.ChangeAt Go.RowKit
open Go.Proofs.Ytfpnafeildigaaa.Sc Go.Proofs.Ytfpnafeildigaaa.Ar
set_option maxRecDepth 100000 in
theorem lifted (os : Os) (started : os.Started) (H : Type) (enc : TypeId × Value → H) :
    ReturnsInHanded {} Try.checked os 18 .any (Rows.foldsFlatSpec.pre6 enc Try.prog Try.f18 Rows.foldsFlatRow.domain false) (Rows.foldsFlatSpec.post enc Try.prog Try.f18 false true false false) := by
  refine returnsInHanded_of_change (C := Try.checked) own' started (by kernel_rfl) Try.func18
    (ChangeSpec.witness6 (enc := enc) (C := Try.checked) false ⟨#[], #[.agg #[.int .i64 0, .int .i64 0, .int .i64 0, .int .i64 0, .slice none 0 0]], []⟩ 8 (by kernel_rfl) (by kernel_rfl) (by kernel_rfl) (by kernel_rfl)) ?_
  intro W base args ds gs before hval0 hW hcnd _
  have hval : ∀ (j : Nat) t v, Try.f18.params[j]? = some t → args[j]? = some v → Value.okWide Try.prog W .any base t v := hval0
  have hW' := hW
  have hlt : ∀ x ∈ before, x.block < W.heap.size := fun x hx => hW.lt x hx
  obtain ⟨p, q, hA0, hV, rfl, hfz, hnd⟩ := hW
  have hA : DataW.TrodAll enc Try.prog W 0 (fun _ => true) true Try.f18.params.toList args.toList ds p := hA0
  have hAk := hA
  rw [Try.params18] at hA hval
  obtain ⟨v1, vs1, d1, ds1, p1, q1, hargs, rfl, rfl, h1, r1⟩ := trodAll_cons hA
  obtain ⟨rfl, rfl, rfl⟩ := trodAll_nil r1
  obtain rfl : args = #[v1] := by cases args; simp_all
  obtain ⟨rfl, rfl⟩ := trodVars_none hV
  obtain ⟨a, A, c, rfl, hs, hcA, hl, fk, fr, f0, f1, hx⟩ := open_arrc (hval 0 25 v1 rfl rfl) h1
  clear hA0 hval0
  simp only [List.append_nil] at hW' hlt hAk
  refine (flat_walk a A c (by unfold maxLen at hl; omega) f0 f1 hx hcA W hs).mono fun e W' ⟨he, hg⟩ => ?_
  subst he
  refine ⟨_, rfl, post_of_below (pa := _) (pv := []) hW' (fun _ _ _ => (trodAll_cons_mk (shut_bool Try.underlying4 _) trodAll_mk0)) (fun sp hsp => ?_) (fun _ _ => rfl) (List.append_nil _).symm hg (ok_one (by kernel_rfl) rfl (okWide_bool_mk Try.underlying4 _))⟩
  refine args_stay laid' ?_ hAk hg hlt (fun x hx => hsp x (by simpa using hx))
  rw [Try.params18]
  intro t ht
  simp at ht
  rcases ht with rfl <;> exact ⟨by kernel_rfl, of_decide_eq_true (by kernel_rfl)⟩
theorem closed : joinedFacts Try.prog 18 Try.f18 Rows.foldsFlatSpec Rows.foldsFlatRow = true := by
  unfold joinedFacts
  rw [me, lf, mk]
  kernel_rfl
theorem named : Try.prog.funcNamed Rows.foldsFlatRow.func = some 18 := by kernel_rfl
theorem wrap : Try.f18.isWrapper Try.prog Rows.foldsFlatRow.wrapper Rows.foldsFlatRow.mainSum := by
  unfold Func.isWrapper; first | (rw [if_pos (by decide +kernel)]; kernel_rfl) | (rw [if_neg (by decide +kernel)]; exact ⟨rfl, rfl⟩)
theorem inst : Try.f18.isInstance Try.prog Rows.foldsFlatRow.origin Rows.foldsFlatRow.targs := of_decide_eq_true (by kernel_rfl)
theorem held : Rows.foldsFlatRow.holds Try.pinned (OpenSpec.ofChange Rows.foldsFlatSpec) :=
  OpenClaim.holds_of_wide 18 Try.f18 rfl rfl rfl rfl rfl rfl rfl ⟨rfl, rfl, rfl, rfl, rfl⟩ rfl rfl rfl rfl rfl named Try.func18 closed
    inst wrap (fun os started H enc _ => lifted os started H enc)
/-- the statement -/
theorem proved : Rows.FoldsFlatSaid :=
  held
#print axioms proved
end Go.Proofs.Ytfpnafeildigaaa.foldsFlat
