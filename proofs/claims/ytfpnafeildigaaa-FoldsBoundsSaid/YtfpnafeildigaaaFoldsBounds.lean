/-
The theorem of chapter 11: folds.Least and folds.Most are cells of their row and no cell is beyond them; with Reverse they stay, and so does Count; Most is neg of Least of neg, where there is such an array; of arrays of at most 400 cells: for every input, without a condition.
-/
import Derived.Test.YtfpnafeildigaaaRows
import Derived.Test.YtfpnafeildigaaaArLw
import Derived.Test.YtfpnafeildigaaaFoZ
import Derived.WalkKit
import Derived.ProofKit
import Derived.OpenShut
set_option linter.unusedSimpArgs false
set_option linter.unusedVariables false
namespace Go.Proofs.Ytfpnafeildigaaa.foldsBounds
open Go.ChangeShapes Go.WideShapes Go.ChangeAt Go.RowKit
open Go.Proofs.Ytfpnafeildigaaa.Sc Go.Proofs.Ytfpnafeildigaaa.Ar

set_option maxRecDepth 100000 in
theorem lifted (os : Os) (started : os.Started) (H : Type) (enc : TypeId × Value → H) :
    ReturnsInHanded {} Try.checked os 14 .any (Rows.foldsBoundsSpec.pre6 enc Try.prog Try.f14 Rows.foldsBoundsRow.domain false) (Rows.foldsBoundsSpec.post enc Try.prog Try.f14 false true false false) := by
  refine returnsInHanded_of_change (C := Try.checked) own' started (by kernel_rfl) Try.func14
    (ChangeSpec.witness6 (enc := enc) (C := Try.checked) false ⟨#[], #[.agg #[.int .i64 0, .int .i64 0, .int .i64 0, .int .i64 0, .slice none 0 0]], []⟩ 8 (by kernel_rfl) (by kernel_rfl) (by kernel_rfl) (by kernel_rfl)) ?_
  intro W base args ds gs before hval0 hW hcnd _
  have hval : ∀ (j : Nat) t v, Try.f14.params[j]? = some t → args[j]? = some v → Value.okWide Try.prog W .any base t v := hval0
  have hW' := hW
  have hlt : ∀ x ∈ before, x.block < W.heap.size := fun x hx => hW.lt x hx
  obtain ⟨p, q, hA0, hV, rfl, hfz, hnd⟩ := hW
  have hA : DataW.TrodAll enc Try.prog W 0 (fun _ => true) true Try.f14.params.toList args.toList ds p := hA0
  have hAk := hA
  rw [Try.params14] at hA hval
  obtain ⟨v1, vs1, d1, ds1, p1, q1, hargs, rfl, rfl, h1, r1⟩ := trodAll_cons hA
  obtain ⟨rfl, rfl, rfl⟩ := trodAll_nil r1
  obtain rfl : args = #[v1] := by cases args; simp_all
  obtain ⟨rfl, rfl⟩ := trodVars_none hV
  obtain ⟨a, A, c, rfl, hs, hcA, hl, fk, fr, f0, f1, hx⟩ := open_arrc (hval 0 25 v1 rfl rfl) h1
  clear hA0 hval0
  simp only [List.append_nil] at hW' hlt hAk
  refine (bounds_walk a A c (by unfold maxLen at hl; omega) f0 f1 hx hcA W hs).mono fun e W' ⟨he, hg⟩ => ?_
  subst he
  refine ⟨_, rfl, post_of_below (pa := _) (pv := []) hW' (fun _ _ _ => (trodAll_cons_mk (shut_bool Try.underlying4 _) trodAll_mk0)) (fun sp hsp => ?_) (fun _ _ => rfl) (List.append_nil _).symm hg (ok_one (by kernel_rfl) rfl (okWide_bool_mk Try.underlying4 _))⟩
  refine args_stay laid' ?_ hAk hg hlt (fun x hx => hsp x (by simpa using hx))
  rw [Try.params14]
  intro t ht
  simp at ht
  rcases ht with rfl <;> exact ⟨by kernel_rfl, of_decide_eq_true (by kernel_rfl)⟩

theorem closed : joinedFacts Try.prog 14 Try.f14 Rows.foldsBoundsSpec Rows.foldsBoundsRow = true := by
  unfold joinedFacts
  rw [me, lf, mk]
  kernel_rfl
theorem named : Try.prog.funcNamed Rows.foldsBoundsRow.func = some 14 := by kernel_rfl
theorem wrap : Try.f14.isWrapper Try.prog Rows.foldsBoundsRow.wrapper Rows.foldsBoundsRow.mainSum := by
  unfold Func.isWrapper; first | (rw [if_pos (by decide +kernel)]; kernel_rfl) | (rw [if_neg (by decide +kernel)]; exact ⟨rfl, rfl⟩)
theorem inst : Try.f14.isInstance Try.prog Rows.foldsBoundsRow.origin Rows.foldsBoundsRow.targs := of_decide_eq_true (by kernel_rfl)
theorem held : Rows.foldsBoundsRow.holds Try.pinned (OpenSpec.ofChange Rows.foldsBoundsSpec) :=
  OpenClaim.holds_of_wide 14 Try.f14 rfl rfl rfl rfl rfl rfl rfl ⟨rfl, rfl, rfl, rfl, rfl⟩ rfl rfl rfl rfl rfl named Try.func14 closed
    inst wrap (fun os started H enc _ => lifted os started H enc)

/-- the statement -/
theorem proved : Rows.FoldsBoundsSaid :=
  held
#print axioms proved
end Go.Proofs.Ytfpnafeildigaaa.foldsBounds
