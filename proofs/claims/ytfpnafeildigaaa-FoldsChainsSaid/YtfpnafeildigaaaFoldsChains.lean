/-
The sums on the way of two vectors put together begin with those of the first one, and go on with those of the second one, to which the first sum is added; of vectors of at most 400 cells together, where there are no errors: for every input, without a condition.
-/
import Derived.Test.YtfpnafeildigaaaRows
import Derived.Test.YtfpnafeildigaaaArLw
import Derived.Test.YtfpnafeildigaaaFoV
import Derived.WalkKit
import Derived.ProofKit
import Derived.OpenShut
set_option linter.unusedSimpArgs false
set_option linter.unusedVariables false
namespace Go.Proofs.Ytfpnafeildigaaa.foldsChains
open Go.ChangeShapes Go.WideShapes Go.ChangeAt Go.RowKit
open Go.Proofs.Ytfpnafeildigaaa.Sc Go.Proofs.Ytfpnafeildigaaa.Ar

set_option maxRecDepth 100000 in
theorem lifted (os : Os) (started : os.Started) (H : Type) (enc : TypeId × Value → H) :
    ReturnsInHanded {} Try.checked os 17 .any (Rows.foldsChainsSpec.pre6 enc Try.prog Try.f17 Rows.foldsChainsRow.domain false) (Rows.foldsChainsSpec.post enc Try.prog Try.f17 false true false false) := by
  refine returnsInHanded_of_change (C := Try.checked) own' started (by kernel_rfl) Try.func17
    (ChangeSpec.witness6 (enc := enc) (C := Try.checked) false ⟨#[], #[.agg #[.int .i64 0, .int .i64 0, .int .i64 0, .int .i64 0, .slice none 0 0], .agg #[.int .i64 0, .int .i64 0, .int .i64 0, .int .i64 0, .slice none 0 0]], []⟩ 8 (by kernel_rfl) (by kernel_rfl) (by kernel_rfl) (by kernel_rfl)) ?_
  intro W base args ds gs before hval0 hW hcnd _
  have hval : ∀ (j : Nat) t v, Try.f17.params[j]? = some t → args[j]? = some v → Value.okWide Try.prog W .any base t v := hval0
  have hW' := hW
  have hlt : ∀ x ∈ before, x.block < W.heap.size := fun x hx => hW.lt x hx
  obtain ⟨p, q, hA0, hV, rfl, hfz, hnd⟩ := hW
  have hA : DataW.TrodAll enc Try.prog W 0 (fun _ => true) true Try.f17.params.toList args.toList ds p := hA0
  have hAk := hA
  rw [Try.params17] at hA hval
  obtain ⟨v1, vs1, d1, ds1, p1, q1, hargs, rfl, rfl, h1, r1⟩ := trodAll_cons hA
  obtain ⟨v2, vs2, d2, ds2, p2, q2, rfl, rfl, rfl, h2, r2⟩ := trodAll_cons r1
  obtain ⟨rfl, rfl, rfl⟩ := trodAll_nil r2
  obtain rfl : args = #[v1, v2] := by cases args; simp_all
  obtain ⟨rfl, rfl⟩ := trodVars_none hV
  obtain ⟨a, A, c, rfl, hs, hcA, hl, fk, fr, f0, f1, hx⟩ := open_arrc (hval 0 25 v1 rfl rfl) h1
  obtain ⟨b, B, d, rfl, ht, hcB, hm, gk, gr, g0, g1, hy⟩ := open_arrc (hval 1 25 v2 rfl rfl) h2
  clear hA0 hval0
  simp only [List.append_nil] at hW' hlt hAk
  refine (chains_walk a b A B c d (by unfold maxLen at hl; omega) (by unfold maxLen at hm; omega) f0 f1 hx g0 g1 hy hcA hcB W hs ht).mono fun e W' ⟨he, hg⟩ => ?_
  subst he
  refine ⟨_, rfl, post_of_below (pa := _) (pv := []) hW' (fun _ _ _ => (trodAll_cons_mk (shut_bool Try.underlying4 _) trodAll_mk0)) (fun sp hsp => ?_) (fun _ _ => rfl) (List.append_nil _).symm hg (ok_one (by kernel_rfl) rfl (okWide_bool_mk Try.underlying4 _))⟩
  refine args_stay laid' ?_ hAk hg hlt (fun x hx => hsp x (by simpa using hx))
  rw [Try.params17]
  intro t ht
  simp at ht
  rcases ht with rfl | rfl <;> exact ⟨by kernel_rfl, of_decide_eq_true (by kernel_rfl)⟩

theorem closed : joinedFacts Try.prog 17 Try.f17 Rows.foldsChainsSpec Rows.foldsChainsRow = true := by
  unfold joinedFacts
  rw [me, lf, mk]
  kernel_rfl
theorem named : Try.prog.funcNamed Rows.foldsChainsRow.func = some 17 := by kernel_rfl
theorem wrap : Try.f17.isWrapper Try.prog Rows.foldsChainsRow.wrapper Rows.foldsChainsRow.mainSum := by
  unfold Func.isWrapper; first | (rw [if_pos (by decide +kernel)]; kernel_rfl) | (rw [if_neg (by decide +kernel)]; exact ⟨rfl, rfl⟩)
theorem inst : Try.f17.isInstance Try.prog Rows.foldsChainsRow.origin Rows.foldsChainsRow.targs := of_decide_eq_true (by kernel_rfl)
theorem held : Rows.foldsChainsRow.holds Try.pinned (OpenSpec.ofChange Rows.foldsChainsSpec) :=
  OpenClaim.holds_of_wide 17 Try.f17 rfl rfl rfl rfl rfl rfl rfl ⟨rfl, rfl, rfl, rfl, rfl⟩ rfl rfl rfl rfl rfl named Try.func17 closed
    inst wrap (fun os started H enc _ => lifted os started H enc)

/-- the statement -/
theorem proved : Rows.FoldsChainsSaid :=
  held
#print axioms proved
end Go.Proofs.Ytfpnafeildigaaa.foldsChains
