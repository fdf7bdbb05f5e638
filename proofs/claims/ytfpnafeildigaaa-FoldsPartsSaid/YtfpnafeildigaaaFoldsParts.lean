/-
The theorem of chapter 11: the sum of two vectors put together is the sum of both sums, where there are no errors; likewise least with min, most with max, count with add; of vectors of at most 400 cells together: for every input, without a condition.
-/
import Derived.Test.YtfpnafeildigaaaRows
import Derived.Test.YtfpnafeildigaaaArLw
import Derived.Test.YtfpnafeildigaaaBd1
import Derived.WalkKit
import Derived.ProofKit
import Derived.OpenShut
set_option linter.unusedSimpArgs false
set_option linter.unusedVariables false
namespace Go.Proofs.Ytfpnafeildigaaa.foldsParts
open Go.ChangeShapes Go.WideShapes Go.ChangeAt Go.RowKit
open Go.Proofs.Ytfpnafeildigaaa.Sc Go.Proofs.Ytfpnafeildigaaa.Ar
set_option maxRecDepth 100000 in
theorem lifted (os : Os) (started : os.Started) (H : Type) (enc : TypeId × Value → H) :
    ReturnsInHanded {} Try.checked os 15 .any (Rows.foldsPartsSpec.pre6 enc Try.prog Try.f15 Rows.foldsPartsRow.domain false) (Rows.foldsPartsSpec.post enc Try.prog Try.f15 false true false false) := by
  refine returnsInHanded_of_change (C := Try.checked) own' started (by kernel_rfl) Try.func15
    (ChangeSpec.witness6 (enc := enc) (C := Try.checked) false ⟨#[], #[.agg #[.int .i64 0, .int .i64 0, .int .i64 0, .int .i64 0, .slice none 0 0], .agg #[.int .i64 0, .int .i64 0, .int .i64 0, .int .i64 0, .slice none 0 0]], []⟩ 8 (by kernel_rfl) (by kernel_rfl) (by kernel_rfl) (by kernel_rfl)) ?_
  intro W base args ds gs before hval0 hW hcnd _
  have hval : ∀ (j : Nat) t v, Try.f15.params[j]? = some t → args[j]? = some v → Value.okWide Try.prog W .any base t v := hval0
  have hW' := hW
  have hlt : ∀ x ∈ before, x.block < W.heap.size := fun x hx => hW.lt x hx
  obtain ⟨p, q, hA0, hV, rfl, hfz, hnd⟩ := hW
  have hA : DataW.TrodAll enc Try.prog W 0 (fun _ => true) true Try.f15.params.toList args.toList ds p := hA0
  have hAk := hA
  rw [Try.params15] at hA hval
  obtain ⟨v1, vs1, d1, ds1, p1, q1, hargs, rfl, rfl, h1, r1⟩ := trodAll_cons hA
  obtain ⟨v2, vs2, d2, ds2, p2, q2, rfl, rfl, rfl, h2, r2⟩ := trodAll_cons r1
  obtain ⟨rfl, rfl, rfl⟩ := trodAll_nil r2
  obtain rfl : args = #[v1, v2] := by cases args; simp_all
  obtain ⟨rfl, rfl⟩ := trodVars_none hV
  obtain ⟨a, A, c, rfl, hs, hcA, hl, fk, fr, f0, f1, hx⟩ := open_arrc (hval 0 25 v1 rfl rfl) h1
  obtain ⟨b, B, d, rfl, ht, hcB, hm, gk, gr, g0, g1, hy⟩ := open_arrc (hval 1 25 v2 rfl rfl) h2
  clear hA0 hval0
  simp only [List.append_nil] at hW' hlt hAk
  refine (partsE_walk a b A B c d (by unfold maxLen at hl; omega) (by unfold maxLen at hm; omega) f0 f1 hx g0 g1 hy hcA hcB W hs ht).mono fun e W' ⟨he, hg⟩ => ?_
  subst he
  refine ⟨_, rfl, post_of_below (pa := _) (pv := []) hW' (fun _ _ _ => (trodAll_cons_mk (shut_bool Try.underlying4 _) trodAll_mk0)) (fun sp hsp => ?_) (fun _ _ => rfl) (List.append_nil _).symm hg (ok_one (by kernel_rfl) rfl (okWide_bool_mk Try.underlying4 _))⟩
  refine args_stay laid' ?_ hAk hg hlt (fun x hx => hsp x (by simpa using hx))
  rw [Try.params15]
  intro t ht
  simp at ht
  rcases ht with rfl | rfl <;> exact ⟨by kernel_rfl, of_decide_eq_true (by kernel_rfl)⟩
theorem closed : joinedFacts Try.prog 15 Try.f15 Rows.foldsPartsSpec Rows.foldsPartsRow = true := by
  unfold joinedFacts
  rw [me, lf, mk]
  kernel_rfl
theorem named : Try.prog.funcNamed Rows.foldsPartsRow.func = some 15 := by kernel_rfl
theorem wrap : Try.f15.isWrapper Try.prog Rows.foldsPartsRow.wrapper Rows.foldsPartsRow.mainSum := by
  unfold Func.isWrapper; first | (rw [if_pos (by decide +kernel)]; kernel_rfl) | (rw [if_neg (by decide +kernel)]; exact ⟨rfl, rfl⟩)
theorem inst : Try.f15.isInstance Try.prog Rows.foldsPartsRow.origin Rows.foldsPartsRow.targs := of_decide_eq_true (by kernel_rfl)
theorem held : Rows.foldsPartsRow.holds Try.pinned (OpenSpec.ofChange Rows.foldsPartsSpec) :=
  OpenClaim.holds_of_wide 15 Try.f15 rfl rfl rfl rfl rfl rfl rfl ⟨rfl, rfl, rfl, rfl, rfl⟩ rfl rfl rfl rfl rfl named Try.func15 closed
    inst wrap (fun os started H enc _ => lifted os started H enc)
/-- the statement -/
theorem proved : Rows.FoldsPartsSaid :=
  held
#print axioms proved
end Go.Proofs.Ytfpnafeildigaaa.foldsParts
