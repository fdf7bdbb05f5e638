/-
P21.6: without the reference of this layer: results have good types; types that are within others have rules that are within theirs (of lattices as in TypesChecks, 20; labels by which the types are raised, one for each, counted modulo the labels): for every input, the four listed package variables being as the program's text lays them.
-/
import Derived.Test.YtnpkmimbnjnicaaGreatDoorRwLw
import Derived.Test.YtnpkmimbnjnicaaGreatDoorRg1
import Derived.WalkKit
import Derived.ProofKit
import Derived.OpenShut
import Derived.SevenTiedAt
import Derived.ChangeMaps5
set_option linter.unusedSimpArgs false
set_option linter.unusedVariables false
namespace Go.Proofs.YtnpkmimbnjnicaaGreatDoor.rulesGrow
open Go.ChangeShapes Go.WideShapes Go.ChangeAt Go.RowKit
open Go.Proofs.YtnpkmimbnjnicaaGreatDoor.Lw Go.Proofs.YtnpkmimbnjnicaaGreatDoor.Pr


set_option maxRecDepth 100000 in
theorem lifted (os : Os) (started : os.Started) (H : Type) (enc : TypeId × Value → H) :
    ReturnsInHanded {} Tryz.checked os 7 .any (fun w args => (Rows.rulesGrowSpec.pre enc Tryz.prog Tryz.f7 [] false w args ∧ laidMetH Tryz.prog laidU w) ∧ sizedMet enc Tryz.prog Tryz.f7 (OpenSpec.ofChange Rows.rulesGrowSpec) false w args)
      (Rows.rulesGrowSpec.post enc Tryz.prog Tryz.f7 false true false false) := by
  refine returnsInHanded_of_change_and (C := Tryz.checked) (X := fun w _ => laidMetH Tryz.prog laidU w) (fun _ _ _ hh h => h.of_heap hh) own' started (by kernel_rfl) Tryz.func7
    (ChangeSpec.witness_shaped (enc := enc) (C := Tryz.checked) (os := os) (X := fun w _ => laidMetH Tryz.prog laidU w) false (doorU os) #[.agg #[.slice none 0 0, .slice none 0 0], .agg #[.int .i64 0, .slice none 0 0], .agg #[.int .u8 0, .int .u8 0]] 8 rfl (World.shaped_of_RefB (by kernel_rfl) (by kernel_rfl)) (by kernel_rfl) (by kernel_rfl) (by kernel_rfl) (doorU_met os _)) ?_
  intro W base args ds gs before hval0 hW _ _ hL _
  have hval : ∀ (j : Nat) t v, Tryz.f7.params[j]? = some t → args[j]? = some v → Value.okWide Tryz.prog W .any base t v := hval0
  have hW' := hW
  have hlt : ∀ x ∈ before, x.block < W.heap.size := fun x hx => hW.lt x hx
  obtain ⟨p, q, hA0, hV, rfl, hfz, hnd⟩ := hW
  have hA : DataW.TrodAll enc Tryz.prog W 0 (fun _ => true) true Tryz.f7.params.toList args.toList ds p := hA0
  have hAk := hA
  rw [Tryz.params7] at hA hval
  obtain ⟨bn, on, cn, ba, oa, ca, h4, h3, hg⟩ := globU_of_laid hL
  obtain ⟨v1, vs1, d1, ds1, p1, q1, hargs, rfl, rfl, h1, r1⟩ := trodAll_cons hA
  obtain ⟨v2, vs2, d2, ds2, p2, q2, rfl, rfl, rfl, h2, r2⟩ := trodAll_cons r1
  obtain ⟨v3, vs3, d3, ds3, p3, q3, rfl, rfl, rfl, h3', r3⟩ := trodAll_cons r2
  obtain ⟨rfl, rfl, rfl⟩ := trodAll_nil r3
  obtain rfl : args = #[v1, v2, v3] := by cases args; simp_all
  obtain ⟨rfl, rfl⟩ := trodVars_none hV
  obtain ⟨A, c, ns, B, e, us, rfl, hB, s1, s2⟩ := open_lat (hval 0 33 v1 rfl rfl) h1
  obtain ⟨k, D, n, g, t, rfl, s3⟩ := open_applied (hval 1 45 v2 rfl rfl) h2
  obtain ⟨x0, x1, rfl, hx0, hx1⟩ := open_u2 (hval 2 50 v3 rfl rfl) h3'
  clear hA0 hval0
  simp only [List.append_nil] at hW' hlt hAk
  refine (grow_walk k x0 x1 hx0 hx1 n t A B D c e g ns us hB bn on cn ba oa ca h4 h3 W ⟨⟨s1 _, rfl⟩, ⟨s2 _, rfl⟩, ⟨s3 _, rfl⟩, hg⟩).mono fun e W' ⟨he, hg⟩ => ?_
  subst he
  refine ⟨_, rfl, post_of_below (pa := _) (pv := []) hW' (fun _ _ _ => (trodAll_cons_mk (shut_bool Tryz.underlying4 _) trodAll_mk0)) (fun sp hsp => ?_) (fun _ _ => rfl) (List.append_nil _).symm hg (ok_one (by kernel_rfl) rfl (okWide_bool_mk Tryz.underlying4 _))⟩
  refine args_stay laid' ?_ hAk hg hlt (fun x hx => hsp x (by first | (simp at hx; done) | simpa using hx))
  rw [Tryz.params7]
  intro t ht
  simp at ht
  rcases ht with rfl | rfl | rfl <;> exact ⟨by kernel_rfl, of_decide_eq_true (by kernel_rfl)⟩

theorem closed : joinedFacts Tryz.prog 7 Tryz.f7 Rows.rulesGrowSpec Rows.rulesGrowRow = true := by kernel_rfl
theorem named : Tryz.prog.funcNamed Rows.rulesGrowRow.func = some 7 := by kernel_rfl
theorem wrap : Tryz.f7.isWrapper Tryz.prog Rows.rulesGrowRow.wrapper Rows.rulesGrowRow.mainSum := by
  unfold Func.isWrapper; first | (rw [if_pos (by decide +kernel)]; kernel_rfl) | (rw [if_neg (by decide +kernel)]; exact ⟨rfl, rfl⟩)
theorem inst : Tryz.f7.isInstance Tryz.prog Rows.rulesGrowRow.origin Rows.rulesGrowRow.targs := of_decide_eq_true (by kernel_rfl)
theorem held : Rows.RulesGrowSaid :=
  OpenClaim.holds_of_wide 7 Tryz.f7 rfl rfl rfl rfl rfl rfl rfl ⟨rfl, rfl, rfl, rfl, rfl⟩ rfl rfl rfl rfl rfl named Tryz.func7 closed
    inst wrap (fun os started H enc _ => lifted os started H enc)
theorem plain (f : FuncId) (fn : Func) (hf : Tryz.pinned.checked.prog.funcNamed Rows.rulesGrowRow.func = some f) (hfn : Tryz.pinned.checked.prog.funcs[f]? = some fn) :
    false = Tryz.pinned.checked.prog.looks [] ∧ ∀ (j : Nat) t, fn.params[j]? = some t → Tryz.pinned.checked.prog.wantsStandIn t = false := by
  obtain rfl : f = 7 := Option.some.inj (named.symm.trans hf) |>.symm
  obtain rfl : fn = Tryz.f7 := (Option.some.inj (Tryz.func7.symm.trans hfn)).symm
  refine ⟨noLooks, fun j t ht => ?_⟩
  have hall : (Tryz.f7.params.toList.all fun u => !Tryz.prog.wantsStandIn u) = true := by kernel_rfl
  have hm : t ∈ Tryz.f7.params.toList := by simpa using Array.mem_of_getElem? ht
  exact (show Tryz.prog.wantsStandIn t = false by simpa using List.all_eq_true.1 hall t hm)

theorem proved : Rows.RulesGrowCardSaid :=
  Claim7.holds_tied_plain_at .later [] _ _ _ _ held (fun _ h => by cases h) (by kernel_rfl) (fun _ h => by cases h) rulesGrow_row_tie rfl ⟨rfl, rfl⟩ (by kernel_rfl) rfl plain (by kernel_rfl)
#print axioms proved
end Go.Proofs.YtnpkmimbnjnicaaGreatDoor.rulesGrow
