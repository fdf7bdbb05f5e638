/-
Words for the laws' last steps: an argument that is an array, opened; carried over a call that only makes memory (for every seat).
-/
import Derived.Test.YtfpnafeildigaaaRows
import Derived.Test.YtfpnafeildigaaaBa7
import Derived.Test.YtfpnafeildigaaaBb2
import Derived.WalkKit
import Derived.ProofKit
import Derived.OpenShut
import Derived.Carry
set_option linter.unusedSimpArgs false
set_option linter.unusedVariables false
namespace Go.Proofs.Ytfpnafeildigaaa
namespace Ar
open Go.ChangeShapes Go.WideShapes Go.ChangeAt Go.RowKit Sc

theorem own' : ownKnob Try.prog.godebug = none := by kernel_rfl
theorem laid' : laidOutB Try.prog = true := by kernel_rfl
section
variable {H : Type} {enc : TypeId × Value → H} {P : Program}
theorem post_of_below {f : Func} {s : ChangeSpec} {apart fresh handsOn again : Bool} {W W' : World} {args : Array Value} {v : Value} {ds gs : List (DataW H)} {before pa pv : List MemPlace}
    (hW : DataW.Whole enc P f.params.toList s.vars apart W args.toList ds gs before)
    (hres : ∀ (b : Nat) (sp : Nat → Bool) (hd : Bool), DataW.TrodAll enc P W' b sp hd f.resultTypes.toList (v.resultList f.resultTypes.size) (s.fn H (ds ++ gs)).results [])
    (hargs : ∀ sp : Nat → Bool, (∀ p ∈ before, sp p.block = true) → DataW.TrodAll enc P W' 0 sp true f.params.toList args.toList (s.fn H (ds ++ gs)).args pa)
    (hvars : ∀ sp : Nat → Bool, (∀ p ∈ before, sp p.block = true) → DataW.TrodVars enc P W' sp s.vars (s.fn H (ds ++ gs)).vars pv)
    (hps : before = pa ++ pv) (hb : Below W.heap.size W W')
    (hok : ∀ (j : Nat) (t : TypeId) (r : Value), f.resultTypes[j]? = some t → (v.resultList f.resultTypes.size)[j]? = some r → Value.okWide P W' .any 0 t r) :
    s.post enc P f apart fresh handsOn again W args v W' := by
  have hlt : ∀ p ∈ before, p.block < W.heap.size := fun p hp => hW.lt p hp
  have hold : ∀ p ∈ before, (fun b => decide (b < W.heap.size)) p.block = true := fun p hp => by simpa using hlt p hp
  refine ⟨ds, gs, before, [], pa, pv, hW, hres _ _ _, hargs _ hold, hvars _ hold, World.keptBut_mono (fun p hp => ⟨hp, ?_⟩) (hb.frame (· ∈ before)), fun _ => ?_⟩
  · rw [hps, List.mem_append] at hp
    exact Or.inr hp
  · obtain ⟨_, _, _, _, _, hz, hn⟩ := hW
    refine ⟨hok, _, _, ([] ++ pa) ++ pv, ⟨[] ++ pa, pv, trodAll_append (hargs _ (fun _ _ => rfl)) (hres _ _ _), hvars _ (fun _ _ => rfl), rfl, ?_, ?_⟩, ?_⟩
    · intro b off hp
      have hin : MemPlace.cell b off ∈ before := by rw [hps]; simpa using hp
      rw [hb.frozen (hlt _ hin)]
      exact hz b off hin
    · intro ha
      have := hn ha
      rw [hps] at this
      simpa using this
    · intro p hp _
      rw [hps]
      simpa using hp
/-- the arguments read as they did, behind a call that only makes memory -/
theorem args_stay (hl : laidOutB P = true) : ∀ {ts : List TypeId} {vs : List Value} {ds : List (DataW H)} {ps : List MemPlace}, (∀ t ∈ ts, P.readableRec t = true ∧ t < P.types.size) → ∀ {W W' : World} {sp' : Nat → Bool},
    DataW.TrodAll enc P W 0 (fun _ => true) true ts vs ds ps → Below W.heap.size W W' → (∀ x ∈ ps, x.block < W.heap.size) → (∀ x ∈ ps, sp' x.block = true) → DataW.TrodAll enc P W' 0 sp' true ts vs ds ps
  | [], vs, ds, ps, _, W, W', sp', h, _, _, _ => by
    cases vs <;> cases ds <;> simp [DataW.TrodAll] at h ⊢
    exact h
  | t :: ts, vs, ds, ps, ht, W, W', sp', h, hb, hlt, hsp => by
    obtain ⟨v, vs', d, ds', p, q, rfl, rfl, rfl, h0, r0⟩ := trodAll_cons h
    refine trodAll_cons_mk (WideElems.Trod_stays hl (ht t (by simp)).1 (ht t (by simp)).2 h0 (fun x hx => hb.same (hlt x (by simp [hx]))) (fun x hx => hsp x (by simp [hx]))) ?_
    exact args_stay hl (fun t' h' => ht t' (by simp [h'])) r0 hb (fun x hx => hlt x (by simp [hx])) (fun x hx => hsp x (by simp [hx]))
end
set_option maxRecDepth 100000 in
/-- an argument that is an array, opened -/
theorem open_arr {H : Type} {enc : TypeId × Value → H} {w : World} {r : Reach} {b0 : Nat} {v : Value} {d : DataW H} {p : List MemPlace} (hlt : ∀ x ∈ p, x.block < w.heap.size)
    (hv : Value.okWide Try.prog w r b0 25 v) (h : DataW.Trod enc Try.prog w 0 (fun _ => true) true 25 v d p) :
    ∃ (a : Arr) (A : Option Addr) (c : Nat), v = .agg #[.int .i64 a.k, .int .i64 a.r, .int .i64 a.l0, .int .i64 a.l1, .slice A a.xs.length c] ∧ Sl w A a.xs ∧ a.xs.length ≤ maxLen ∧ Fits a.k ∧ Fits a.r ∧ Fits a.l0 ∧ Fits a.l1 ∧ ∀ x ∈ a.xs, Fits x := by
  obtain ⟨cs, rfl, hsz⟩ := okWide_struct Try.underlying25 hv
  have c5 : Try.prog.cellsOf 25 = 5 := by kernel_rfl
  have hsz5 : cs.size = 5 := hsz.trans c5
  obtain ⟨l⟩ := cs
  match l, hsz5 with
  | [v0, v1, v2, v3, v4], _ =>
    obtain ⟨fuel, hf⟩ := h
    obtain ⟨xs, n, _, hx, _, hlen, hg⟩ := DataW.trod_struct Try.underlying25 hf
    match xs, hlen with
    | [y0, y1, y2, y3], _ =>
      have cc : Try.prog.cellsOf 3 = 1 := by kernel_rfl
      have c2 : Try.prog.cellsOf 22 = 2 := by kernel_rfl
      have c3 : Try.prog.cellsOf 23 = 1 := by kernel_rfl
      have c6 : Try.prog.cellsOf 2 = 1 := by kernel_rfl
      have g0 : DataW.trod enc Try.prog w 0 (fun _ => true) true n 3 (([v0, v1, v2, v3, v4].drop 0).take (Try.prog.cellsOf 3)) = some y0 := hg 0 _ rfl
      have g1 : DataW.trod enc Try.prog w 0 (fun _ => true) true n 3 (([v0, v1, v2, v3, v4].drop 1).take (Try.prog.cellsOf 3)) = some y1 := hg 1 _ rfl
      have g2 : DataW.trod enc Try.prog w 0 (fun _ => true) true n 22 (([v0, v1, v2, v3, v4].drop 2).take (Try.prog.cellsOf 22)) = some y2 := hg 2 _ rfl
      have g3 : DataW.trod enc Try.prog w 0 (fun _ => true) true n 23 (([v0, v1, v2, v3, v4].drop 4).take (Try.prog.cellsOf 23)) = some y3 := hg 3 _ rfl
      rw [cc] at g0 g1
      rw [c2] at g2
      rw [c3] at g3
      obtain ⟨k, e0, _, f0⟩ := DataW.trod_int Try.underlying3 g0
      obtain ⟨r', e1, _, f1⟩ := DataW.trod_int Try.underlying3 g1
      obtain ⟨zs, m, _, hz, _, hzl, hze⟩ := DataW.trod_array Try.underlying22 g2
      have z0 := hze 0 (by omega)
      have z1 := hze 1 (by omega)
      rw [cc] at z0 z1
      match zs, hzl with
      | [u0, u1], _ =>
        obtain ⟨l0, e2, _, f2⟩ := DataW.trod_int Try.underlying3 z0
        obtain ⟨l1, e3, _, f3⟩ := DataW.trod_int Try.underlying3 z1
        simp at e0 e1 e2 e3
        subst e0; subst e1; subst e2; subst e3
        rcases open_ints Try.underlying23 Try.underlying2 c6 g3 with ⟨e4, hx3⟩ | ⟨ad, len, cap, ns, e4, _, hlc, hcm, hnl, hx3, hcell, hwf⟩
        · simp at e4
          subst e4
          exact ⟨⟨k, r', l0, l1, []⟩, none, 0, rfl, Sl.nil _ _, by simp, wf_fits f0, wf_fits f1, wf_fits f2, wf_fits f3, by simp⟩
        · simp at e4
          subst e4
          simp at hnl
          have hlen : (ns.take len).length = len := by simp; omega
          refine ⟨⟨k, r', l0, l1, ns.take len⟩, some ad, cap, by simp [hlen], fun hne => ?_, by show (ns.take len).length ≤ _; omega, wf_fits f0, wf_fits f1, wf_fits f2, wf_fits f3, fun x hx => wf_fits (hwf x (List.mem_of_mem_take hx))⟩
          have hp : 0 < ns.length := by
            rcases Nat.eq_zero_or_pos ns.length with h0 | h0
            · exact absurd (by rw [List.eq_nil_of_length_eq_zero h0]; simp) hne
            · exact h0
          obtain ⟨b, off, rfl, hc⟩ := ints_at hcell hp
          refine ⟨b, off, rfl, block_lt_of_cell (hc 0 hp), fun j hj => ?_⟩
          have hj' : j < len := by rw [hlen] at hj; exact hj
          rw [hc j (by omega)]
          simp [List.getD_eq_getElem?_getD, List.getElem?_take, hj']
end Ar
end Go.Proofs.Ytfpnafeildigaaa
