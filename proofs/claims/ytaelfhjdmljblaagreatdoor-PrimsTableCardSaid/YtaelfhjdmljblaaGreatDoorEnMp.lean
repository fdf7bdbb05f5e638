/-
Maps for the engine: a map's block as a list of keys with numbers or truths; look-up and update (for every seat).
-/
import Derived.Orders
import Derived.Below
import Derived.WalkKit
import Derived.MapKept
set_option linter.unusedSimpArgs false
set_option linter.unusedVariables false
namespace Go.Proofs.YtaelfhjdmljblaaGreatDoor
namespace En
open Go Go.RowKit Go.MapKept
/-- what a cell of a map's value is -/
inductive MV where
  | int (k : IntKind)
  | bool
/-- a key -/
inductive MK where
  | s (x : ByteArray)
  | n (k : IntKind) (x : Int)
  deriving DecidableEq
def mvV : MV → Int → Value
  | .int k, x => .int k x
  | .bool, x => .bool (x != 0)
def mcells : List MV → List Int → List Value
  | [], _ => []
  | k :: ks, xs => mvV k (xs.headD 0) :: mcells ks xs.tail
def mval (agg : Bool) (ks : List MV) (xs : List Int) : Value := bif agg then .agg (mcells ks xs).toArray else (mcells ks xs).headD undef
def mkV : MK → Value
  | .s x => .string x
  | .n k x => .int k x
theorem mkV_inj {a b : MK} (h : mkV a = mkV b) : a = b := by
  cases a <;> cases b <;> cases h <;> rfl
def fnd : List (MK × List Int) → MK → Option (List Int)
  | [], _ => none
  | e :: es, k => if e.1 = k then some e.2 else fnd es k
def ndx : List (MK × List Int) → MK → Nat
  | [], _ => 0
  | e :: es, k => if e.1 = k then 0 else ndx es k + 1
def put : List (MK × List Int) → MK → List Int → List (MK × List Int)
  | [], k, v => [(k, v)]
  | e :: es, k, v => if e.1 = k then (k, v) :: es else e :: put es k v
abbrev mE (agg : Bool) (ks : List MV) (e : MK × List Int) : Value × Value := (mkV e.1, mval agg ks e.2)
abbrev mP (e : MapEntry) : Value × Value := (e.key, e.val)
/-- a map's block -/
def MapAt (w : World) (b : Nat) (d : TypeDesc) (agg : Bool) (ks : List MV) (es : List (MK × List Int)) : Prop :=
  ∃ arr clock, w.heap[b]? = some (.map arr clock) ∧ arr.toList.map mP = es.map (mE agg ks) ∧ ∀ e ∈ es, IsKey d (mkV e.1)
theorem findNow_fnd {d : TypeDesc} {k : MK} (hk : IsKey d (mkV k)) {agg : Bool} {ks : List MV} : ∀ (l : List MapEntry) (es : List (MK × List Int)) (i : Nat), l.map mP = es.map (mE agg ks) → (∀ e ∈ es, IsKey d (mkV e.1)) →
    Instr.findNow d (mkV k) l i = some ((fnd es k).map fun xs => (i + ndx es k, mval agg ks xs))
  | [], [], i, _, _ => rfl
  | [], _ :: _, _, h, _ => by cases h
  | _ :: _, [], _, h, _ => by cases h
  | x :: l, e :: es, i, h, he => by
    rw [List.map_cons, List.map_cons] at h
    injection h with h1 h2
    have hkey : x.key = mkV e.1 := congrArg Prod.fst h1
    have hval : x.val = mval agg ks e.2 := congrArg Prod.snd h1
    have hx : IsKey d x.key := by rw [hkey]; exact he e (List.mem_cons_self ..)
    obtain ⟨r, hr, hiff⟩ := sameNow_of_keys hk hx
    rw [Instr.findNow, hr, fnd, ndx]
    cases r with
    | true =>
      have : e.1 = k := mkV_inj (hkey.symm.trans (hiff.1 rfl).symm)
      rw [if_pos this, if_pos this, hval]
      rfl
    | false =>
      have : e.1 ≠ k := fun q => by
        have := hiff.2 (by rw [hkey, q])
        cases this
      rw [if_neg this, if_neg this]
      dsimp only
      rw [findNow_fnd hk l es (i + 1) h2 fun q hq => he q (List.mem_cons_of_mem _ hq)]
      congr 2
      funext xs
      rw [show i + 1 + ndx es k = i + (ndx es k + 1) by omega]
theorem put_none {es : List (MK × List Int)} {k : MK} {v : List Int} (h : fnd es k = none) : put es k v = es ++ [(k, v)] := by
  induction es with
  | nil => rfl
  | cons e es ih =>
    rw [fnd] at h
    by_cases q : e.1 = k
    · rw [if_pos q] at h; cases h
    · rw [if_neg q] at h
      rw [put, if_neg q, ih h]; rfl
theorem put_some {es : List (MK × List Int)} {k : MK} {v u : List Int} (h : fnd es k = some u) : put es k v = es.set (ndx es k) (k, v) ∧ (es.map Prod.fst)[ndx es k]? = some k := by
  induction es with
  | nil => cases h
  | cons e es ih =>
    rw [fnd] at h
    by_cases q : e.1 = k
    · rw [put, if_pos q, ndx, if_pos q]
      exact ⟨rfl, by simp [q]⟩
    · rw [if_neg q] at h
      have := ih h
      rw [put, if_neg q, ndx, if_neg q, this.1]
      exact ⟨rfl, by simpa using this.2⟩
theorem put_mem {es : List (MK × List Int)} {k : MK} {v : List Int} {d : TypeDesc} (hk : IsKey d (mkV k)) (h : ∀ e ∈ es, IsKey d (mkV e.1)) : ∀ e ∈ put es k v, IsKey d (mkV e.1) := by
  induction es with
  | nil =>
    intro e he
    rw [put, List.mem_singleton] at he
    rw [he]; exact hk
  | cons x es ih =>
    intro e he
    rw [put] at he
    split at he
    · rcases List.mem_cons.1 he with rfl | he
      · exact hk
      · exact h e (List.mem_cons_of_mem _ he)
    · rcases List.mem_cons.1 he with rfl | he
      · exact h _ (List.mem_cons_self ..)
      · exact ih (fun q hq => h q (List.mem_cons_of_mem _ hq)) e he
section
variable {P : Program} {w : World} {t kt et : TypeId} {d : TypeDesc} {b : Nat} {agg : Bool} {ks : List MV} {es : List (MK × List Int)}
theorem map_lookup (hm : P.underlying t = some (.map kt et)) (hd : P.underlying kt = some d) (hz : (zeroValue et).run P w = .ok (mval agg ks []) w) (H : MapAt w b d agg ks es) {k : MK} (hk : IsKey d (mkV k)) (ok : Bool) :
    (Instr.lookup t (.map (some b)) (mkV k) ok).run P w = .ok (bif ok then .tuple #[mval agg ks ((fnd es k).getD []), .bool (fnd es k).isSome] else mval agg ks ((fnd es k).getD [])) w := by
  obtain ⟨arr, clock, hb, he, hks⟩ := H
  have hf := findNow_fnd hk arr.toList es 0 he hks
  cases h : fnd es k with
  | none =>
    rw [h, Option.map_none] at hf
    cases ok <;> simp [Instr.lookup, run_underlying hm, MapKept.run_getObj_map hb, run_checkKey hd hk, run_findKey hd hf, Result.andThen, hz]
  | some xs =>
    rw [h, Option.map_some] at hf
    cases ok <;> simp [Instr.lookup, run_underlying hm, MapKept.run_getObj_map hb, run_checkKey hd hk, run_findKey hd hf, Result.andThen]
theorem map_update (hm : P.underlying t = some (.map kt et)) (hd : P.underlying kt = some d) (H : MapAt w b d agg ks es) {k : MK} (hk : IsKey d (mkV k)) (xs : List Int) :
    ∃ o, (Instr.mapUpdate t (.map (some b)) (mkV k) (mval agg ks xs)).run P w = .ok () { w with heap := w.heap.setIfInBounds b o } ∧ MapAt { w with heap := w.heap.setIfInBounds b o } b d agg ks (put es k xs) := by
  obtain ⟨arr, clock, hb, he, hks⟩ := H
  have hf := findNow_fnd hk arr.toList es 0 he hks
  have hpm := put_mem (v := xs) hk hks
  cases h : fnd es k with
  | none =>
    rw [h, Option.map_none] at hf
    refine ⟨.map (arr.push ⟨mkV k, mval agg ks xs, clock⟩) (clock + 1), ?_, _, _, (heap_set hb).1, ?_, hpm⟩
    · simp [Instr.mapUpdate, run_underlying hm, MapKept.run_getObj_map hb, run_checkKey hd hk, run_findKey hd hf, MapKept.run_setObj_map _ hb, Result.andThen]
    · rw [put_none h, Array.toList_push, List.map_append, List.map_append, he]
      rfl
  | some u =>
    rw [h, Option.map_some, Nat.zero_add] at hf
    obtain ⟨hp, hi⟩ := put_some (v := xs) h
    have hj : ∃ e0, arr[ndx es k]? = some e0 ∧ e0.key = mkV k := by
      have h1 : (arr.toList.map mP)[ndx es k]? = (es.map (mE agg ks))[ndx es k]? := by rw [he]
      rw [List.getElem?_map] at hi
      rw [List.getElem?_map, List.getElem?_map] at h1
      cases h2 : es[ndx es k]? with
      | none => rw [h2] at hi; cases hi
      | some e1 =>
        rw [h2] at hi h1
        cases h3 : arr.toList[ndx es k]? with
        | none => rw [h3] at h1; cases h1
        | some e0 =>
          rw [h3] at h1
          refine ⟨e0, by simpa using h3, ?_⟩
          have h4 := congrArg Prod.fst (Option.some.inj h1)
          have h5 : e1.1 = k := Option.some.inj hi
          rw [← h5]; exact h4
    obtain ⟨e0, hj, h3⟩ := hj
    have hstay := run_keyThatStays (P := P) (w := w) hk
    refine ⟨.map (arr.modify (ndx es k) fun e => { e with key := mkV k, val := mval agg ks xs }) clock, ?_, _, _, (heap_set hb).1, ?_, hpm⟩
    · simp [Instr.mapUpdate, run_underlying hm, MapKept.run_getObj_map hb, run_checkKey hd hk, run_findKey hd hf, hj, h3, hstay, MapKept.run_setObj_map _ hb, Result.andThen]
    · rw [hp, List.map_set, ← he]
      apply List.ext_getElem?
      intro j
      rw [List.getElem?_set, List.getElem?_map]
      have hlt : ndx es k < arr.size := (Array.getElem?_eq_some_iff.1 hj).1
      by_cases q : ndx es k = j
      · subst q
        simp [Array.getElem?_modify, hj, hlt]
      · simp [Array.getElem?_modify, q]
end
end En
end Go.Proofs.YtaelfhjdmljblaaGreatDoor
