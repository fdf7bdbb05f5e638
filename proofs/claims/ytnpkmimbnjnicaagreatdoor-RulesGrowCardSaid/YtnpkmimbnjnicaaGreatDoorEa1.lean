/-
Maps for the engine: a map's block as a list of keys with numbers or truths; look-up and update (for every seat).
-/
import Derived.Orders
import Derived.Below
import Derived.WalkKit
import Derived.MapKept
import Derived.Laws.StructEq
import Derived.Laws.MakeOwn
import Derived.Laws.IdiomStrings
import Derived.Laws.BytesArg
import Derived.Laws.Runes
import Derived.Laws.Shifts
set_option linter.unusedSimpArgs false
set_option linter.unusedVariables false
namespace Go.Proofs.YtnpkmimbnjnicaaGreatDoor
namespace En
open Go Go.RowKit Go.MapKept
inductive MV where
  | int (k : IntKind)
  | bool
inductive MK where
  | s (x : ByteArray)
  | n (k : IntKind) (x : Int)
  deriving DecidableEq
def mvV : MV → Int → Value
  | .int k, x => .int k x
  | .bool, x => .bool (x != 0)
def mcells : List MV → List Int → List Value
  | [], _ => []
  | k :: ks, xs => mvV k (xs.headD 0) :: mcells ks xs.tail
def mval (agg : Bool) (ks : List MV) (xs : List Int) : Value := bif agg then .agg (mcells ks xs).toArray else (mcells ks xs).headD undef
def mkV : MK → Value
  | .s x => .string x
  | .n k x => .int k x
theorem mkV_inj {a b : MK} (h : mkV a = mkV b) : a = b := by
  cases a <;> cases b <;> cases h <;> rfl
def fnd : List (MK × List Int) → MK → Option (List Int)
  | [], _ => none
  | e :: es, k => if e.1 = k then some e.2 else fnd es k
def ndx : List (MK × List Int) → MK → Nat
  | [], _ => 0
  | e :: es, k => if e.1 = k then 0 else ndx es k + 1
def put : List (MK × List Int) → MK → List Int → List (MK × List Int)
  | [], k, v => [(k, v)]
  | e :: es, k, v => if e.1 = k then (k, v) :: es else e :: put es k v
theorem fnd_put (es : List (MK × List Int)) (k : MK) (v : List Int) (k' : MK) : fnd (put es k v) k' = if k = k' then some v else fnd es k' := by
  induction es with
  | nil => rfl
  | cons e es ih =>
    by_cases h : e.1 = k
    · rw [put, if_pos h, fnd, fnd]
      by_cases h' : k = k'
      · rw [if_pos h', if_pos h']
      · rw [if_neg h', if_neg h', if_neg (by rw [h]; exact h')]
    · rw [put, if_neg h, fnd, fnd, ih]
      by_cases h' : e.1 = k'
      · rw [if_pos h', if_pos h', if_neg (fun e2 => h (h'.trans e2.symm))]
      · rw [if_neg h', if_neg h']
abbrev mE (agg : Bool) (ks : List MV) (e : MK × List Int) : Value × Value := (mkV e.1, mval agg ks e.2)
abbrev mP (e : MapEntry) : Value × Value := (e.key, e.val)
def MapAt (w : World) (b : Nat) (d : TypeDesc) (agg : Bool) (ks : List MV) (es : List (MK × List Int)) : Prop :=
  ∃ arr clock, w.heap[b]? = some (.map arr clock) ∧ arr.toList.map mP = es.map (mE agg ks) ∧ ∀ e ∈ es, IsKey d (mkV e.1)
theorem findNow_fnd {d : TypeDesc} {k : MK} (hk : IsKey d (mkV k)) {agg : Bool} {ks : List MV} : ∀ (l : List MapEntry) (es : List (MK × List Int)) (i : Nat), l.map mP = es.map (mE agg ks) → (∀ e ∈ es, IsKey d (mkV e.1)) →
    Instr.findNow d (mkV k) l i = some ((fnd es k).map fun xs => (i + ndx es k, mval agg ks xs))
  | [], [], i, _, _ => rfl
  | [], _ :: _, _, h, _ => by cases h
  | _ :: _, [], _, h, _ => by cases h
  | x :: l, e :: es, i, h, he => by
    rw [List.map_cons, List.map_cons] at h
    injection h with h1 h2
    have hkey : x.key = mkV e.1 := congrArg Prod.fst h1
    have hval : x.val = mval agg ks e.2 := congrArg Prod.snd h1
    have hx : IsKey d x.key := by rw [hkey]; exact he e (List.mem_cons_self ..)
    obtain ⟨r, hr, hiff⟩ := sameNow_of_keys hk hx
    rw [Instr.findNow, hr, fnd, ndx]
    cases r with
    | true =>
      have : e.1 = k := mkV_inj (hkey.symm.trans (hiff.1 rfl).symm)
      rw [if_pos this, if_pos this, hval]
      rfl
    | false =>
      have : e.1 ≠ k := fun q => by
        have := hiff.2 (by rw [hkey, q])
        cases this
      rw [if_neg this, if_neg this]
      dsimp only
      rw [findNow_fnd hk l es (i + 1) h2 fun q hq => he q (List.mem_cons_of_mem _ hq)]
      congr 2
      funext xs
      rw [show i + 1 + ndx es k = i + (ndx es k + 1) by omega]
theorem put_none {es : List (MK × List Int)} {k : MK} {v : List Int} (h : fnd es k = none) : put es k v = es ++ [(k, v)] := by
  induction es with
  | nil => rfl
  | cons e es ih =>
    rw [fnd] at h
    by_cases q : e.1 = k
    · rw [if_pos q] at h; cases h
    · rw [if_neg q] at h
      rw [put, if_neg q, ih h]; rfl
theorem put_some {es : List (MK × List Int)} {k : MK} {v u : List Int} (h : fnd es k = some u) : put es k v = es.set (ndx es k) (k, v) ∧ (es.map Prod.fst)[ndx es k]? = some k := by
  induction es with
  | nil => cases h
  | cons e es ih =>
    rw [fnd] at h
    by_cases q : e.1 = k
    · rw [put, if_pos q, ndx, if_pos q]
      exact ⟨rfl, by simp [q]⟩
    · rw [if_neg q] at h
      have := ih h
      rw [put, if_neg q, ndx, if_neg q, this.1]
      exact ⟨rfl, by simpa using this.2⟩
theorem put_mem {es : List (MK × List Int)} {k : MK} {v : List Int} {d : TypeDesc} (hk : IsKey d (mkV k)) (h : ∀ e ∈ es, IsKey d (mkV e.1)) : ∀ e ∈ put es k v, IsKey d (mkV e.1) := by
  induction es with
  | nil =>
    intro e he
    rw [put, List.mem_singleton] at he
    rw [he]; exact hk
  | cons x es ih =>
    intro e he
    rw [put] at he
    split at he
    · rcases List.mem_cons.1 he with rfl | he
      · exact hk
      · exact h e (List.mem_cons_of_mem _ he)
    · rcases List.mem_cons.1 he with rfl | he
      · exact h _ (List.mem_cons_self ..)
      · exact ih (fun q hq => h q (List.mem_cons_of_mem _ hq)) e he
section
variable {P : Program} {w : World} {t kt et : TypeId} {d : TypeDesc} {b : Nat} {agg : Bool} {ks : List MV} {es : List (MK × List Int)}
theorem map_lookup (hm : P.underlying t = some (.map kt et)) (hd : P.underlying kt = some d) (hz : (zeroValue et).run P w = .ok (mval agg ks []) w) (H : MapAt w b d agg ks es) {k : MK} (hk : IsKey d (mkV k)) (ok : Bool) :
    (Instr.lookup t (.map (some b)) (mkV k) ok).run P w = .ok (bif ok then .tuple #[mval agg ks ((fnd es k).getD []), .bool (fnd es k).isSome] else mval agg ks ((fnd es k).getD [])) w := by
  obtain ⟨arr, clock, hb, he, hks⟩ := H
  have hf := findNow_fnd hk arr.toList es 0 he hks
  cases h : fnd es k with
  | none =>
    rw [h, Option.map_none] at hf
    cases ok <;> simp [Instr.lookup, run_underlying hm, MapKept.run_getObj_map hb, run_checkKey hd hk, run_findKey hd hf, Result.andThen, hz]
  | some xs =>
    rw [h, Option.map_some] at hf
    cases ok <;> simp [Instr.lookup, run_underlying hm, MapKept.run_getObj_map hb, run_checkKey hd hk, run_findKey hd hf, Result.andThen]
theorem map_update (hm : P.underlying t = some (.map kt et)) (hd : P.underlying kt = some d) (H : MapAt w b d agg ks es) {k : MK} (hk : IsKey d (mkV k)) (xs : List Int) :
    ∃ o, (Instr.mapUpdate t (.map (some b)) (mkV k) (mval agg ks xs)).run P w = .ok () { w with heap := w.heap.setIfInBounds b o } ∧ MapAt { w with heap := w.heap.setIfInBounds b o } b d agg ks (put es k xs) := by
  obtain ⟨arr, clock, hb, he, hks⟩ := H
  have hf := findNow_fnd hk arr.toList es 0 he hks
  have hpm := put_mem (v := xs) hk hks
  cases h : fnd es k with
  | none =>
    rw [h, Option.map_none] at hf
    refine ⟨.map (arr.push ⟨mkV k, mval agg ks xs, clock⟩) (clock + 1), ?_, _, _, (heap_set hb).1, ?_, hpm⟩
    · simp [Instr.mapUpdate, run_underlying hm, MapKept.run_getObj_map hb, run_checkKey hd hk, run_findKey hd hf, MapKept.run_setObj_map _ hb, Result.andThen]
    · rw [put_none h, Array.toList_push, List.map_append, List.map_append, he]
      rfl
  | some u =>
    rw [h, Option.map_some, Nat.zero_add] at hf
    obtain ⟨hp, hi⟩ := put_some (v := xs) h
    have hj : ∃ e0, arr[ndx es k]? = some e0 ∧ e0.key = mkV k := by
      have h1 : (arr.toList.map mP)[ndx es k]? = (es.map (mE agg ks))[ndx es k]? := by rw [he]
      rw [List.getElem?_map] at hi
      rw [List.getElem?_map, List.getElem?_map] at h1
      cases h2 : es[ndx es k]? with
      | none => rw [h2] at hi; cases hi
      | some e1 =>
        rw [h2] at hi h1
        cases h3 : arr.toList[ndx es k]? with
        | none => rw [h3] at h1; cases h1
        | some e0 =>
          rw [h3] at h1
          refine ⟨e0, by simpa using h3, ?_⟩
          have h4 := congrArg Prod.fst (Option.some.inj h1)
          have h5 : e1.1 = k := Option.some.inj hi
          rw [← h5]; exact h4
    obtain ⟨e0, hj, h3⟩ := hj
    have hstay := run_keyThatStays (P := P) (w := w) hk
    refine ⟨.map (arr.modify (ndx es k) fun e => { e with key := mkV k, val := mval agg ks xs }) clock, ?_, _, _, (heap_set hb).1, ?_, hpm⟩
    · simp [Instr.mapUpdate, run_underlying hm, MapKept.run_getObj_map hb, run_checkKey hd hk, run_findKey hd hf, hj, h3, hstay, MapKept.run_setObj_map _ hb, Result.andThen]
    · rw [hp, List.map_set, ← he]
      apply List.ext_getElem?
      intro j
      rw [List.getElem?_set, List.getElem?_map]
      have hlt : ndx es k < arr.size := (Array.getElem?_eq_some_iff.1 hj).1
      by_cases q : ndx es k = j
      · subst q
        simp [Array.getElem?_modify, hj, hlt]
      · simp [Array.getElem?_modify, q]
end
end En
end Go.Proofs.YtnpkmimbnjnicaaGreatDoor
/-
The engine: symbolic values, chunks of memory, states (for every seat).
-/
set_option linter.unusedSimpArgs false
set_option linter.unusedVariables false
namespace Go.Proofs.YtnpkmimbnjnicaaGreatDoor
namespace En
open Go Go.RowKit

inductive SV where
  | v (x : Value)
  | p (k b o : Nat)
  | g (k : Nat) (A : Option Addr) (n c : Nat)
  | gp (k b o n c : Nat)
  | e (k : Nat) (A : Option Addr) (z : Nat) (i : Int) (o : Nat)
  | agg (l : List SV)
  | tup (l : List SV)
  | fn (f : Fn) (a c : List SV)
  | c (g : Bool) (r : SV)
  | m (k b : Nat)
  | un
def elemAddr (A : Option Addr) (n : Nat) : Value :=
  match A with
  | some a => .pointer (some (a.add n))
  | none => undef
mutual
def den : SV → Value
  | .v x => x
  | .p _ b o => .pointer (some ⟨b, o, none⟩)
  | .g _ A n c => .slice A n c
  | .gp _ b o n c => .slice (some ⟨b, o, none⟩) n c
  | .e _ A z i o => elemAddr A (i.toNat * z + o)
  | .agg l => .agg (dens l).toArray
  | .tup l => .tuple (dens l).toArray
  | .fn f a c => .func f (dens a).toArray (dens c).toArray
  | .c g r => bif g then den r else undef
  | .m _ b => .map (some b)
  | .un => undef
def dens : List SV → List Value
  | [] => []
  | x :: l => den x :: dens l
end
theorem dens_eq (l : List SV) : dens l = l.map den := by
  induction l with
  | nil => rfl
  | cons x l ih => simp [dens, ih]
inductive Ch where
  | no
  | blk (b : Nat) (cs : List SV) (t : TypeId)
  | ints (A : Option Addr) (c : Nat) (k : IntKind) (xs : List Int)
  | strs (A : Option Addr) (c : Nat) (xs : List ByteArray)
  | raw (A : Option Addr) (c : Nat) (z : Nat) (xs : List (List Value))
  | rowI (A : Option Addr) (c : Nat) (e : TypeId) (k : IntKind) (xs : List Int)
  | rowS (A : Option Addr) (c : Nat) (e : TypeId) (xs : List ByteArray)
  | rowV (A : Option Addr) (c : Nat) (e : TypeId) (z n : Nat) (cs : List SV)
  | rawV (A : Option Addr) (c : Nat) (z n : Nat) (cs : List SV)
  | cst (b o : Nat) (cs : List SV)
  | iter (b : Nat) (s : ByteArray) (l : List (Nat × Int))
  | own (A : Option Addr) (c : Nat) (k : IntKind) (xs : List Int)
  | recs (A : Option Addr) (c z n : Nat) (f : Nat → List SV)
  | mp (b : Nat) (d : TypeDesc) (agg : Bool) (ks : List MV) (es : List (MK × List Int))
  | rmp (b : Nat) (d : TypeDesc) (agg : Bool) (ks : List MV) (es : List (MK × List Int))
  | pin (h : Array Obj) (p : Nat → Prop)
  | deep (own : Bool) (n z : Nat) (A : Nat → Option Addr) (c m : Nat → Nat) (f : Nat → Nat → List SV)
def itOk (s : ByteArray) : Nat → List (Nat × Int) → Prop
  | pos, [] => s.size ≤ pos
  | pos, (p, c) :: l => p = pos ∧ pos < s.size ∧ c = ((Utf8.decode s pos).1 : Int) ∧ itOk s (pos + (Utf8.decode s pos).2) l
def SlOk (w : World) (A : Option Addr) (c z n : Nat) (f : Nat → Nat → Value) : Prop :=
  n ≤ c ∧ (n ≠ 0 → ∃ b o, A = some ⟨b, o, none⟩ ∧ b < w.heap.size ∧ ∀ i, i < n → ∀ j, j < z → w.cell? ⟨b, o + (i * z + j), none⟩ = some (f i j))
abbrev fI (k : IntKind) (xs : List Int) : Nat → Nat → Value := fun i _ => .int k (xs.getD i 0)
abbrev fS (xs : List ByteArray) : Nat → Nat → Value := fun i _ => .string (xs.getD i ByteArray.empty)
abbrev fR (xs : List (List Value)) : Nat → Nat → Value := fun i j => (xs.getD i []).getD j undef
def Hold (B : Nat) (w : World) : Ch → Prop
  | .no => True
  | .blk b cs t => B ≤ b ∧ w.heap[b]? = some (.cells (dens cs).toArray t (0, 0))
  | .ints A c k xs => SlOk w A c 1 xs.length (fI k xs)
  | .strs A c xs => SlOk w A c 1 xs.length (fS xs)
  | .raw A c z xs => SlOk w A c z xs.length (fR xs)
  | .rowI A c e k xs => w.ownsRow B e 1 (.slice A xs.length c) xs.length (xs.map (.int k))
  | .rowS A c e xs => w.ownsRow B e 1 (.slice A xs.length c) xs.length (xs.map .string)
  | .rowV A c e z n cs => w.ownsRow B e z (.slice A n c) n (dens cs)
  | .rawV A c z n cs => SlOk w A c z n (fun i j => (dens cs).getD (i * z + j) undef)
  | .cst b o cs => b < w.heap.size ∧ ∀ j v, (dens cs)[j]? = some v → w.cell? ⟨b, o + j, none⟩ = some v
  | .iter b s l => B ≤ b ∧ ∃ pos, w.heap[b]? = some (.stringIter s pos) ∧ itOk s pos l
  | .own A c k xs => SlOk w A c 1 xs.length (fI k xs) ∧ (xs ≠ [] → ∀ a, A = some a → B ≤ a.block)
  | .recs A c z n f => SlOk w A c z n (fun i j => (dens (f i)).getD j undef) ∧ ∀ i, i < n → (f i).length = z
  | .mp b d agg ks es => B ≤ b ∧ MapAt w b d agg ks es
  | .rmp b d agg ks es => MapAt w b d agg ks es
  | .pin h p => h.size ≤ w.heap.size ∧ ∀ i, i < h.size → p i → w.heap[i]? = h[i]?
  | .deep own n z A c m f => ∀ i, i < n → (SlOk w (A i) (c i) z (m i) (fun r j => (dens (f i r)).getD j undef) ∧ ∀ r, r < m i → (f i r).length = z) ∧ (own = true → m i ≠ 0 → ∀ a, A i = some a → B ≤ a.block)
def mutb : Ch → Bool
  | .blk .. | .rowI .. | .rowS .. | .rowV .. | .iter .. | .own .. | .mp .. => true
  | _ => false
def foot : Ch → Nat → Prop
  | .no, _ => False
  | .blk b _ _, i => i = b
  | .ints A _ _ xs, i => xs ≠ [] ∧ ∃ a, A = some a ∧ a.block = i
  | .strs A _ xs, i => xs ≠ [] ∧ ∃ a, A = some a ∧ a.block = i
  | .raw A _ _ xs, i => xs ≠ [] ∧ ∃ a, A = some a ∧ a.block = i
  | .rowI A _ _ _ _, i => ∃ a, A = some a ∧ a.block = i
  | .rowS A _ _ _, i => ∃ a, A = some a ∧ a.block = i
  | .rowV A _ _ _ _ _, i => ∃ a, A = some a ∧ a.block = i
  | .rawV A _ _ n _, i => n ≠ 0 ∧ ∃ a, A = some a ∧ a.block = i
  | .cst b _ _, i => i = b
  | .iter b _ _, i => i = b
  | .own A _ _ xs, i => xs ≠ [] ∧ ∃ a, A = some a ∧ a.block = i
  | .recs A _ _ n _, i => n ≠ 0 ∧ ∃ a, A = some a ∧ a.block = i
  | .mp b .., i => i = b
  | .rmp b .., i => i = b
  | .pin h p, i => i < h.size ∧ p i
  | .deep _ n _ A _ m _, i => ∃ j, j < n ∧ m j ≠ 0 ∧ ∃ a, A j = some a ∧ a.block = i
theorem SlOk.foot {w : World} {A : Option Addr} {c z n : Nat} {f : Nat → Nat → Value} (h : SlOk w A c z n f) (hn : n ≠ 0) : ∀ i, (∃ a, A = some a ∧ a.block = i) → i < w.heap.size := by
  obtain ⟨b, o, rfl, hb, _⟩ := h.2 hn
  rintro i ⟨a, e, rfl⟩
  cases e
  exact hb
theorem SlOk.kept {w w' : World} {A : Option Addr} {c z n : Nat} {f : Nat → Nat → Value} (h : SlOk w A c z n f) (hs : w.heap.size ≤ w'.heap.size) (hk : n ≠ 0 → ∀ i, (∃ a, A = some a ∧ a.block = i) → w'.heap[i]? = w.heap[i]?) : SlOk w' A c z n f := by
  obtain ⟨hc, h⟩ := h
  refine ⟨hc, fun hn => ?_⟩
  obtain ⟨b, o, rfl, hb, hf⟩ := h hn
  exact ⟨b, o, rfl, Nat.lt_of_lt_of_le hb hs, fun i hi j hj => (World.cell?_of_block (w := w) (a := ⟨b, o + (i * z + j), none⟩) (hk hn b ⟨_, rfl, rfl⟩)).trans (hf i hi j hj)⟩
theorem len_ne {α : Type} {xs : List α} : xs.length ≠ 0 ↔ xs ≠ [] := by cases xs <;> simp
theorem row_own {A : Option Addr} {n c i : Nat} (h : ∃ a, A = some a ∧ a.block = i) : (Value.slice A n c).ownBlock = some i := by
  obtain ⟨a, rfl, rfl⟩ := h; rfl
theorem row_kept {w w' : World} {B : Nat} {e : TypeId} {z n m c : Nat} {A : Option Addr} {xs : List Value} (h : w.ownsRow B e z (.slice A m c) n xs) (hk : ∀ i, (∃ a, A = some a ∧ a.block = i) → w'.heap[i]? = w.heap[i]?) : w'.ownsRow B e z (.slice A m c) n xs := by
  obtain ⟨h1, h2⟩ := h
  refine ⟨h1, ?_⟩
  rcases h2 with h2 | ⟨g, cap, cur, hv, hg, hh, r⟩
  · exact .inl h2
  · refine .inr ⟨g, cap, cur, hv, hg, ?_, r⟩
    cases hv
    rw [hk g ⟨_, rfl, rfl⟩]; exact hh
theorem lt_of_cells {w : World} {b : Nat} {x : Obj} (h : w.heap[b]? = some x) : b < w.heap.size := (Array.getElem?_eq_some_iff.1 h).1
theorem Hold.lt {B : Nat} {w : World} {c : Ch} (h : Hold B w c) : ∀ i, foot c i → i < w.heap.size := by
  intro i hi
  cases c with
  | no => exact hi.elim
  | blk b cs t => obtain rfl : i = b := hi; exact lt_of_cells h.2
  | ints => exact SlOk.foot h (len_ne.2 hi.1) i hi.2
  | strs => exact SlOk.foot h (len_ne.2 hi.1) i hi.2
  | raw => exact SlOk.foot h (len_ne.2 hi.1) i hi.2
  | rowI => exact (World.ownsRow.lt h i (row_own hi)).2
  | rowS => exact (World.ownsRow.lt h i (row_own hi)).2
  | rowV => exact (World.ownsRow.lt h i (row_own hi)).2
  | rawV => exact SlOk.foot h hi.1 i hi.2
  | cst b o cs => obtain rfl : i = b := hi; exact h.1
  | iter b s l => obtain rfl : i = b := hi; obtain ⟨_, _, h, _⟩ := h; exact lt_of_cells h
  | own => exact SlOk.foot h.1 (len_ne.2 hi.1) i hi.2
  | recs => exact SlOk.foot h.1 hi.1 i hi.2
  | mp b d agg ks es => obtain rfl : i = b := hi; obtain ⟨_, _, _, h, _⟩ := h; exact lt_of_cells h
  | rmp b d agg ks es => obtain rfl : i = b := hi; obtain ⟨_, _, h, _⟩ := h; exact lt_of_cells h
  | pin q p => exact Nat.lt_of_lt_of_le hi.1 h.1
  | deep own n z A c m f => obtain ⟨j, hj, hm, ha⟩ := hi; exact SlOk.foot (h j hj).1.1 hm i ha
theorem Hold.ge {B : Nat} {w : World} {c : Ch} (h : Hold B w c) (hm : mutb c = true) : ∀ i, foot c i → B ≤ i := by
  intro i hi
  cases c with
  | no => exact hi.elim
  | blk b cs t => obtain rfl : i = b := hi; exact h.1
  | ints => cases hm
  | strs => cases hm
  | raw => cases hm
  | rowI => exact (World.ownsRow.lt h i (row_own hi)).1
  | rowS => exact (World.ownsRow.lt h i (row_own hi)).1
  | rowV => exact (World.ownsRow.lt h i (row_own hi)).1
  | rawV => cases hm
  | cst => cases hm
  | iter b s l => obtain rfl : i = b := hi; exact h.1
  | own => obtain ⟨hne, a, e, rfl⟩ := hi; exact h.2 hne a e
  | recs => cases hm
  | mp b d agg ks es => obtain rfl : i = b := hi; exact h.1
  | rmp => cases hm
  | pin => cases hm
  | deep => cases hm
theorem Hold.kept {B : Nat} {w w' : World} {c : Ch} (h : Hold B w c) (hs : w.heap.size ≤ w'.heap.size) (hk : ∀ i, foot c i → w'.heap[i]? = w.heap[i]?) : Hold B w' c := by
  cases c with
  | no => trivial
  | blk b cs t => exact ⟨h.1, (hk b rfl).trans h.2⟩
  | ints => exact SlOk.kept h hs fun hn i hi => hk i ⟨len_ne.1 hn, hi⟩
  | strs => exact SlOk.kept h hs fun hn i hi => hk i ⟨len_ne.1 hn, hi⟩
  | raw => exact SlOk.kept h hs fun hn i hi => hk i ⟨len_ne.1 hn, hi⟩
  | rowI => exact row_kept h hk
  | rowS => exact row_kept h hk
  | rowV => exact row_kept h hk
  | rawV => exact SlOk.kept h hs fun hn i hi => hk i ⟨hn, hi⟩
  | cst b o cs => exact ⟨Nat.lt_of_lt_of_le h.1 hs, fun j v hj => (World.cell?_of_block (w := w) (a := ⟨b, o + j, none⟩) (hk b rfl)).trans (h.2 j v hj)⟩
  | iter b s l => obtain ⟨h1, pos, h2, h3⟩ := h; exact ⟨h1, pos, (hk b rfl).trans h2, h3⟩
  | own => exact ⟨SlOk.kept h.1 hs fun hn i hi => hk i ⟨len_ne.1 hn, hi⟩, h.2⟩
  | recs => exact ⟨SlOk.kept h.1 hs fun hn i hi => hk i ⟨hn, hi⟩, h.2⟩
  | mp b d agg ks es => obtain ⟨h1, arr, clock, h2, h3⟩ := h; exact ⟨h1, arr, clock, (hk b rfl).trans h2, h3⟩
  | rmp b d agg ks es => obtain ⟨arr, clock, h2, h3⟩ := h; exact ⟨arr, clock, (hk b rfl).trans h2, h3⟩
  | pin q p => exact ⟨Nat.le_trans h.1 hs, fun i hi hp => (hk i ⟨hi, hp⟩).trans (h.2 i hi hp)⟩
  | deep own n z A c m f => exact fun i hi => ⟨⟨SlOk.kept (h i hi).1.1 hs fun hn b hb => hk b ⟨i, hi, hn, hb⟩, (h i hi).1.2⟩, (h i hi).2⟩

abbrev Hp := List (Nat × Ch)
structure SS where
  sl : List (Nat × SV)
  hp : Hp
  nx : Nat
def look : List (Nat × SV) → Nat → SV
  | [], _ => .un
  | (t, x) :: l, u => bif t == u then x else look l u
def lookH : Hp → Nat → Ch
  | [], _ => .no
  | (t, x) :: l, u => bif t == u then x else lookH l u
def app : Hp → Hp → Hp
  | [], m => m
  | x :: l, m => x :: app l m
def has : Hp → Nat → Bool
  | [], _ => false
  | (t, _) :: l, u => bif t == u then true else has l u
theorem lookH_app (l m : Hp) (k : Nat) : lookH (app l m) k = bif has l k then lookH l k else lookH m k := by
  induction l with
  | nil => rfl
  | cons x l ih =>
    obtain ⟨t, c⟩ := x
    simp only [app, lookH, has]
    cases t == k <;> simp [ih]
structure HH (w0 : World) (O : Nat → Prop) (hp : Hp) (w : World) : Prop where
  below : Below w0.heap.size w0 w
  old : ∀ k b, foot (lookH hp k) b → w0.heap.size ≤ b ∨ O b
  hold : ∀ k, Hold w0.heap.size w (lookH hp k)
  sep : ∀ k j, k ≠ j → mutb (lookH hp k) = true → ∀ b, foot (lookH hp k) b → ¬ foot (lookH hp j) b
theorem HH.congr {O : Nat → Prop} {w0 w : World} {hp hp' : Hp} (h : HH w0 O hp w) (e : ∀ k, lookH hp' k = lookH hp k) : HH w0 O hp' w :=
  ⟨h.below, fun k b hb => by rw [e] at hb; exact h.old k b hb, fun k => by rw [e]; exact h.hold k, fun k j hne hm b hb => by rw [e] at hm hb ⊢; exact h.sep k j hne hm b hb⟩
structure Stp (w0 : World) (hp : Hp) (w : World) (wr : Option Nat) (ups : Hp) (w' : World) : Prop where
  os : w'.os = w.os
  tape : w'.tape = w.tape
  output : w'.output = w.output
  size : w.heap.size ≤ w'.heap.size
  same : ∀ b, b < w.heap.size → (∀ k, wr = some k → ¬ foot (lookH hp k) b) → w'.heap[b]? = w.heap[b]?
  wmut : ∀ k, wr = some k → mutb (lookH hp k) = true ∧ has ups k = true
  hold : ∀ k, has ups k = true → Hold w0.heap.size w' (lookH ups k)
  src : ∀ k, has ups k = true → ∀ b, foot (lookH ups k) b → w.heap.size ≤ b ∨ ∃ j, foot (lookH hp j) b ∧ (mutb (lookH hp j) = true ∧ has ups j = true ∨ mutb (lookH hp j) = false ∧ mutb (lookH ups k) = false)
  pair : ∀ k j, k ≠ j → has ups k = true → has ups j = true → mutb (lookH ups k) = true → ∀ b, foot (lookH ups k) b → ¬ foot (lookH ups j) b
theorem Stp.hh {O : Nat → Prop} {w0 : World} {hp : Hp} {w w' : World} {wr : Option Nat} {ups : Hp} (h : Stp w0 hp w wr ups w') (H : HH w0 O hp w) : HH w0 O (app ups hp) w' := by
  have kp : ∀ j, has ups j = false → ∀ b, foot (lookH hp j) b → w'.heap[b]? = w.heap[b]? := by
    intro j hj b hb
    refine h.same b ((H.hold j).lt b hb) fun k hk hf => ?_
    obtain ⟨hm, hu⟩ := h.wmut k hk
    have hne : k ≠ j := by intro e; subst e; rw [hj] at hu; cases hu
    exact H.sep k j hne hm b hf hb
  refine ⟨⟨h.os.trans H.below.os, h.tape.trans H.below.tape, h.output.trans H.below.output, Nat.le_trans H.below.size h.size, fun b hb => ?_⟩, fun k b hb => ?_, fun k => ?_, fun k j hne hm b hb => ?_⟩
  · refine (h.same b (Nat.lt_of_lt_of_le hb H.below.size) fun k hk hf => ?_).trans (H.below.block b hb)
    have := (H.hold k).ge (h.wmut k hk).1 b hf
    omega
  · rw [lookH_app] at hb
    cases hu : has ups k
    · rw [hu] at hb; exact H.old k b hb
    · rw [hu] at hb
      rcases h.src k hu b hb with hl | ⟨j, hj, _⟩
      · exact .inl (Nat.le_trans H.below.size hl)
      · exact H.old j b hj
  · rw [lookH_app]
    cases hu : has ups k
    · exact (H.hold k).kept h.size (kp k hu)
    · exact h.hold k hu
  · rw [lookH_app] at hm hb ⊢
    cases hk : has ups k <;> cases hj : has ups j <;> rw [hk] at hm hb <;> simp only [cond_true, cond_false] at hm hb ⊢
    · exact H.sep k j hne hm b hb
    · intro hf
      rcases h.src j hj b hf with hl | ⟨i, hi, ⟨hm', hu⟩ | ⟨hm', _⟩⟩
      · have := (H.hold k).lt b hb; omega
      · exact H.sep k i (by rintro rfl; rw [hk] at hu; cases hu) hm b hb hi
      · exact H.sep k i (by rintro rfl; rw [hm] at hm'; cases hm') hm b hb hi
    · intro hf
      rcases h.src k hk b hb with hl | ⟨i, hi, ⟨hm', hu⟩ | ⟨_, hm'⟩⟩
      · have := (H.hold j).lt b hf; omega
      · exact H.sep i j (by rintro rfl; rw [hj] at hu; cases hu) hm' b hi hf
      · rw [hm] at hm'; cases hm'
    · exact h.pair k j hne hk hj hm b hb
theorem Stp.still {w0 : World} {hp : Hp} {w w' : World} (hb : Below w.heap.size w w') : Stp w0 hp w none [] w' :=
  ⟨hb.os, hb.tape, hb.output, hb.size, fun b hl _ => hb.block b hl, (by intro k hk; cases hk), (by intro k hk; cases hk), (by intro k hk; cases hk), (by intro k j _ hk; cases hk)⟩
theorem Stp.one {w0 : World} {hp : Hp} {w w' : World} {k : Nat} {c : Ch} (hb : Below w.heap.size w w') (hc : Hold w0.heap.size w' c)
    (hf : ∀ b, foot c b → w.heap.size ≤ b ∨ (mutb c = false ∧ ∃ j, foot (lookH hp j) b ∧ mutb (lookH hp j) = false)) : Stp w0 hp w none [(k, c)] w' := by
  have hk : ∀ j, has [(k, c)] j = true → j = k := by
    intro j h
    simp only [has] at h
    cases e : (k == j)
    · rw [e] at h; cases h
    · exact (eq_of_beq e).symm
  have hl : lookH [(k, c)] k = c := by simp [lookH]
  refine ⟨hb.os, hb.tape, hb.output, hb.size, fun b hl _ => hb.block b hl, (by intro k hk; cases hk), fun j hj => ?_, fun j hj b hbf => ?_, fun i j hne hi hj => ?_⟩
  · rw [hk j hj, hl]; exact hc
  · rw [hk j hj, hl] at hbf ⊢
    rcases hf b hbf with h1 | ⟨h1, i, h2, h3⟩
    · exact .inl h1
    · exact .inr ⟨i, h2, .inr ⟨h3, h1⟩⟩
  · exact absurd ((hk i hi).trans (hk j hj).symm) hne
theorem Stp.wide {w0 : World} {hp hp' : Hp} {w w' : World} {wr : Option Nat} {ups : Hp} (h : Stp w0 hp w wr ups w') (e : ∀ k, lookH hp k = .no ∨ lookH hp' k = lookH hp k) : Stp w0 hp' w wr ups w' := by
  have mu : ∀ k, mutb (lookH hp k) = true → lookH hp' k = lookH hp k := fun k hm => (e k).resolve_left fun h => by rw [h] at hm; cases hm
  have fo : ∀ k b, foot (lookH hp k) b → lookH hp' k = lookH hp k := fun k b hm => (e k).resolve_left fun h => by rw [h] at hm; exact hm
  refine ⟨h.os, h.tape, h.output, h.size, fun b hl hk => h.same b hl fun k e => ?_, fun k e => ?_, h.hold, fun k hk b hb => ?_, h.pair⟩
  · have := hk k e; rwa [mu k (h.wmut k e).1] at this
  · have := h.wmut k e; rwa [← mu k this.1] at this
  · refine (h.src k hk b hb).imp id ?_
    rintro ⟨j, hj, r⟩
    exact ⟨j, by rw [fo j b hj]; exact hj, by rw [fo j b hj]; exact r⟩
end En
end Go.Proofs.YtnpkmimbnjnicaaGreatDoor
/-
The engine: what an operation makes of a state (for every seat).
-/
set_option linter.unusedSimpArgs false
set_option linter.unusedVariables false
namespace Go.Proofs.YtnpkmimbnjnicaaGreatDoor
namespace En
open Go Go.RowKit

structure TI where
  ok : Bool
  agg : Bool
  size : Nat
  zero : List SV
  offs : List (Nat × Nat)
  elem : TypeId
  len : Nat
  bytes : Nat
  sort : Nat
  esz : Nat
structure Out where
  b : Nat
  A : Option Addr
  c : Nat
  D : Option Addr
  d : Nat
  M : Nat → Option Addr × Nat
def mz : Nat → Option Addr × Nat := fun _ => (none, 0)
inductive Res where
  | bad
  | is (vc : Prop) (x : SV)
  | put (vc : Prop) (k : Nat) (c : Ch)
  | new (vc : Prop) (f : Nat → SV × Hp)
  | val (vc : Prop) (f : Option Addr → Nat → SV × Hp)
  | val2 (vc : Prop) (f : Option Addr → Nat → Option Addr → Nat → SV × Hp)
  | app (vc : Prop) (k : Nat) (f : Option Addr → Nat → SV × Hp)
  | many (vc : Prop) (f : (Nat → Option Addr × Nat) → SV × Hp)
def Res.vc : Res → Prop
  | .bad => False
  | .is vc _ | .put vc _ _ | .new vc _ | .val vc _ | .val2 vc _ | .app vc _ _ | .many vc _ => vc
def Res.out : Res → Out → SV × Hp
  | .bad, _ => (.un, [])
  | .is _ x, _ => (x, [])
  | .put _ k c, _ => (.un, [(k, c)])
  | .new _ f, u => f u.b
  | .val _ f, u => f u.A u.c
  | .val2 _ f, u => f u.A u.c u.D u.d
  | .app _ _ f, u => f u.A u.c
  | .many _ f, u => f u.M
def Res.wr : Res → Option Nat
  | .put _ k _ | .app _ k _ => some k
  | _ => none

def nth : List SV → Nat → SV
  | [], _ => .un
  | x :: _, 0 => x
  | _ :: l, n + 1 => nth l n
section
variable {α : Type}
def cut : List α → Nat → Nat → List α
  | _, _, 0 => []
  | [], _, _ + 1 => []
  | x :: l, 0, m + 1 => x :: cut l 0 m
  | _ :: l, n + 1, m + 1 => cut l n (m + 1)
def putAt : List α → Nat → List α → List α
  | l, _, [] => l
  | [], _, _ :: _ => []
  | _ :: l, 0, y :: m => y :: putAt l 0 m
  | x :: l, n + 1, y :: m => x :: putAt l n (y :: m)
def lenS : List α → Nat
  | [] => 0
  | _ :: l => lenS l + 1
def offAt : List α → Nat → Option α
  | [], _ => none
  | x :: _, 0 => some x
  | _ :: l, n + 1 => offAt l n
theorem lenS_eq (l : List α) : lenS l = l.length := by
  induction l with
  | nil => rfl
  | cons x l ih => simp [lenS, ih]
theorem cut_eq (l : List α) (n m : Nat) : cut l n m = (l.drop n).take m := by
  induction l generalizing n m with
  | nil => cases m <;> simp [cut]
  | cons x l ih => cases m <;> cases n <;> simp [cut, ih]
theorem putAt_length (l m : List α) (n : Nat) : (putAt l n m).length = l.length := by
  induction l generalizing n m with
  | nil => cases m <;> simp [putAt]
  | cons x l ih => cases m <;> cases n <;> simp [putAt, ih]
theorem putAt_cons (l : List α) (n : Nat) (y : α) (m : List α) : putAt l n (y :: m) = putAt (l.set n y) (n + 1) m := by
  induction l generalizing n with
  | nil => cases m <;> simp [putAt]
  | cons x l ih =>
    cases n with
    | zero => cases m <;> simp [putAt]
    | succ n => 
      cases m with
      | nil => have := ih n; simp [putAt] at this ⊢; exact this
      | cons z m => have := ih n; simp [putAt] at this ⊢; exact this
end
theorem dens_len (l : List SV) : (dens l).length = l.length := by rw [dens_eq]; simp
theorem dens_cut (l : List SV) (n m : Nat) : dens (cut l n m) = cut (dens l) n m := by
  simp [cut_eq, dens_eq, List.map_take, List.map_drop]
theorem dens_putAt (l : List SV) (n : Nat) (m : List SV) : dens (putAt l n m) = putAt (dens l) n (dens m) := by
  induction l generalizing n m with
  | nil => cases m <;> simp [putAt, dens]
  | cons x l ih => cases m <;> cases n <;> simp [putAt, dens, ih]
theorem den_nth (l : List SV) (n : Nat) (h : n < l.length) : (dens l)[n]? = some (den (nth l n)) := by
  induction l generalizing n with
  | nil => simp at h
  | cons x l ih =>
    cases n with
    | zero => simp [nth, dens]
    | succ n => simp [nth, dens]; exact ih n (by simpa using h)
def cells : SV → List SV
  | .agg l => l
  | .v (.agg a) => a.toList.map .v
  | .c _ _ => []
  | .un => []
  | x => [x]
theorem cells_den {y : SV} (h : cells y ≠ []) : (den y).cells.toList = dens (cells y) := by
  cases y with
  | v x =>
    cases x with
    | agg a => simp only [cells, den, Value.cells, dens_eq, List.map_map]; exact (List.map_id' a.toList).symm
    | _ => rfl
  | agg l => simp [cells, den, Value.cells]
  | e k A z i o => cases A <;> rfl
  | c g r => exact absurd rfl h
  | un => exact absurd rfl h
  | _ => rfl
def isOne : Value → Bool
  | .agg _ | .tuple _ => false
  | _ => true
def oneC : SV → Bool
  | .v x => isOne x
  | .p .. | .g .. | .gp .. | .fn .. | .m .. => true
  | _ => false
def allOne : List SV → Bool
  | [] => true
  | x :: l => oneC x && allOne l
theorem oneC_den {x : SV} (h : oneC x = true) : isOne (den x) = true := by
  cases x with
  | v y => exact h
  | e k A z i o => cases h
  | _ => first | rfl | cases h
theorem allOne_den {l : List SV} (h : allOne l = true) : ∀ v ∈ dens l, isOne v = true := by
  induction l with
  | nil => intro v hv; cases hv
  | cons x l ih =>
    simp only [allOne, Bool.and_eq_true] at h
    intro v hv
    rcases List.mem_cons.1 hv with rfl | hv
    · exact oneC_den h.1
    · exact ih h.2 v hv
theorem addr_add (b o n : Nat) : Addr.add ⟨b, o, none⟩ n = ⟨b, o + n, none⟩ := by
  unfold Addr.add; split
  · next h => subst h; rfl
  · rfl

def kc : IntKind → Nat
  | .i8 => 10 | .i16 => 11 | .i32 => 12 | .i64 => 13 | .u8 => 14 | .u16 => 15 | .u32 => 16 | .u64 => 17
def kOf : Nat → Option IntKind
  | 10 => some .i8 | 11 => some .i16 | 12 => some .i32 | 13 => some .i64 | 14 => some .u8 | 15 => some .u16 | 16 => some .u32 | 17 => some .u64
  | _ => none
theorem kOf_kc {n : Nat} {k : IntKind} (h : kOf n = some k) : n = kc k := by
  unfold kOf at h
  split at h <;> cases h <;> rfl
theorem kc_inj {k k' : IntKind} (h : kc k = kc k') : k = k' := by cases k <;> cases k' <;> first | rfl | cases h
theorem kc_1 {k : IntKind} : ¬ kc k = 1 := by cases k <;> decide
theorem kc_2 {k : IntKind} : ¬ kc k = 2 := by cases k <;> decide
theorem kc_3 {k : IntKind} : ¬ kc k = 3 := by cases k <;> decide
theorem kc_4 {k : IntKind} : ¬ kc k = 4 := by cases k <;> decide
theorem kc_9 {k : IntKind} : ¬ kc k = 9 := by cases k <;> decide
theorem kc_5 {k : IntKind} : ¬ kc k = 5 := by cases k <;> decide
theorem kc_6 {k : IntKind} : ¬ kc k = 6 := by cases k <;> decide
def flatFs (P : Program) (g : TypeId → Option (List Nat)) : Nat → List Field → Option (List Nat)
  | _, [] => some []
  | off, f :: fs => match g f.type with
    | some l => if f.name ≠ "_" ∧ f.offset = off ∧ (P.info? f.type).map (·.size) = some l.length then (flatFs P g (off + l.length) fs).map (l ++ ·) else none
    | none => none
def flatK (P : Program) : Nat → TypeId → Option (List Nat)
  | 0, _ => none
  | n + 1, t => match P.underlying t with
    | some (.int k) => some [kc k]
    | some .string => some [3]
    | some .bool => some [5]
    | some (.struct fs) => if P.stoodInHeld t then none else flatFs P (flatK P n) 0 fs.toList
    | some (.array m e) => match flatK P n e with
      | some [k] => if m = 2 ∧ (P.info? e).map (·.size) = some 1 then some [k, k] else none
      | _ => none
    | _ => none
def bk : Nat → Value → Bool
  | n, .int k _ => kc k == n
  | n, .string _ => n == 3
  | n, .bool _ => n == 5
  | _, _ => false
def beqV : Value → Value → Bool
  | .int _ a, .int _ b => a == b
  | .string a, .string b => a.toList == b.toList
  | .bool a, .bool b => a == b
  | _, _ => false
def okKs : List Nat → List Value → Bool
  | [], [] => true
  | k :: ks, v :: vs => bk k v && okKs ks vs
  | _, _ => false
def beqVs : List Value → List Value → Bool
  | [], [] => true
  | x :: xs, y :: ys => beqV x y && beqVs xs ys
  | _, _ => false
def wrapV (P : Program) (t : TypeId) (xs : List Value) : Value :=
  match P.underlying t with
  | some (.struct _) => .agg xs.toArray
  | some (.array _ _) => .agg xs.toArray
  | _ => xs.headD undef
theorem okKs_len {ks : List Nat} {xs : List Value} (h : okKs ks xs = true) : xs.length = ks.length := by
  induction ks generalizing xs with
  | nil => cases xs <;> simp [okKs] at h ⊢
  | cons k ks ih =>
    cases xs with
    | nil => simp [okKs] at h
    | cons x xs => simp only [okKs, Bool.and_eq_true] at h; simp [ih h.2]
theorem okKs_app {ks ls : List Nat} {xs : List Value} (h : okKs (ks ++ ls) xs = true) : okKs ks (xs.take ks.length) = true ∧ okKs ls (xs.drop ks.length) = true := by
  induction ks generalizing xs with
  | nil => exact ⟨by simp [okKs], by simpa using h⟩
  | cons k ks ih =>
    cases xs with
    | nil => simp [okKs] at h
    | cons x xs =>
      simp only [List.cons_append, okKs, Bool.and_eq_true] at h
      obtain ⟨h1, h2⟩ := ih h.2
      exact ⟨by simp [okKs, h.1, h1], by simpa using h2⟩
theorem beqVs_app {n : Nat} {xs ys : List Value} (h : xs.length = ys.length) : beqVs xs ys = (beqVs (xs.take n) (ys.take n) && beqVs (xs.drop n) (ys.drop n)) := by
  induction n generalizing xs ys with
  | zero => simp [beqVs]
  | succ n ih =>
    cases xs with
    | nil => cases ys <;> simp [beqVs] at h ⊢
    | cons x xs =>
      cases ys with
      | nil => simp at h
      | cons y ys => simp only [List.take_succ_cons, List.drop_succ_cons, beqVs, ih (by simpa using h), Bool.and_assoc]
section
variable {P : Program}
theorem flatK_len {n : Nat} {t : TypeId} {ks : List Nat} (h : flatK P n t = some ks) (hb : (match P.underlying t with | some (.struct _) | some (.array _ _) => false | _ => true) = true) : ks.length = 1 := by
  cases n with
  | zero => cases h
  | succ n =>
    simp only [flatK] at h
    split at h <;> first | (cases h; rfl) | skip
    · next e => rw [e] at hb; cases hb
    · next e => rw [e] at hb; cases hb
    · cases h
theorem part_run {n : Nat} {t : TypeId} {l : List Nat} (hf : flatK P n t = some l) (hi : (P.info? t).map (·.size) = some l.length) (xs : List Value) (off : Nat) (hx : off + l.length ≤ xs.length) (w : World) :
    (part t xs.toArray off).run P w = .ok (wrapV P t ((xs.drop off).take l.length)) w := by
  have hsz : ∀ w, (sizeOf t).run P w = .ok l.length w := fun w => by
    cases hI : P.info? t with
    | none => rw [hI] at hi; cases hi
    | some i => rw [hI] at hi; simp at hi; simp [sizeOf, typeInfo, program, Sem.run_bind, Sem.run, hI, Result.andThen, Sem.run_pure, hi]
  cases hu : P.underlying t with
  | none =>
    cases n with
    | zero => cases hf
    | succ n => simp [flatK, hu] at hf
  | some d =>
    have agg : ∀ b, (isAgg t).run P w = .ok b w → (b = true → wrapV P t ((xs.drop off).take l.length) = .agg ((xs.drop off).take l.length).toArray) →
        (b = false → wrapV P t ((xs.drop off).take l.length) = ((xs.drop off).take l.length).headD undef ∧ l.length = 1) → (part t xs.toArray off).run P w = .ok (wrapV P t ((xs.drop off).take l.length)) w := by
      intro b hb h1 h2
      unfold part
      cases b with
      | true =>
        rw [h1 rfl]
        simp only [Sem.run_bind, hb, Result.andThen_ok, hsz, if_true, Sem.run_pure]
        congr 2
        apply Array.ext'
        simp [List.extract_eq_take_drop]
      | false =>
        obtain ⟨h3, h4⟩ := h2 rfl
        rw [h3, h4]
        have hlt : off < xs.length := by omega
        simp only [Sem.run_bind, hb, Result.andThen_ok, Bool.false_eq_true, if_false, List.getElem?_toArray, List.getElem?_eq_getElem hlt, Sem.run_pure]
        rw [List.drop_eq_getElem_cons hlt]
        rfl
    have hb := flatK_len hf
    have he : (isAgg t).run P w = .ok (match d with | .struct _ | .array _ _ => true | _ => false) w := by
      simp only [isAgg, Sem.run_bind, run_underlying hu, Result.andThen_ok]
      cases d <;> rfl
    refine agg _ he (fun h => ?_) (fun h => ?_)
    · unfold wrapV; rw [hu]; cases d <;> first | rfl | cases h
    · refine ⟨?_, hb ?_⟩
      · unfold wrapV; rw [hu]; cases d <;> first | rfl | cases h
      · rw [hu]; cases d <;> first | rfl | cases h
theorem eq_flat : ∀ (n : Nat) (t : TypeId) (ks : List Nat), flatK P n t = some ks → ∀ xs ys : List Value, okKs ks xs = true → okKs ks ys = true → ∀ d, n ≤ d → ∀ w, (Op.equalIn d t (wrapV P t xs) (wrapV P t ys)).run P w = .ok (beqVs xs ys) w := by
  intro n
  induction n with
  | zero => intro t ks h; cases h
  | succ n ih =>
    intro t ks h xs ys hx hy d hd w
    obtain ⟨d, rfl⟩ : ∃ e, d = e + 1 := ⟨d - 1, by omega⟩
    simp only [flatK] at h
    have one : ∀ k, ks = [k] → ∃ x y, xs = [x] ∧ ys = [y] ∧ bk k x = true ∧ bk k y = true := by
      rintro k rfl
      match xs, ys, okKs_len hx, okKs_len hy with
      | [x], [y], _, _ => exact ⟨x, y, rfl, rfl, by simpa [okKs] using hx, by simpa [okKs] using hy⟩
    split at h
    · next k hu =>
      cases h
      obtain ⟨x, y, rfl, rfl, b1, b2⟩ := one _ rfl
      cases x <;> simp [bk] at b1
      case int k1 a =>
        cases y <;> simp [bk] at b2
        case int k2 b =>
          have e1 := kc_inj b1; have e2 := kc_inj b2
          subst e1; subst e2
          simp only [wrapV, hu, List.headD_cons, run_equalIn_int w d t _ _ a b hu, beqVs, beqV, Bool.and_true]
        all_goals exact absurd b2.symm (by cases k <;> decide)
      all_goals exact absurd b1.symm (by cases k <;> decide)
    · next hu =>
      cases h
      obtain ⟨x, y, rfl, rfl, b1, b2⟩ := one _ rfl
      cases x <;> simp [bk] at b1
      case string a =>
        cases y <;> simp [bk] at b2
        case string b => simp only [wrapV, hu, List.headD_cons, run_equalIn_string w d t a b hu, beqVs, beqV, Bool.and_true]
        case int k2 b => exact absurd b2 (by cases k2 <;> decide)
      case int k1 a => exact absurd b1 (by cases k1 <;> decide)
    · next hu =>
      cases h
      obtain ⟨x, y, rfl, rfl, b1, b2⟩ := one _ rfl
      cases x <;> simp [bk] at b1
      case bool a =>
        cases y <;> simp [bk] at b2
        case bool b => simp only [wrapV, hu, List.headD_cons, run_equalIn_bool' w d t a b hu, beqVs, beqV, Bool.and_true]
        case int k2 b => exact absurd b2 (by cases k2 <;> decide)
      case int k1 a => exact absurd b1 (by cases k1 <;> decide)
    · next fs hu =>
      split at h
      · cases h
      · next hp =>
        have hp : P.stoodInHeld t = false := by simpa using hp
        have hfo : P.fieldsOf t = fs := by unfold Program.fieldsOf; rw [hu]
        have hw : ∀ l, wrapV P t l = .agg l.toArray := fun l => by unfold wrapV; rw [hu]
        rw [hw, hw, run_equalIn_agg w d t _ _ (by rw [hfo]; exact hu) hp, hfo]
        have go : ∀ (l : List Field) (off : Nat) (ks : List Nat), flatFs P (flatK P n) off l = some ks → okKs ks (xs.drop off) = true → okKs ks (ys.drop off) = true → off ≤ xs.length → off ≤ ys.length →
            ∀ w, (Op.eqFields d xs.toArray ys.toArray l).run P w = .ok (beqVs (xs.drop off) (ys.drop off)) w := by
          intro l
          induction l with
          | nil =>
            intro off ks h h1 h2 _ _ w
            cases h
            have e1 := List.eq_nil_of_length_eq_zero (okKs_len h1)
            have e2 := List.eq_nil_of_length_eq_zero (okKs_len h2)
            rw [e1, e2]; rfl
          | cons f l ihl =>
            intro off ks h h1 h2 l1 l2 w
            simp only [flatFs] at h
            split at h
            · next q hq =>
              split at h
              · next hc =>
                obtain ⟨hn, ho, hi⟩ := hc
                cases hr : flatFs P (flatK P n) (off + q.length) l with
                | none => rw [hr] at h; cases h
                | some r =>
                  rw [hr] at h
                  cases h
                  have k1 := okKs_len h1
                  have k2 := okKs_len h2
                  simp only [List.length_drop, List.length_append] at k1 k2
                  obtain ⟨a1, a2⟩ := okKs_app h1
                  obtain ⟨b1, b2⟩ := okKs_app h2
                  rw [List.drop_drop] at a2 b2
                  have p1 := part_run hq hi xs off (by omega) w
                  have p2 := part_run hq hi ys off (by omega) w
                  have e := ih f.type q hq _ _ a1 b1 d (by omega) w
                  simp only [Op.eqFields, if_pos hn, Sem.run_bind, ho, p1, Result.andThen_ok, p2, e]
                  rw [beqVs_app (n := q.length) (xs := xs.drop off) (ys := ys.drop off) (by simp; omega), List.drop_drop, List.drop_drop]
                  cases hbb : beqVs ((xs.drop off).take q.length) ((ys.drop off).take q.length)
                  · simp [Sem.run_pure]
                  · simp only [Bool.not_true, Bool.false_eq_true, if_false, Bool.true_and]
                    exact ihl _ _ hr a2 b2 (by omega) (by omega) w
              · cases h
            · cases h
        have := go fs.toList 0 ks h (by simpa using hx) (by simpa using hy) (Nat.zero_le _) (Nat.zero_le _) w
        simpa using this
    · next m e hu =>
      split at h
      · next k hk =>
        split at h
        · next hc =>
          obtain ⟨rfl, hi⟩ := hc
          cases h
          match xs, ys, okKs_len hx, okKs_len hy with
          | [x0, x1], [y0, y1], _, _ =>
            simp only [okKs, Bool.and_true, Bool.and_eq_true] at hx hy
            have r : ∀ (x y : Value), bk k x = true → bk k y = true → ∀ w, (Op.equalIn d e (wrapV P e [x]) (wrapV P e [y])).run P w = .ok (beqV x y) w := fun x y h1 h2 w => by
              have := ih e [k] hk [x] [y] (by simp [okKs, h1]) (by simp [okKs, h2]) d (by omega) w
              simpa [beqVs] using this
            have pr : ∀ (a b : Value) (i : Nat), i < 2 → ∀ w, (part e #[a, b] i).run P w = .ok (wrapV P e [([a, b] : List Value).getD i undef]) w := fun a b i hi2 w => by
              have := part_run hk hi [a, b] i (by simp; omega) w
              match i, hi2 with
              | 0, _ => simpa using this
              | 1, _ => simpa using this
            have hsz : ∀ w, (sizeOf e).run P w = .ok 1 w := fun w => by
              cases hI : P.info? e with
              | none => rw [hI] at hi; cases hi
              | some i => rw [hI] at hi; simp at hi; simp [sizeOf, typeInfo, program, Sem.run_bind, Sem.run, hI, Result.andThen, Sem.run_pure, hi]
            have hw : ∀ l, wrapV P t l = .agg l.toArray := fun l => by unfold wrapV; rw [hu]
            rw [hw, hw]
            unfold Op.equalIn
            simp only [Sem.run_bind, run_underlying hu, Result.andThen_ok, hsz]
            simp [Sem.run_bind, pr, r, hx, hy, List.range', beqVs, Sem.run_pure]
            cases beqV x0 y0 <;> cases beqV x1 y1 <;> simp [Sem.run_pure]
        · cases h
      · cases h
    · cases h
end
def zk : SV → Nat
  | .v (.int k _) => kc k
  | .v (.string _) => 3
  | .v (.bool _) => 5
  | _ => 0
def zks : List SV → List Nat
  | [] => []
  | x :: l => zk x :: zks l
def cmpB (P : Program) (t : TypeId) (zero : List SV) : Bool := decide (flatK P 8 t = some (zks zero)) && !(P.eqGuardType P.depth t) && (match P.underlying t with | some (.struct _) => true | some (.array _ _) => true | _ => false)
def nonO : List (Nat × Nat) → Bool
  | [] => false
  | _ :: _ => true
def cmpT (ti : TI) : Bool := (ti.sort == 4 && ti.bytes == 1) || (ti.sort == 2 && nonO ti.offs)
def cls : TypeDesc → Nat × TypeId × Nat × Bool
  | .slice e => (1, e, 0, false)
  | .array n e => (2, e, n, true)
  | .string => (3, 0, 0, false)
  | .struct _ => (4, 0, 0, true)
  | .bool => (5, 0, 0, false)
  | .func _ _ _ => (6, 0, 0, false)
  | .map k e => (9, e, k, false)
  | .int k => (kc k, 0, 0, false)
  | _ => (0, 0, 0, false)
structure TyOk (P : Program) (t : TypeId) (ti : TI) : Prop where
  und : (P.underlying t).map cls = some (ti.sort, ti.elem, ti.len, ti.agg)
  info : (P.info? t).map (fun i => (i.size, i.zero.map fun z => z.cells.toList)) = some (ti.size, some (dens ti.zero))
  pos : ti.size ≠ 0
  one : ti.agg = false → ti.size = 1
  fld : (ti.sort = 4 → ∃ fs, P.underlying t = some (.struct fs) ∧ fs.toList.mapM (fun f => (P.info? f.type).map fun i => (f.offset, i.size)) = some ti.offs)
  elt : (ti.sort = 1 ∨ ti.sort = 2) → (P.info? ti.elem).map (fun i => (i.size, i.bytes)) = some (ti.esz, ti.bytes)
  cmp : cmpT ti = true → cmpB P t ti.zero = true
  zer : (P.info? t).bind (·.zero) = some (bif ti.agg then .agg (dens ti.zero).toArray else (dens ti.zero).headD undef)
theorem TyOk.mk' {P : Program} {t : TypeId} {ti : TI} (und : (P.underlying t).map cls = some (ti.sort, ti.elem, ti.len, ti.agg))
    (info : (P.info? t).map (fun i => (i.size, i.zero.map fun z => z.cells.toList)) = some (ti.size, some (dens ti.zero)))
    (pos : ti.size ≠ 0) (one : ti.agg = false → ti.size = 1)
    (fld : (match P.underlying t with | some (.struct fs) => fs.toList.mapM (fun f => (P.info? f.type).map fun i => (f.offset, i.size)) | _ => some ti.offs) = some ti.offs)
    (elt : (bif ti.sort == 1 || ti.sort == 2 then (P.info? ti.elem).map (fun i => (i.size, i.bytes)) else some (ti.esz, ti.bytes)) = some (ti.esz, ti.bytes))
    (cmp : (bif cmpT ti then cmpB P t ti.zero else true) = true := by kernel_rfl)
    (zer : (P.info? t).bind (·.zero) = some (bif ti.agg then .agg (dens ti.zero).toArray else (dens ti.zero).headD undef) := by kernel_rfl) : TyOk P t ti := by
  refine ⟨und, info, pos, one, fun h => ?_, fun h => ?_, fun h => by rw [h] at cmp; exact cmp, zer⟩
  · cases hu : P.underlying t with
    | none => rw [hu] at und; cases und
    | some d =>
      rw [hu] at und fld
      cases d <;> simp [cls, h, kc_4] at und
      exact ⟨_, rfl, fld⟩
  · have : (ti.sort == 1 || ti.sort == 2) = true := by rcases h with h | h <;> simp [h]
    rw [this] at elt; exact elt
def TyAll (P : Program) (T : TypeId → TI) : Prop := ∀ t, (T t).ok = true → TyOk P t (T t)
section
variable {P : Program} {t : TypeId} {ti : TI}
theorem TyOk.inf (h : TyOk P t ti) : ∃ i z, P.info? t = some i ∧ i.size = ti.size ∧ i.zero = some z ∧ z.cells.toList = dens ti.zero := by
  have h := h.info
  cases hi : P.info? t with
  | none => rw [hi] at h; cases h
  | some i =>
    rw [hi] at h
    simp only [Option.map_some, Option.some.injEq, Prod.mk.injEq] at h
    obtain ⟨h1, h3⟩ := h
    cases hz : i.zero with
    | none => rw [hz] at h3; cases h3
    | some z => rw [hz] at h3; exact ⟨i, z, rfl, h1, hz, by simpa using h3⟩
theorem TyOk.el (h : TyOk P t ti) (hs : ti.sort = 1 ∨ ti.sort = 2) : ∃ i, P.info? ti.elem = some i ∧ i.size = ti.esz ∧ i.bytes = ti.bytes := by
  have h := h.elt hs
  cases hi : P.info? ti.elem with
  | none => rw [hi] at h; cases h
  | some i => rw [hi] at h; exact ⟨i, rfl, by simpa using h⟩
theorem TyOk.u (h : TyOk P t ti) : ∃ d, P.underlying t = some d ∧ cls d = (ti.sort, ti.elem, ti.len, ti.agg) := by
  have h := h.und
  cases hu : P.underlying t with
  | none => rw [hu] at h; cases h
  | some d => rw [hu] at h; exact ⟨d, rfl, by simpa using h⟩
theorem TyOk.slice (h : TyOk P t ti) (hs : ti.sort = 1) : P.underlying t = some (.slice ti.elem) := by
  obtain ⟨d, hu, hc⟩ := h.u
  rw [hu]
  cases d <;> simp [cls, hs, kc_1, kc_2, kc_3, kc_5] at hc ⊢
  exact hc.1
theorem TyOk.array (h : TyOk P t ti) (hs : ti.sort = 2) : P.underlying t = some (.array ti.len ti.elem) := by
  obtain ⟨d, hu, hc⟩ := h.u
  rw [hu]
  cases d <;> simp [cls, hs, kc_1, kc_2, kc_3, kc_5] at hc ⊢
  exact ⟨hc.2.1, hc.1⟩
theorem TyOk.str (h : TyOk P t ti) (hs : ti.sort = 3) : P.underlying t = some .string := by
  obtain ⟨d, hu, hc⟩ := h.u
  rw [hu]
  cases d <;> simp [cls, hs, kc_1, kc_2, kc_3, kc_5] at hc ⊢
theorem TyOk.bool (h : TyOk P t ti) (hs : ti.sort = 5) : P.underlying t = some .bool := by
  obtain ⟨d, hu, hc⟩ := h.u
  rw [hu]
  cases d <;> simp [cls, hs, kc_1, kc_2, kc_3, kc_5] at hc ⊢
theorem TyOk.func (h : TyOk P t ti) (hs : ti.sort = 6) : ∃ a b c, P.underlying t = some (.func a b c) := by
  obtain ⟨d, hu, hc⟩ := h.u
  rw [hu]
  cases d <;> simp [cls, hs, kc_6] at hc ⊢
theorem TyOk.int {k : IntKind} (h : TyOk P t ti) (hs : ti.sort = kc k) : P.underlying t = some (.int k) := by
  obtain ⟨d, hu, hc⟩ := h.u
  rw [hu]
  cases d <;> simp only [cls, hs, Prod.mk.injEq] at hc
  case int k' => rw [kc_inj hc.1]
  all_goals exact absurd hc.1 (by cases k <;> decide)
theorem TyOk.runAgg (h : TyOk P t ti) (w : World) : (isAgg t).run P w = .ok ti.agg w := by
  obtain ⟨d, hu, hc⟩ := h.u
  simp only [isAgg, Sem.run_bind, run_underlying hu, Result.andThen]
  cases d <;> simp [cls] at hc <;> simp [Sem.run_pure, ← hc]
theorem TyOk.runSize (h : TyOk P t ti) (w : World) : (sizeOf t).run P w = .ok ti.size w := by
  obtain ⟨i, z, hi, hs, _⟩ := h.inf
  simp [sizeOf, typeInfo, program, Sem.run_bind, Sem.run, hi, hs, Result.andThen, Sem.run_pure]
theorem TyOk.runZero (h : TyOk P t ti) : ∃ z, (∀ w, (zeroValue t).run P w = .ok z w) ∧ z.cells.toList = dens ti.zero := by
  obtain ⟨i, z, hi, hs, hz, e⟩ := h.inf
  exact ⟨z, fun w => by simp [zeroValue, typeInfo, program, Sem.run_bind, Sem.run, hi, hz, Result.andThen, Sem.run_pure], e⟩
theorem mapM_at {fs : List Field} {l : List (Nat × Nat)} (h : fs.mapM (fun f => (P.info? f.type).map fun i => (f.offset, i.size)) = some l) : ∀ f d n, offAt l f = some (d, n) → ∃ x i, fs[f]? = some x ∧ x.offset = d ∧ P.info? x.type = some i ∧ i.size = n := by
  induction fs generalizing l with
  | nil => intro f d n hf; simp at h; subst h; cases hf
  | cons y fs ih =>
    simp only [List.mapM_cons, Option.bind_eq_bind, Option.pure_def] at h
    cases hi : P.info? y.type with
    | none => simp [hi] at h
    | some i =>
      cases hr : fs.mapM (fun f => (P.info? f.type).map fun i => (f.offset, i.size)) with
      | none => simp [hi, hr] at h
      | some rest =>
        simp [hi, hr] at h
        subst h
        intro f d n hf
        cases f with
        | zero => simp [offAt] at hf; exact ⟨y, i, rfl, hf.1, hi, hf.2⟩
        | succ f => exact ih hr f d n hf
theorem TyOk.runFld (h : TyOk P t ti) (hs : ti.sort = 4) {f d n : Nat} (hn : n ≠ 0) (hf : offAt ti.offs f = some (d, n)) (a : Addr) (w : World) : (Instr.fieldAt t (.pointer (some a)) f).run P w = .ok (.pointer (some (a.add d))) w := by
  obtain ⟨fs, hu, hm⟩ := h.fld hs
  obtain ⟨x, i, hx, rfl, hi, rfl⟩ := mapM_at hm f d n hf
  have hx : fs[f]? = some x := by simpa using hx
  simp [Instr.fieldAt, Instr.sureAddr, fieldPlace, sizeOf, typeInfo, program, Sem.run_bind, Sem.run, run_underlying hu, hx, hi, hn, Result.andThen, Sem.run_pure]
end

section runs
variable {P : Program} {w : World}
theorem run_load_cell {a : Addr} {v : Value} (h : w.cell? a = some v) : (load a).run P w = .ok v w := by simp [load, Sem.run, h]
theorem cell_blk {b o : Nat} {arr : Array Value} {t : TypeId} {fr : Nat × Nat} (h : w.heap[b]? = some (.cells arr t fr)) : w.cell? ⟨b, o, none⟩ = arr[o]? := by simp [World.cell?, h]
def wput (w : World) (b : Nat) (x : Obj) : World := { w with heap := w.heap.setIfInBounds b x }
theorem wput_get {b : Nat} {x : Obj} (h : b < w.heap.size) : (wput w b x).heap[b]? = some x := by simp [wput, h]
theorem wput_ne {b i : Nat} {x : Obj} (h : i ≠ b) : (wput w b x).heap[i]? = w.heap[i]? := by
  simp only [wput]; rw [Array.getElem?_setIfInBounds_ne (Ne.symm h)]
theorem setCell_blk {b o : Nat} {arr : Array Value} {t : TypeId} {fr : Nat × Nat} {v : Value} (h : w.heap[b]? = some (.cells arr t fr)) : w.setCell ⟨b, o, none⟩ v = wput w b (.cells (arr.setIfInBounds o v) t fr) := by
  unfold World.setCell wput
  congr 1
  apply Array.ext_getElem?
  intro i
  by_cases e : i = b
  · subst e
    have := lt_of_cells h
    rw [Array.getElem?_modify, if_pos rfl, h]
    simp [this]
  · rw [Array.getElem?_modify, if_neg (Ne.symm e), Array.getElem?_setIfInBounds_ne (Ne.symm e)]
theorem wput_wput {b : Nat} {x y : Obj} : wput (wput w b x) b y = wput w b y := by
  simp [wput]
theorem wput_self {b : Nat} {x : Obj} (h : w.heap[b]? = some x) : wput w b x = w := by
  unfold wput
  have hb := lt_of_cells h
  have : w.heap.setIfInBounds b x = w.heap := by
    apply Array.ext_getElem?
    intro i
    by_cases e : i = b
    · subst e; rw [h]; simp [hb]
    · rw [Array.getElem?_setIfInBounds_ne (Ne.symm e)]
  rw [this]
theorem run_store_cell {b o : Nat} {arr : Array Value} {t : TypeId} {v : Value} (h : w.heap[b]? = some (.cells arr t (0, 0))) (ho : o < arr.size) (hv : isOne v = true) :
    (store ⟨b, o, none⟩ v).run P w = .ok () (wput w b (.cells (arr.setIfInBounds o v) t (0, 0))) := by
  have hc : w.cell? ⟨b, o, none⟩ = some arr[o] := by rw [cell_blk h]; simp [ho]
  have hf : w.frozen? ⟨b, o, none⟩ = false := by simp [World.frozen?, h]
  rw [← setCell_blk h]
  unfold store
  cases v <;> first | (cases hv; done) | simp [Sem.run, hc, hf]
theorem run_storeCells {b o : Nat} {t : TypeId} (vs : List Value) : ∀ (i : Nat) (w : World) (arr : Array Value), w.heap[b]? = some (.cells arr t (0, 0)) → o + i + vs.length ≤ arr.size → (∀ v ∈ vs, isOne v = true) →
    (storeCells ⟨b, o, none⟩ vs i).run P w = .ok () (wput w b (.cells (putAt arr.toList (o + i) vs).toArray t (0, 0))) := by
  induction vs with
  | nil =>
    intro i w arr h _ _
    have : putAt arr.toList (o + i) [] = arr.toList := by cases arr.toList <;> rfl
    rw [this, wput_self h]
    rfl
  | cons v vs ih =>
    intro i w arr h hl hv
    simp only [List.length_cons] at hl
    have h1 := run_store_cell (P := P) (o := o + i) h (by omega) (hv v (by simp))
    simp only [storeCells, Sem.run_bind, addr_add, h1, Result.andThen]
    have hb := lt_of_cells h
    rw [ih (i + 1) _ (arr.setIfInBounds (o + i) v) (wput_get hb) (by simp; omega) (fun u hu => hv u (by simp [hu])), wput_wput]
    rw [putAt_cons, ← Array.toList_setIfInBounds, Nat.add_assoc]
end runs
end En
end Go.Proofs.YtnpkmimbnjnicaaGreatDoor
/-
The engine: what an operation makes of a state, and that it is so (for every seat).
-/
set_option linter.unusedSimpArgs false
set_option linter.unusedVariables false
namespace Go.Proofs.YtnpkmimbnjnicaaGreatDoor
namespace En
open Go Go.RowKit

def sameK : IntKind → IntKind → Bool
  | .i8, .i8 | .i16, .i16 | .i32, .i32 | .i64, .i64 | .u8, .u8 | .u16, .u16 | .u32, .u32 | .u64, .u64 => true
  | _, _ => false
theorem sameK_eq {a b : IntKind} (h : sameK a b = true) : a = b := by cases a <;> cases b <;> first | rfl | cases h
def lo : IntKind → Int
  | .i8 => -128 | .i16 => -32768 | .i32 => -2147483648 | .i64 => -9223372036854775808 | _ => 0
def hi : IntKind → Int
  | .i8 => 127 | .i16 => 32767 | .i32 => 2147483647 | .i64 => 9223372036854775807 | .u8 => 255 | .u16 => 65535 | .u32 => 4294967295 | .u64 => 18446744073709551615
def inr (k : IntKind) (n : Int) : Prop := lo k ≤ n ∧ n ≤ hi k
theorem inr_wrap {k : IntKind} {n : Int} (h : inr k n) : k.wrap n = n := by
  obtain ⟨h1, h2⟩ := h
  cases k <;> simp only [lo, hi] at h1 h2 <;> simp only [IntKind.wrap, IntKind.bits, IntKind.signed, IntKind.max, IntKind.min] <;> (try simp) <;> omega
def fnR (ti : TI) (op : BinOp) (b : Bool) : Res := bif ti.ok && ti.sort == 6 then (match op with
    | .eql => .is True (.v (.bool b))
    | .neq => .is True (.v (.bool (!b)))
    | _ => .bad) else .bad
def slR (ti : TI) (op : BinOp) (b : Bool) : Res := bif ti.ok && ti.sort == 1 then (match op with
    | .eql => .is True (.v (.bool b))
    | .neq => .is True (.v (.bool (!b)))
    | _ => .bad) else .bad
def eq1 : SV → SV → SV → Option Bool
  | .v (.int k _), .v (.int k1 a), .v (.int k2 b) => bif sameK k k1 && sameK k k2 then some (a == b) else none
  | .v (.string _), .v (.string a), .v (.string b) => some (a.toList == b.toList)
  | .v (.bool _), .v (.bool a), .v (.bool b) => some (a == b)
  | _, _, _ => none
def eqO : Option Bool → Option Bool → Option Bool
  | some p, some q => some (bif p then q else false)
  | _, _ => none
def eqSV : List SV → List SV → List SV → Option Bool
  | [], [], [] => some true
  | z :: zs, x :: xs, y :: ys => eqO (eq1 z x y) (eqSV zs xs ys)
  | _, _, _ => none
def stEq (op : BinOp) : Option Bool → Res
  | some q => (match op with
    | .eql => .is True (.v (.bool q))
    | .neq => .is True (.v (.bool (!q)))
    | _ => .bad)
  | none => .bad
def isSh : BinOp → Bool
  | .shl | .shr => true
  | _ => false
def shR (op : BinOp) (k : IntKind) (a b : Int) : Res :=
  match op with
  | .shr => .is (0 ≤ b) (.v (.int k (a / 2 ^ min b.toNat k.bits)))
  | _ => .is (0 ≤ b ∧ inr k (a * 2 ^ min b.toNat k.bits)) (.v (.int k (a * 2 ^ min b.toNat k.bits)))
def wrp (ti : TI) : IntKind → Bool
  | .u8 => nonO ti.offs
  | _ => false
def shW (op : BinOp) (k : IntKind) (a b : Int) (w : Bool) : Res :=
  match op with
  | .shl => bif w then .is (0 ≤ b) (.v (.int k (k.wrap (a * 2 ^ min b.toNat k.bits)))) else shR .shl k a b
  | _ => shR op k a b
def bin (ti : TI) (op : BinOp) : SV → SV → Res
  | .v (.int k a), .v (.int k' b) => bif isSh op then shW op k a b (wrp ti k) else bif sameK k k' then (match op with
    | .eql => .is True (.v (.bool (a == b)))
    | .neq => .is True (.v (.bool (a != b)))
    | .lss => .is True (.v (.bool (decide (a < b))))
    | .leq => .is True (.v (.bool (decide (a ≤ b))))
    | .gtr => .is True (.v (.bool (decide (b < a))))
    | .geq => .is True (.v (.bool (decide (b ≤ a))))
    | .add => .is (inr k (a + b)) (.v (.int k (a + b)))
    | .sub => bif wrp ti k then .is True (.v (.int k (k.wrap (a - b)))) else .is (inr k (a - b)) (.v (.int k (a - b)))
    | .mul => .is (inr k (a * b)) (.v (.int k (a * b)))
    | .quo => .is (b ≠ 0 ∧ inr k (a.tdiv b)) (.v (.int k (a.tdiv b)))
    | .rem => .is (b ≠ 0) (.v (.int k (a.tmod b)))
    | .and => .is True (.v (.int k (bits .and k a b)))
    | .or => .is True (.v (.int k (bits .or k a b)))
    | .andNot => .is True (.v (.int k (bits .andNot k a b)))
    | _ => .bad) else .bad
  | .v (.bool a), .v (.bool b) => bif ti.ok && ti.sort == 5 then (match op with
    | .eql => .is True (.v (.bool (a == b)))
    | .neq => .is True (.v (.bool (!(a == b))))
    | _ => .bad) else .bad
  | .v (.string a), .v (.string b) => match op with
    | .eql => .is True (.v (.bool (a.toList == b.toList)))
    | .neq => .is True (.v (.bool (!(a.toList == b.toList))))
    | .lss => .is True (.v (.bool (Op.bytesLess a.toList b.toList)))
    | .add => .is (a.size + b.size ≤ 9223372036854775807) (.v (.string (a ++ b)))
    | _ => .bad
  | .v .nilFunc, .v .nilFunc => fnR ti op true
  | .v (.func _ _ _), .v .nilFunc => fnR ti op false
  | .fn _ _ _, .v .nilFunc => fnR ti op false
  | .v (.slice none _ _), .v (.slice none 0 0) => slR ti op true
  | .gp _ _ _ _ _, .v (.slice none 0 0) => slR ti op false
  | .g _ none _ _, .v (.slice none 0 0) => slR ti op true
  | .g _ (some _) _ _, .v (.slice none 0 0) => slR ti op false
  | .agg xs, .agg ys => bif ti.ok && cmpT ti then stEq op (eqSV ti.zero xs ys) else .bad
  | _, _ => .bad
def un1 : UnOp → SV → Res
  | .not, .v (.bool b) => .is True (.v (.bool (!b)))
  | .neg, .v (.int k a) => .is (inr k (0 - a)) (.v (.int k (0 - a)))
  | _, _ => .bad
def fc : Ch → Nat → Nat → Value
  | .ints _ _ k xs, i, _ | .rowI _ _ _ k xs, i, _ | .own _ _ k xs, i, _ => .int k (xs.getD i 0)
  | .strs _ _ xs, i, _ | .rowS _ _ _ xs, i, _ => .string (xs.getD i ByteArray.empty)
  | .raw _ _ _ xs, i, o => (xs.getD i []).getD o undef
  | .rowV _ _ _ z _ cs, i, o | .rawV _ _ z _ cs, i, o => (dens cs).getD (i * z + o) undef
  | .recs _ _ _ _ f, i, o => (dens (f i)).getD o undef
  | _, _, _ => undef
def elemCells (c : Ch) (i : Nat) (o : Nat) : Nat → List SV
  | 0 => []
  | n + 1 => .v (fc c i o) :: elemCells c i (o + 1) n
def rd : Ch → Option (Option Addr × Nat × Nat × Nat)
  | .ints A c _ xs | .rowI A c _ _ xs | .own A c _ xs => some (A, c, 1, xs.length)
  | .strs A c xs | .rowS A c _ xs => some (A, c, 1, xs.length)
  | .raw A c z xs => some (A, c, z, xs.length)
  | .rowV A c _ z n _ | .rawV A c z n _ | .recs A c z n _ => some (A, c, z, n)
  | _ => none
def vcells : Ch → Option (List SV)
  | .rowV _ _ _ _ _ cs | .rawV _ _ _ _ cs => some cs
  | _ => none
def loadV (ti : TI) (c : Ch) (p : Prop) (z : Nat) (i : Int) (o : Nat) : Option (List SV) → Res
  | some cs => .is (p ∧ i.toNat * z + o + ti.size ≤ lenS cs) (bif ti.agg then .agg (cut cs (i.toNat * z + o) ti.size) else nth cs (i.toNat * z + o))
  | none => .is p (bif ti.agg then .agg (elemCells c i.toNat o ti.size) else .v (fc c i.toNat o))
def recF : Ch → Option (Nat → List SV)
  | .recs _ _ _ _ f => some f
  | _ => none
def loadW (ti : TI) (c : Ch) (p : Prop) (z : Nat) (i : Int) (o : Nat) : Option (Nat → List SV) → Res
  | some f => .is p (bif ti.agg then .agg (cut (f i.toNat) o ti.size) else nth (f i.toNat) o)
  | none => loadV ti c p z i o (vcells c)
def loadE (ti : TI) (c : Ch) (A : Option Addr) (z : Nat) (i : Int) (o : Nat) : Option (Option Addr × Nat × Nat × Nat) → Res
  | some (A', _, z', n) => loadW ti c (A = A' ∧ z = z' ∧ 0 ≤ i ∧ i.toNat < n ∧ o + ti.size ≤ z) z i o (recF c)
  | none => .bad
def loadB (ti : TI) (b o : Nat) : Ch → Res
  | .cst b' o' cs => .is (b = b' ∧ o' ≤ o ∧ (o - o') + ti.size ≤ lenS cs) (bif ti.agg then .agg (cut cs (o - o') ti.size) else nth cs (o - o'))
  | .blk b' cs _ => .is (b = b' ∧ o + ti.size ≤ lenS cs) (bif ti.agg then .agg (cut cs o ti.size) else nth cs o)
  | _ => .bad
def loadR (ti : TI) (H : Nat → Ch) : SV → Res
  | .p k b o => loadB ti b o (H k)
  | .e k A z i o => loadE ti (H k) A z i o (rd (H k))
  | _ => .bad
def storeB (ti : TI) (k b o : Nat) (y : List SV) : Ch → Res
  | .blk b' cs t' => bif allOne y then .put (b = b' ∧ lenS y = ti.size ∧ o + ti.size ≤ lenS cs) k (.blk b' (putAt cs o y) t') else .bad
  | _ => .bad
def storeR (ti : TI) (H : Nat → Ch) : SV → SV → Res
  | .p k b o, y => storeB ti k b o (cells y) (H k)
  | _, _ => .bad
def fldR (ti : TI) : SV → Option (Nat × Nat) → Res
  | .p k b o, some (d, n) => .is (n ≠ 0) (.p k b (o + d))
  | .e k A z i o, some (d, n) => .is (n ≠ 0 ∧ A ≠ none) (.e k A z i (o + d))
  | _, _ => .bad
def extR (i : Nat) : SV → Res
  | .tup l => .is (i < lenS l) (nth l i)
  | _ => .bad
def core1 (xs : List SV) (f : SV → Res) : Res := match xs with | [x] => f x | _ => .bad
def core2 (xs : List SV) (f : SV → SV → Res) : Res := match xs with | [x, y] => f x y | _ => .bad
abbrev Gam := FuncId → List SV → (Nat → Ch) → Nat → Res
def lenR : List SV → Res
  | [.g _ _ n _] => .is True (.v (.int .i64 n))
  | [.v (.slice _ n _)] => .is True (.v (.int .i64 n))
  | [.gp _ _ _ n _] => .is True (.v (.int .i64 n))
  | _ => .bad
def lenT : List SV → Res
  | [.v (.string s)] => .is True (.v (.int .i64 s.size))
  | _ => .bad
def goR (G : Gam) (H : Nat → Ch) (nx : Nat) : List SV → Res
  | .v (.func (.func f) a c) :: xs => bif (a.size == 0 && c.size == 0) then G f xs H nx else .bad
  | .fn (.func f) a c :: xs => G f (a ++ xs ++ c) H nx
  | _ => .bad
def nonE : List SV → Bool
  | [] => false
  | _ :: _ => true
def fillS (pl : Nat → Option (Nat × Nat)) (cs : List SV) : List Nat → List SV → Prop × List SV
  | i :: is, x :: xs => (match pl i with
    | some (d, n) => (match fillS pl (putAt cs d (cells x)) is xs with
      | (p, r) => ((cells x ≠ [] ∧ lenS (cells x) = n ∧ d + n ≤ lenS cs) ∧ p, r))
    | none => (False, cs))
  | [], [] => (True, cs)
  | _, _ => (False, cs)
def buildR : Prop × List SV → Res
  | (p, cs) => .is p (.agg cs)
def idxE (k : Nat) (A : Option Addr) (i : Int) (n : Nat) (esz : Nat) : Option (Option Addr × Nat × Nat × Nat) → Res
  | some (A', _, z', n') => .is (A = A' ∧ esz = z' ∧ n = n' ∧ 0 ≤ i ∧ i < n) (.e k A esz i 0)
  | none => .bad
def idxR (ti : TI) (H : Nat → Ch) : SV → SV → Res
  | .g k A n _, .v (.int _ i) => bif ti.sort == 1 then idxE k A i n ti.esz (rd (H k)) else .bad
  | .gp k b o n _, .v (.int _ i) => bif ti.sort == 1 then .is (0 ≤ i ∧ i < n) (.p k b (o + i.toNat * ti.esz)) else .bad
  | .p k b o, .v (.int _ i) => bif ti.sort == 2 then .is (0 ≤ i ∧ i < ti.len) (.p k b (o + i.toNat * ti.esz)) else .bad
  | _, _ => .bad
def chr (s : ByteArray) (i : Int) : Int := ((s.data.toList.getD i.toNat 0).toNat : Int)
def strI : SV → SV → Res
  | .v (.string s), .v (.int _ i) => .is (0 ≤ i ∧ i < s.size) (.v (.int .u8 (chr s i)))
  | _, _ => .bad
def arrI (ti te : TI) : SV → SV → Res
  | .agg l, .v (.int _ i) => .is (te.agg = false ∧ ti.esz = 1 ∧ 0 ≤ i ∧ i < ti.len ∧ i.toNat < lenS l) (nth l i.toNat)
  | _, _ => .bad
def nilR : SV → Res
  | .p k b o => .is True (.p k b o)
  | .e k A z i o => .is (A ≠ none) (.e k A z i o)
  | .v (.pointer (some a)) => .is True (.v (.pointer (some a)))
  | .fn (.func f) a c => .is True (.fn (.func f) a c)
  | _ => .bad
def rep : Nat → List SV → List SV
  | 0, _ => []
  | n + 1, z => z ++ rep n z
def plS (esz : Nat) (i : Nat) : Option (Nat × Nat) := some (i * esz, esz)
def consP (p : Prop) (c : List SV) (r : Prop × List SV) : Prop × List SV := (p ∧ r.1, c ++ r.2)
def fillL (esz : Nat) (zero : List SV) : Nat → Nat → List Nat → List SV → Prop × List SV
  | 0, _, [], [] => (True, [])
  | m + 1, i, j :: js, x :: xs => bif i == j then consP (cells x ≠ [] ∧ lenS (cells x) = esz) (cells x) (fillL esz zero m (i + 1) js xs) else consP True zero (fillL esz zero m (i + 1) (j :: js) (x :: xs))
  | m + 1, i, [], [] => consP True zero (fillL esz zero m (i + 1) [] [])
  | _, _, _, _ => (False, [])
theorem putAt_app {α : Type} (a b c y : List α) (h : y.length = b.length) : putAt (a ++ (b ++ c)) a.length y = a ++ (y ++ c) := by
  induction a with
  | nil =>
    show putAt (b ++ c) 0 y = y ++ c
    induction y generalizing b with
    | nil =>
      have : b = [] := List.eq_nil_of_length_eq_zero h.symm
      subst this
      show putAt c 0 [] = c
      cases c <;> rfl
    | cons v y ih =>
      cases b with
      | nil => cases h
      | cons u b =>
        show v :: putAt (b ++ c) 0 y = v :: (y ++ c)
        rw [ih b (by simpa using h)]
  | cons z a ih =>
    cases y with
    | nil =>
      have : b = [] := List.eq_nil_of_length_eq_zero h.symm
      subst this
      rfl
    | cons v y =>
      show z :: putAt (a ++ (b ++ c)) a.length (v :: y) = z :: (a ++ (v :: y ++ c))
      rw [ih]
theorem fillL_S {esz : Nat} {zero : List SV} (hz : zero.length = esz) : ∀ (m i : Nat) (is : List Nat) (xs pre : List SV), pre.length = i * esz → (fillL esz zero m i is xs).1 →
    (fillS (plS esz) (pre ++ rep m zero) is xs).1 ∧ (fillS (plS esz) (pre ++ rep m zero) is xs).2 = pre ++ (fillL esz zero m i is xs).2 := by
  intro m
  induction m with
  | zero =>
    intro i is xs pre _ h
    cases is <;> cases xs <;> first | exact h.elim | exact ⟨trivial, rfl⟩
  | succ m ih =>
    intro i is xs pre hp h
    have hp' : ∀ c : List SV, c.length = esz → (pre ++ c).length = (i + 1) * esz := fun c hc => by rw [List.length_append, hp, hc, Nat.succ_mul]
    cases is with
    | nil =>
      cases xs with
      | nil =>
        have := ih (i + 1) [] [] (pre ++ zero) (hp' _ hz) h.2
        simp only [List.append_assoc] at this
        exact this
      | cons => exact h.elim
    | cons j js =>
      cases xs with
      | nil => exact h.elim
      | cons x xs =>
        simp only [fillL] at h ⊢
        cases e : (i == j)
        · rw [e] at h
          have := ih (i + 1) (j :: js) (x :: xs) (pre ++ zero) (hp' _ hz) h.2
          simp only [List.append_assoc] at this
          exact this
        · have e := eq_of_beq e
          subst e
          simp only [beq_self_eq_true, cond_true] at h ⊢
          obtain ⟨⟨h1, h2⟩, h3⟩ := h
          have hc : (cells x).length = esz := by rw [← lenS_eq]; exact h2
          have h4 := ih (i + 1) js xs (pre ++ cells x) (hp' _ hc) h3
          simp only [List.append_assoc] at h4
          have e1 : putAt (pre ++ (zero ++ rep m zero)) (i * esz) (cells x) = pre ++ (cells x ++ rep m zero) := by
            rw [← hp]; exact putAt_app pre zero (rep m zero) (cells x) (by rw [hc, hz])
          have e2 : fillS (plS esz) (pre ++ rep (m + 1) zero) (i :: js) (x :: xs) = ((cells x ≠ [] ∧ lenS (cells x) = esz ∧ i * esz + esz ≤ lenS (pre ++ rep (m + 1) zero)) ∧ (fillS (plS esz) (pre ++ (cells x ++ rep m zero)) js xs).1, (fillS (plS esz) (pre ++ (cells x ++ rep m zero)) js xs).2) := by
            rw [← e1]; rfl
          rw [e2]
          refine ⟨⟨⟨h1, h2, ?_⟩, h4.1⟩, h4.2⟩
          rw [lenS_eq, List.length_append, hp]
          show _ ≤ _ + (zero ++ rep m zero).length
          rw [List.length_append, hz]; omega
def mkS (nx : Nat) (ti te : TI) : SV → SV → Res
  | .v (.int _ n), .v (.int _ m) => .new (0 ≤ n ∧ n = m ∧ n ≤ 9223372036854775807 ∧ (ti.bytes : Int) * n ≤ 281474976710656 ∧ lenS te.zero = ti.esz) fun b => (.gp nx b 0 n.toNat n.toNat, [(nx, .blk b (rep n.toNat te.zero) ti.elem)])
  | _, _ => .bad
def bsR (nx n : Nat) (t : TypeId) : Prop × List SV → Res
  | (p, cs) => .new p fun b => (.gp nx b 0 n n, [(nx, .blk b cs t)])
def boundS (d : Int) : Option SV → Option Int
  | none => some d
  | some (.v (.int _ i)) => some i
  | _ => none
def partA (A : Option Addr) (l c esz : Nat) : Option Addr := bif l == c then A else A.map (·.add (l * esz))
def partG (ti : TI) (nx : Nat) (A : Option Addr) (n c : Nat) (l h : Int) : Ch → Res
  | .ints A' c' k xs => .new (A = A' ∧ c = c' ∧ n = xs.length ∧ ti.esz = 1 ∧ 0 ≤ l ∧ l ≤ h ∧ h ≤ n) fun _ => (.g nx (partA A l.toNat c 1) (h.toNat - l.toNat) (c - l.toNat), [(nx, .ints (partA A l.toNat c 1) (c - l.toNat) k ((xs.drop l.toNat).take (h.toNat - l.toNat)))])
  | .strs A' c' xs => .new (A = A' ∧ c = c' ∧ n = xs.length ∧ ti.esz = 1 ∧ 0 ≤ l ∧ l ≤ h ∧ h ≤ n) fun _ => (.g nx (partA A l.toNat c 1) (h.toNat - l.toNat) (c - l.toNat), [(nx, .strs (partA A l.toNat c 1) (c - l.toNat) ((xs.drop l.toNat).take (h.toNat - l.toNat)))])
  | .recs A' c' z m f => .new (A = A' ∧ c = c' ∧ n = m ∧ ti.esz = z ∧ 0 ≤ l ∧ l ≤ h ∧ h ≤ n) fun _ => (.g nx (partA A l.toNat c z) (h.toNat - l.toNat) (c - l.toNat), [(nx, .recs (partA A l.toNat c z) (c - l.toNat) z (h.toNat - l.toNat) fun i => f (l.toNat + i))])
  | _ => .bad
def sliceR (ti : TI) (H : Nat → Ch) (nx : Nat) : SV → Option Int → Option Int → Res
  | .g k A n c, some l, some h => bif ti.sort == 1 then partG ti nx A n c l h (H k) else .bad
  | .gp k b o n c, some l, some h => bif ti.sort == 1 then .is (0 ≤ l ∧ l ≤ h ∧ h ≤ c) (.gp k b (bif l.toNat == c then o else o + l.toNat * ti.esz) (h.toNat - l.toNat) (c - l.toNat)) else .bad
  | .v (.string s), some l, some h => bif ti.sort == 3 then .is (0 ≤ l ∧ l ≤ h ∧ h ≤ s.size) (.v (.string (s.extract l.toNat h.toNat))) else .bad
  | .p k b o, some l, some h => bif ti.sort == 2 then .is (0 ≤ l ∧ l ≤ h ∧ h ≤ ti.len) (.gp k b (bif l.toNat == ti.len then o else o + l.toNat * ti.esz) (h.toNat - l.toNat) (ti.len - l.toNat)) else .bad
  | _, _, _ => .bad
def endS : SV → Int
  | .gp _ _ _ n _ => n
  | .g _ _ n _ => n
  | .v (.string s) => s.size
  | _ => 0
def endT (ti : TI) : SV → Int
  | .p _ _ _ => ti.len
  | x => endS x
def sliceO (ti : TI) (H : Nat → Ch) (nx : Nat) : Bool → Bool → List SV → Res
  | false, false, [x] => sliceR ti H nx x (some 0) (some (endT ti x))
  | true, false, [x, l] => sliceR ti H nx x (boundS 0 (some l)) (some (endT ti x))
  | false, true, [x, h] => sliceR ti H nx x (some 0) (boundS 0 (some h))
  | true, true, [x, l, h] => sliceR ti H nx x (boundS 0 (some l)) (boundS 0 (some h))
  | _, _, _ => .bad
def srcC (b o m : Nat) : Ch → Prop × List SV
  | .blk b' cs _ => (b = b' ∧ o + m ≤ lenS cs, cut cs o m)
  | .cst b' o' cs => (b = b' ∧ o' ≤ o ∧ (o - o') + m ≤ lenS cs, cut cs (o - o') m)
  | _ => (False, [])
def srcG (A : Option Addr) (m z : Nat) : Ch → Prop × List SV
  | .ints A' _ k xs => (A = A' ∧ m = xs.length ∧ z = 1, xs.map fun x => .v (.int k x))
  | .own A' _ k xs => (A = A' ∧ m = xs.length ∧ z = 1, xs.map fun x => .v (.int k x))
  | .strs A' _ xs => (A = A' ∧ m = xs.length ∧ z = 1, xs.map fun x => .v (.string x))
  | .raw A' _ z' xs => (A = A' ∧ m = xs.length ∧ z = z' ∧ ∀ l ∈ xs, l.length = z, xs.flatten.map .v)
  | .rowV A' _ _ z' n cs => (A = A' ∧ m = n ∧ z = z', cs)
  | .rawV A' _ z' n cs => (A = A' ∧ m = n ∧ z = z' ∧ lenS cs = n * z, cs)
  | .recs A' _ z' n f => (A = A' ∧ m = n ∧ z = z', (List.range n).flatMap f)
  | _ => (False, [])
def appD (ti : TI) (H : Nat → Ch) (nx : Nat) (m : Nat) (p : Prop) (cs : List SV) : SV → Res
  | .v (.slice none 0 0) => .val (p ∧ m ≤ 9223372036854775807 ∧ m * ti.bytes ≤ 140737488355328 ∧ lenS cs = m * ti.esz ∧ allOne cs = true) fun A c => (.g nx A m c, [(nx, .rowV A c ti.elem ti.esz m cs)])
  | .gp k b 0 n c => (match H k with
    | .blk b' ds t => .app (p ∧ n + m ≤ 9223372036854775807 ∧ (n + m) * ti.bytes ≤ 140737488355328 ∧ lenS cs = m * ti.esz ∧ allOne cs = true ∧ b = b' ∧ n = c ∧ t = ti.elem ∧ lenS ds = n * ti.esz) k fun A c => (.g nx A (n + m) c, [(k, .no), (nx, .rowV A c ti.elem ti.esz (n + m) (ds ++ cs))])
    | _ => .bad)
  | .g k A n c => (match H k with
    | .rowV A' c' e z n' ds => .app (p ∧ n + m ≤ 9223372036854775807 ∧ (n + m) * ti.bytes ≤ 140737488355328 ∧ lenS cs = m * ti.esz ∧ allOne cs = true ∧ A = A' ∧ c = c' ∧ e = ti.elem ∧ z = ti.esz ∧ n = n') k fun A c => (.g nx A (n + m) c, [(k, .no), (nx, .rowV A c ti.elem ti.esz (n + m) (ds ++ cs))])
    | _ => .bad)
  | _ => .bad
def capS : SV → Option (Nat × Nat)
  | .gp _ _ _ n c | .g _ _ n c => some (n, c)
  | .v (.slice none 0 0) => some (0, 0)
  | _ => none
def appN (x : SV) : Option (Nat × Nat) → Res
  | some (n, c) => .is (n ≤ c) x
  | none => .bad
def appR (ti : TI) (H : Nat → Ch) (nx : Nat) : List SV → Res
  | [x, .v (.slice none 0 0)] => appN x (capS x)
  | [x, .gp k b o m _] => appD ti H nx m (srcC b o (m * ti.esz) (H k)).1 (srcC b o (m * ti.esz) (H k)).2 x
  | [x, .g k A m _] => appD ti H nx m (srcG A m ti.esz (H k)).1 (srcG A m ti.esz (H k)).2 x
  | _ => .bad
def convI (n : Int) : Option IntKind → Res
  | some k => .is (inr k n) (.v (.int k n))
  | none => .bad
def numsU : List SV → Option (List Int)
  | [] => some []
  | .v (.int .u8 x) :: l => (numsU l).map (x :: ·)
  | _ => none
def strO : Option (List Int) → Res
  | some xs => .is True (.v (.string (strOfNums xs)))
  | none => .bad
def convG (A : Option Addr) (n : Nat) : Ch → Res
  | .ints A' _ .u8 xs => .is (A = A' ∧ n = xs.length) (.v (.string (strOfNums xs)))
  | .rowV A' _ _ 1 m cs => addVc' (A = A' ∧ n = m ∧ lenS cs = n) (strO (numsU cs))
  | _ => .bad
where addVc' (p : Prop) : Res → Res
  | .is vc x => .is (p ∧ vc) x
  | _ => .bad
def convP (b o n : Nat) : Ch → Res
  | .blk b' cs _ => convG.addVc' (b = b' ∧ o + n ≤ lenS cs) (strO (numsU (cut cs o n)))
  | _ => .bad
def bytesI (s : ByteArray) : List Int := s.data.toList.map fun b => (b.toNat : Int)
def convR (si se ti te : TI) (H : Nat → Ch) (nx : Nat) : SV → Res
  | .v (.int _ n) => bif ti.sort == 3 then .is True (.v (.string (Utf8.encode n))) else convI n (kOf ti.sort)
  | .v (.string s) => bif ti.sort == 3 then .is True (.v (.string s)) else (bif si.sort == 3 && ti.sort == 1 && te.ok && te.sort == 14 then .val True fun A c => (.g nx A s.size c, [(nx, .ints A c .u8 (bytesI s))]) else .bad)
  | .g k A n _ => bif ti.sort == 3 && si.sort == 1 && se.ok && se.sort == 14 then convG A n (H k) else .bad
  | .gp k b o n _ => bif ti.sort == 3 && si.sort == 1 && se.ok && se.sort == 14 then convP b o n (H k) else .bad
  | .v (.slice none 0 0) => bif ti.sort == 3 && si.sort == 1 && se.ok && se.sort == 14 then .is True (.v (.string ByteArray.empty)) else .bad
  | _ => .bad
def itL (s : ByteArray) : Nat → Nat → List (Nat × Int)
  | 0, _ => []
  | f + 1, pos => if pos < s.size then (pos, ((Utf8.decode s pos).1 : Int)) :: itL s f (pos + (Utf8.decode s pos).2) else []
def rngS (nx : Nat) (s : ByteArray) (l : List (Nat × Int)) : Res := .new (itOk s 0 l) fun b => (.p nx b 0, [(nx, .iter b s l)])
def rngR (nx : Nat) : SV → Res
  | .v (.string s) => rngS nx s (itL s s.size 0)
  | _ => .bad
def nextL (k b o b' : Nat) (s : ByteArray) : List (Nat × Int) → Res
  | [] => .is (b = b' ∧ o = 0) (.tup [.v (.bool false)])
  | (p, c) :: l => .app (b = b' ∧ o = 0 ∧ p ≤ 9223372036854775807) k fun _ _ => (.tup [.v (.bool true), .v (.int .i64 p), .v (.int .i32 c)], [(k, .iter b' s l)])
def nextB (k b o : Nat) : Ch → Res
  | .iter b' s l => nextL k b o b' s l
  | _ => .bad
def nextR (H : Nat → Ch) : SV → Res
  | .p k b o => nextB k b o (H k)
  | _ => .bad
def maxR : List SV → Res
  | [.v (.int k a), .v (.int k' b)] => bif sameK k k' then .is True (.v (.int k (if b > a then b else a))) else .bad
  | _ => .bad
def minR : List SV → Res
  | [.v (.int k a), .v (.int k' b)] => bif sameK k k' then .is True (.v (.int k (if b < a then b else a))) else .bad
  | _ => .bad
def copyB (k b o r : Nat) (p : Prop) (cs : List SV) : Ch → Res
  | .blk b' ds t => bif allOne cs then .app (p ∧ b = b' ∧ o + r ≤ lenS ds) k fun _ _ => (.v (.int .i64 r), [(k, .blk b' (putAt ds o cs) t)]) else .bad
  | _ => .bad
def copyS (k b o a p r : Nat) (c : Ch) : Ch → Res
  | .blk a' es _ => copyB k b o r (a = a' ∧ p + r ≤ lenS es) (cut es p r) c
  | _ => .bad
def minN (m n : Nat) : Nat := bif decide (m ≤ n) then m else n
def copyR (H : Nat → Ch) : List SV → Res
  | [.gp k b o n _, .gp j a p m _] => copyS k b o a p (minN m n) (H k) (H j)
  | _ => .bad
def bltR (T : TypeId → TI) (H : Nat → Ch) (nx : Nat) (b : Builtin) (ts : List TypeId) (xs : List SV) : Res :=
  match b with
  | .len => (match ts with
    | [t] => bif (T t).ok then (bif (T t).sort == 1 then lenR xs else (bif (T t).sort == 3 then lenT xs else .bad)) else .bad
    | _ => .bad)
  | .append => (match ts with
    | [t, t'] => bif t == t' && (T t).ok && (T t).sort == 1 && (T (T t).elem).ok && (T (T t).elem).size == (T t).esz && lenS (T (T t).elem).zero == (T t).esz then appR (T t) H nx xs else .bad
    | _ => .bad)
  | .max => maxR xs
  | .min => minR xs
  | .copy => (match ts with
    | [t, _] => bif (T t).ok && (T t).sort == 1 && (T t).esz == 1 then copyR H xs else .bad
    | _ => .bad)
  | _ => .bad
def isLit (ti : TI) (f : Res) : Res := bif ti.ok then f else .bad
def cutL : Nat → List SV → List SV
  | 0, _ => []
  | _ + 1, [] => []
  | n + 1, x :: l => x :: cutL n l
def dropL : Nat → List SV → List SV
  | 0, l => l
  | _ + 1, [] => []
  | n + 1, _ :: l => dropL n l
def ksOf : List SV → Option (List MV)
  | [] => some []
  | .v (.int k _) :: l => (ksOf l).map (MV.int k :: ·)
  | .v (.bool _) :: l => (ksOf l).map (MV.bool :: ·)
  | _ => none
def mvS : MV → Int → SV
  | .int k, x => .v (.int k x)
  | .bool, x => .v (.bool (x != 0))
def mcS : List MV → List Int → List SV
  | [], _ => []
  | k :: ks, xs => mvS k (xs.headD 0) :: mcS ks xs.tail
def mvalS (agg : Bool) (ks : List MV) (xs : List Int) : SV := bif agg then .agg (mcS ks xs) else nth (mcS ks xs) 0
def isMap (T : TypeId → TI) (t : TypeId) : Bool := (T t).ok && (T t).sort == 9 && (T (T t).len).ok && (T (T t).len).sort == 3 && (T (T t).elem).ok
def mkM (nx : Nat) (agg : Bool) : Option (List MV) → Res
  | some ks => .new True fun b => (.m nx b, [(nx, .mp b .string agg ks [])])
  | none => .bad
def lokV (agg : Bool) (ks : List MV) (ok : Bool) (r : Option (List Int)) : SV := bif ok then .tup [mvalS agg ks (r.getD []), .v (.bool r.isSome)] else mvalS agg ks (r.getD [])
def lokB (agg : Bool) (zero : List SV) (b : Nat) (s : ByteArray) (ok : Bool) : Ch → Res
  | .mp b' d agg' ks es => .is (b = b' ∧ d = .string ∧ agg' = agg ∧ ks ≠ [] ∧ ksOf zero = some ks ∧ mcells ks [] = dens zero) (lokV agg ks ok (fnd es (.s s)))
  | .rmp b' d agg' ks es => .is (b = b' ∧ d = .string ∧ agg' = agg ∧ ks ≠ [] ∧ ksOf zero = some ks ∧ mcells ks [] = dens zero) (lokV agg ks ok (fnd es (.s s)))
  | _ => .bad
def lokR (H : Nat → Ch) (agg : Bool) (zero : List SV) (ok : Bool) : SV → SV → Res
  | .m k b, .v (.string s) => lokB agg zero b s ok (H k)
  | _, _ => .bad
def valI : List MV → List SV → Option (List Int)
  | [], [] => some []
  | .int k :: ks, .v (.int k' x) :: l => bif sameK k k' then (valI ks l).map (x :: ·) else none
  | .bool :: ks, .v (.bool p) :: l => (valI ks l).map ((bif p then 1 else 0) :: ·)
  | _, _ => none
def cellsA : Bool → SV → Option (List SV)
  | true, .agg l => some l
  | false, .v x => some [.v x]
  | _, _ => none
def valA (ks : List MV) : Option (List SV) → Option (List Int)
  | some l => valI ks l
  | none => none
def updC (k b : Nat) (agg : Bool) (s : ByteArray) (b' : Nat) (d : TypeDesc) (agg' : Bool) (ks : List MV) (es : List (MK × List Int)) : Option (List Int) → Res
  | some xs => .put (b = b' ∧ d = .string ∧ agg' = agg ∧ ks ≠ []) k (.mp b' d agg' ks (put es (.s s) xs))
  | none => .bad
def updB (agg : Bool) (k b : Nat) (s : ByteArray) (y : SV) : Ch → Res
  | .mp b' d agg' ks es => updC k b agg s b' d agg' ks es (valA ks (cellsA agg y))
  | _ => .bad
def updR (H : Nat → Ch) (agg : Bool) : SV → SV → SV → Res
  | .m k b, .v (.string s), y => updB agg k b s y (H k)
  | _, _, _ => .bad
def core3 (xs : List SV) (f : SV → SV → SV → Res) : Res :=
  match xs with
  | [x, y, z] => f x y z
  | _ => .bad
def addP (p : Prop) : Res → Res
  | .new vc f => .new (p ∧ vc) f
  | r => r
def core (T : TypeId → TI) (G : Gam) (H : Nat → Ch) (nx : Nat) (op : Op) (xs : List SV) : Res :=
  match op with
  | .move _ | .assign _ => core1 xs (.is True)
  | .load t _ => isLit (T t) (core1 xs (loadR (T t) H))
  | .store t _ _ => isLit (T t) (core2 xs (storeR (T t) H))
  | .alloc t => isLit (T t) (.new True fun b => (.p nx b 0, [(nx, .blk b (T t).zero t)]))
  | .box t _ => core1 xs fun x => bif nonE (cells x) then .new True fun b => (.p nx b 0, [(nx, .blk b (cells x) t)]) else .bad
  | .build t ps => bif ((T t).ok && (T t).sort == 4) then buildR (fillS (offAt (T t).offs) (T t).zero (ps.toList.map (·.1)) xs) else (bif ((T t).ok && (T t).sort == 2) then buildR (fillS (plS (T t).esz) (T t).zero (ps.toList.map (·.1)) xs) else .bad)
  | .nilCheck _ => core1 xs nilR
  | .binOp op t _ _ _ => core2 xs (bin (T t) op)
  | .unOp op _ _ => core1 xs (un1 op)
  | .fieldAddr t _ f => bif ((T t).ok && (T t).sort == 4) then core1 xs (fun x => fldR (T t) x (offAt (T t).offs f)) else .bad
  | .indexAddr t _ _ => isLit (T t) (core2 xs (idxR (T t) H))
  | .index t _ _ => bif ((T t).ok && (T t).sort == 3) then core2 xs strI else (bif ((T t).ok && (T t).sort == 2 && (T (T t).elem).ok) then core2 xs (arrI (T t) (T (T t).elem)) else .bad)
  | .extract _ i => core1 xs (extR i)
  | .buildSlice t n ps => bif ((T t).ok && (T t).sort == 1 && (T (T t).elem).ok && (T (T t).elem).size == (T t).esz) then
      addP (n * (T t).esz ≤ 16777216 ∧ lenS (T (T t).elem).zero = (T t).esz) (bsR nx n (T t).elem (fillL (T t).esz (T (T t).elem).zero n 0 (ps.toList.map (·.1)) xs)) else .bad
  | .makeFunc f a c => .is True (.fn f (cutL a.size xs) (dropL a.size xs))
  | .makeSlice t _ _ => bif ((T t).ok && (T t).sort == 1 && (T (T t).elem).ok && (T (T t).elem).size == (T t).esz) then core2 xs (mkS nx (T t) (T (T t).elem)) else .bad
  | .makeMap t none => bif isMap T t then mkM nx (T (T t).elem).agg (ksOf (T (T t).elem).zero) else .new True fun b => (.v (.map (some b)), [])
  | .mapUpdate t _ _ _ => bif isMap T t then core3 xs (updR H (T (T t).elem).agg) else .bad
  | .lookup t _ _ ok => bif isMap T t then core2 xs (lokR H (T (T t).elem).agg (T (T t).elem).zero ok) else .bad
  | .slice t _ lo hi none => isLit (T t) (sliceO (T t) H nx lo.isSome hi.isSome xs)
  | .convert s t _ => bif (T s).ok && (T t).ok then core1 xs (convR (T s) (T (T s).elem) (T t) (T (T t).elem) H nx) else .bad
  | .range t _ => bif (T t).ok && (T t).sort == 3 then core1 xs (rngR nx) else .bad
  | .next _ true => core1 xs (nextR H)
  | .call c => (match c.callee with
    | .value _ => goR G H nx xs
    | .builtin b => bltR T H nx b c.argTypes.toList xs
    | _ => .bad)
  | _ => .bad
def opds : Op → List Operand
  | .nilCheck x | .move x | .assign x | .load _ x | .box _ x | .unOp _ _ x | .fieldAddr _ x _ | .extract x _ => [x]
  | .store _ x y | .binOp _ _ x y _ | .indexAddr _ x y | .index _ x y | .lookup _ x y _ => [x, y]
  | .build _ ps => ps.toList.map (·.2)
  | .buildSlice _ _ ps => ps.toList.map (·.2)
  | .convert _ _ x | .range _ x | .next x true => [x]
  | .makeFunc _ a c => a.toList ++ c.toList
  | .makeSlice _ x y => [x, y]
  | .mapUpdate _ x y z => [x, y, z]
  | .slice _ x lo hi none => x :: (lo.toList ++ hi.toList)
  | .call c => (match c.callee with
    | .value f => f :: c.args.toList
    | _ => c.args.toList)
  | _ => []

section runs
variable {P : Program} {O : Nat → Prop} {w w' w0 : World} {hp : Hp}
def Runs (P : Program) (w : World) (m : Sem Value) (r : Res) : Prop :=
  match r with
  | .bad => True
  | .is vc x => vc → m.run P w = .ok (den x) w
  | _ => False
def Ex (P : Program) (w0 : World) (hp : Hp) (w : World) (m : Sem Value) (r : Res) : Prop :=
  r.vc → ∃ u w', m.run P w = .ok (den (r.out u).1) w' ∧ Stp w0 hp w r.wr (r.out u).2 w'
theorem Runs.ex {m : Sem Value} {r : Res} (h : Runs P w m r) : Ex P w0 hp w m r := by
  intro hv
  cases r with
  | bad => exact hv.elim
  | is vc x => exact ⟨⟨0, none, 0, none, 0, mz⟩, w, h hv, .still (Below.refl _ _)⟩
  | _ => exact h.elim
theorem run_eq_bool {t : TypeId} (hu : P.underlying t = some .bool) (a b : Bool) : (Op.equal t (.bool a) (.bool b)).run P w = .ok (a == b) w := by
  show (Op.equalIn (9999 + 1) t _ _).run P w = _
  rw [Op.equalIn]
  simp [Sem.run_bind, run_underlying hu, Sem.run_pure]
def eqF : Value → Value → Bool
  | .nilFunc, .nilFunc => true
  | _, _ => false
theorem run_eq_func {t : TypeId} {a b c} (hu : P.underlying t = some (.func a b c)) : (Op.equal t .nilFunc .nilFunc).run P w = .ok true w ∧ ∀ f x y, (Op.equal t (.func f x y) .nilFunc).run P w = .ok false w := by
  refine ⟨?_, fun f x y => ?_⟩
  · show (Op.equalIn (9999 + 1) t _ _).run P w = _
    rw [Op.equalIn]
    simp [Sem.run_bind, run_underlying hu, Sem.run_pure]
  · show (Op.equalIn (9999 + 1) t _ _).run P w = _
    rw [Op.equalIn]
    simp [Sem.run_bind, run_underlying hu, Sem.run_pure]
theorem fn_runs {ti : TI} {op : BinOp} {t : TypeId} {b : Bool} {m : BinOp → Sem Value} (ht : ti.ok = true → TyOk P t ti)
    (h1 : ∀ u : TypeDesc, (∃ a b c, u = .func a b c ∧ P.underlying t = some (.func a b c)) → (m .eql).run P w = .ok (.bool b) w)
    (h2 : ∀ u : TypeDesc, (∃ a b c, u = .func a b c ∧ P.underlying t = some (.func a b c)) → (m .neq).run P w = .ok (.bool (!b)) w) : Runs P w (m op) (fnR ti op b) := by
  unfold fnR
  cases hk : (ti.ok && ti.sort == 6)
  · trivial
  · simp only [Bool.and_eq_true, beq_iff_eq] at hk
    obtain ⟨a, b, c, hu⟩ := (ht hk.1).func hk.2
    cases op <;> simp only [cond_true, Runs] <;> (try trivial) <;> intro _
    · exact h1 _ ⟨a, b, c, rfl, hu⟩
    · exact h2 _ ⟨a, b, c, rfl, hu⟩
theorem run_eq_slice {t e : TypeId} (hu : P.underlying t = some (.slice e)) : (∀ n c, (Op.equal t (.slice none n c) (.slice none 0 0)).run P w = .ok true w) ∧ ∀ a n c, (Op.equal t (.slice (some a) n c) (.slice none 0 0)).run P w = .ok false w := by
  refine ⟨fun n c => ?_, fun a n c => ?_⟩
  · show (Op.equalIn (9999 + 1) t _ _).run P w = _
    rw [Op.equalIn]
    simp [Sem.run_bind, run_underlying hu, Sem.run_pure]
  · show (Op.equalIn (9999 + 1) t _ _).run P w = _
    rw [Op.equalIn]
    simp [Sem.run_bind, run_underlying hu, Sem.run_pure]
theorem sl_runs {ti : TI} {op : BinOp} {t : TypeId} {b : Bool} {m : BinOp → Sem Value} (ht : ti.ok = true → TyOk P t ti)
    (h1 : ∀ e, P.underlying t = some (.slice e) → (m .eql).run P w = .ok (.bool b) w)
    (h2 : ∀ e, P.underlying t = some (.slice e) → (m .neq).run P w = .ok (.bool (!b)) w) : Runs P w (m op) (slR ti op b) := by
  unfold slR
  cases hk : (ti.ok && ti.sort == 1)
  · trivial
  · simp only [Bool.and_eq_true, beq_iff_eq] at hk
    have hu := (ht hk.1).slice hk.2
    cases op <;> simp only [cond_true, Runs] <;> (try trivial) <;> intro _
    · exact h1 _ hu
    · exact h2 _ hu
theorem eqSV_ok : ∀ {zs xs ys : List SV} {q : Bool}, eqSV zs xs ys = some q → okKs (zks zs) (dens xs) = true ∧ okKs (zks zs) (dens ys) = true ∧ q = beqVs (dens xs) (dens ys) := by
  intro zs
  induction zs with
  | nil =>
    intro xs ys q h
    cases xs <;> cases ys <;> simp [eqSV] at h
    subst h
    exact ⟨rfl, rfl, rfl⟩
  | cons z zs ih =>
    intro xs ys q h
    cases xs with
    | nil => cases ys <;> simp [eqSV] at h
    | cons x xs =>
      cases ys with
      | nil => simp [eqSV] at h
      | cons y ys =>
        simp only [eqSV] at h
        cases h1 : eq1 z x y with
        | none => rw [h1] at h; cases h
        | some p =>
          cases h2 : eqSV zs xs ys with
          | none => rw [h1, h2] at h; cases h
          | some r =>
            rw [h1, h2] at h
            obtain ⟨a1, a2, a3⟩ := ih h2
            have key : bk (zk z) (den x) = true ∧ bk (zk z) (den y) = true ∧ p = beqV (den x) (den y) := by
              unfold eq1 at h1
              split at h1
              · next k k0 k1 a k2 b =>
                cases hk : (sameK k k1 && sameK k k2)
                · rw [hk] at h1; cases h1
                · rw [hk] at h1
                  cases h1
                  simp only [Bool.and_eq_true] at hk
                  have e1 := sameK_eq hk.1; have e2 := sameK_eq hk.2
                  subst e1; subst e2
                  simp [zk, bk, den, beqV]
              · cases h1; simp [zk, bk, den, beqV]
              · cases h1; simp [zk, bk, den, beqV]
              · cases h1
            simp only [eqO, Option.some.injEq] at h
            refine ⟨by simp [zks, dens, okKs, key.1, a1], by simp [zks, dens, okKs, key.2.1, a2], ?_⟩
            rw [← h]
            simp only [dens, beqVs, ← key.2.2, ← a3]
            cases p <;> rfl
theorem st_runs {ti : TI} {op : BinOp} {t : TypeId} {xs ys : List SV} {p q : Operand} (ht : TyOk P t ti) (hc : cmpT ti = true) :
    Runs P w (do eqGuard op t p q (.agg (dens xs).toArray) (.agg (dens ys).toArray); binOp op t (.agg (dens xs).toArray) (.agg (dens ys).toArray)) (stEq op (eqSV ti.zero xs ys)) := by
  have hcmp := ht.cmp hc
  simp only [cmpB, Bool.and_eq_true, decide_eq_true_eq, Bool.not_eq_true'] at hcmp
  obtain ⟨⟨hf, hg⟩, hst⟩ := hcmp
  cases he : eqSV ti.zero xs ys with
  | none => trivial
  | some b =>
    obtain ⟨h1, h2, rfl⟩ := eqSV_ok he
    have hw : ∀ l, wrapV P t l = .agg l.toArray := fun l => by
      unfold wrapV
      split at hst
      · next e => rfl
      · next e => rfl
      · cases hst
    have hr := eq_flat 8 t _ hf _ _ h1 h2 10000 (by decide) w
    rw [hw, hw] at hr
    cases op <;> simp only [stEq, Runs] <;> (try trivial) <;> intro _
    · simp only [Sem.run_bind, run_eqGuard_agg w .eql t p q _ _ hg, Result.andThen_ok, run_eql_struct, hr, den]
    · simp only [Sem.run_bind, run_eqGuard_agg w .neq t p q _ _ hg, Result.andThen_ok, run_neq_struct, hr, den]
set_option maxHeartbeats 1000000 in
theorem bin_runs {ti : TI} {op : BinOp} {t : TypeId} {x y : SV} {p q : Operand} (ht : ti.ok = true → TyOk P t ti) : Runs P w (do eqGuard op t p q (den x) (den y); binOp op t (den x) (den y)) (bin ti op x y) := by
  unfold bin
  split
  · next k a k' b =>
    cases hsh : isSh op with
    | true =>
      cases hw : wrp ti k
      · cases op <;> first | (cases hsh; done) | skip
        · rintro ⟨h0, h1⟩
          simp [den, binOp, shift_shl_any _ _ _ _ h0, inr_wrap h1, Sem.run_pure, Sem.run_bind, eqGuard]
        · intro h0
          simp [den, binOp, shift_shr_any _ _ _ _ h0, Sem.run_pure, Sem.run_bind, eqGuard]
      · cases op <;> first | (cases hsh; done) | skip
        · intro h0
          simp [den, binOp, shift_shl_any _ _ _ _ h0, Sem.run_pure, Sem.run_bind, eqGuard]
        · intro h0
          simp [den, binOp, shift_shr_any _ _ _ _ h0, Sem.run_pure, Sem.run_bind, eqGuard]
    | false =>
    simp only [cond_false]
    cases hk : sameK k k'
    · trivial
    · have := sameK_eq hk; subst this
      cases op <;> first | (cases hsh; done) | skip
      case sub =>
        simp only [cond_true]
        cases hw : wrp ti k <;> simp only [cond_true, cond_false, Runs] <;> intro hv
        · simp [den, binOp, Op.intArith, Sem.run_pure, inr_wrap hv, go_sem]
        · simp [den, binOp, Op.intArith, Sem.run_pure, go_sem]
      all_goals simp only [cond_true, Runs] <;> (try trivial) <;> intro hv
      · simp [den, binOp, Op.intArith, Sem.run_pure, inr_wrap hv, go_sem]
      · simp [den, binOp, Op.intArith, Sem.run_pure, inr_wrap hv, go_sem]
      · simp [den, binOp, Op.intDiv, hv.1, Sem.run_pure, inr_wrap hv.2, go_sem]
      · simp [den, binOp, Op.intDiv, hv, Sem.run_pure, go_sem]
      all_goals simp [den, binOp, Op.intCmp, Sem.run_pure, go_sem]
  · next a b =>
    cases hk : (ti.ok && ti.sort == 5)
    · trivial
    · simp only [Bool.and_eq_true, beq_iff_eq] at hk
      have hu := (ht hk.1).bool hk.2
      cases op <;> simp only [cond_true, Runs] <;> (try trivial) <;> intro hv <;> simp [den, binOp, run_eq_bool hu, Sem.run_bind, Sem.run_pure, eqGuard_at_bool]
  · cases op <;> simp only [Runs] <;> (try trivial) <;> intro hv
    · simp [den, run_string_add_sum _ _ _ hv, go_sem]
    all_goals simp [den, go_sem]
  · refine fn_runs (m := fun op => do eqGuard op t p q _ _; binOp op t _ _) ht ?_ ?_ <;> rintro _ ⟨_, _, _, _, hu⟩ <;> simp [den, (run_eq_func hu).1, (run_eq_func hu).2, binOp, Sem.run_bind, Sem.run_pure, eqGuard]
  · refine fn_runs (m := fun op => do eqGuard op t p q _ _; binOp op t _ _) ht ?_ ?_ <;> rintro _ ⟨_, _, _, _, hu⟩ <;> simp [den, (run_eq_func hu).1, (run_eq_func hu).2, binOp, Sem.run_bind, Sem.run_pure, eqGuard]
  · refine fn_runs (m := fun op => do eqGuard op t p q _ _; binOp op t _ _) ht ?_ ?_ <;> rintro _ ⟨_, _, _, _, hu⟩ <;> simp [den, (run_eq_func hu).1, (run_eq_func hu).2, binOp, Sem.run_bind, Sem.run_pure, eqGuard]
  · refine sl_runs (m := fun op => do eqGuard op t p q _ _; binOp op t _ _) ht ?_ ?_ <;> intro _ hu <;> simp [den, (run_eq_slice hu).1, (run_eq_slice hu).2, binOp, Sem.run_bind, Sem.run_pure, eqGuard]
  · refine sl_runs (m := fun op => do eqGuard op t p q _ _; binOp op t _ _) ht ?_ ?_ <;> intro _ hu <;> simp [den, (run_eq_slice hu).1, (run_eq_slice hu).2, binOp, Sem.run_bind, Sem.run_pure, eqGuard]
  · refine sl_runs (m := fun op => do eqGuard op t p q _ _; binOp op t _ _) ht ?_ ?_ <;> intro _ hu <;> simp [den, (run_eq_slice hu).1, (run_eq_slice hu).2, binOp, Sem.run_bind, Sem.run_pure, eqGuard]
  · refine sl_runs (m := fun op => do eqGuard op t p q _ _; binOp op t _ _) ht ?_ ?_ <;> intro _ hu <;> simp [den, (run_eq_slice hu).1, (run_eq_slice hu).2, binOp, Sem.run_bind, Sem.run_pure, eqGuard]
  · next xs ys =>
    cases hk : (ti.ok && cmpT ti)
    · trivial
    · simp only [Bool.and_eq_true] at hk
      exact st_runs (ht hk.1) hk.2
  · trivial
theorem un_runs {op : UnOp} {x : SV} : Runs P w (Op.unary op (den x)) (un1 op x) := by
  unfold un1
  split
  · intro _; simp [den, Op.unary, Sem.run_pure]
  · intro hv
    simp only [den, Op.unary, Op.intArith, inr_wrap hv, Sem.run_pure]
  · trivial

theorem run_loadAt_of {t : TypeId} {ti : TI} (h : TyOk P t ti) {a : Addr} {f : Nat → Value} (hc : ∀ j, j < ti.size → w.cell? (a.add j) = some (f j)) :
    (Instr.loadAt t (.pointer (some a))).run P w = .ok (bif ti.agg then .agg ((List.range ti.size).map f).toArray else f 0) w := by
  simp only [Instr.loadAt, Instr.sureAddr, Sem.run_bind, Sem.run_pure, Result.andThen_ok, loadVar, h.runAgg]
  cases hg : ti.agg
  · have h1 := h.one hg
    have h0 := hc 0 (by omega)
    have : a.add 0 = a := by simp [Addr.add]
    rw [this] at h0
    simp [run_load_cell h0]
  · simp [h.runSize, Sem.run_bind, Sem.run_pure, run_loadCells w a ti.size f hc]
theorem nth_den (l : List SV) (n : Nat) : den (nth l n) = (dens l).getD n undef := by
  induction l generalizing n with
  | nil => simp [nth, dens, den]
  | cons x l ih => cases n <;> simp [nth, dens, ih]
theorem cut_range (l : List Value) : ∀ (n o : Nat), o + n ≤ l.length → (List.range n).map (fun j => l.getD (o + j) undef) = cut l o n := by
  intro n o h
  rw [cut_eq]
  apply List.ext_getElem?
  intro i
  by_cases hi : i < n
  · simp [hi, List.getElem?_take, List.getElem?_drop]
    rw [List.getElem?_eq_getElem (by omega)]; simp
  · simp [hi, List.getElem?_take]
theorem dens_append' (l m : List SV) : dens (l ++ m) = dens l ++ dens m := by simp [dens_eq]
theorem den_bif (g : Bool) (x y : SV) : den (bif g then x else y) = bif g then den x else den y := by cases g <;> rfl
theorem elemCells_den (c : Ch) (i o n : Nat) : dens (elemCells c i o n) = (List.range n).map fun j => fc c i (o + j) := by
  induction n generalizing o with
  | zero => rfl
  | succ n ih =>
    simp only [elemCells, dens, den, ih, List.range_succ_eq_map, List.map_cons, List.map_map, Nat.add_zero]
    congr 1
    apply List.map_congr_left
    intro j _
    show fc c i (o + 1 + j) = fc c i (o + (j + 1))
    congr 1; omega
theorem row_sl {B : Nat} {e : TypeId} {z n c : Nat} {A : Option Addr} {fl : List Value} (h : w.ownsRow B e z (.slice A n c) n fl) : SlOk w A c z n fun i j => fl.getD (i * z + j) undef := by
  obtain ⟨hl, h⟩ := h
  rcases h with ⟨h1, h2⟩ | ⟨g, cap, cur, hv, hg, hh, hnc, hcap, hsz, ht⟩
  · cases h1; exact ⟨Nat.le_refl _, fun h => absurd rfl h⟩
  · cases hv
    refine ⟨hnc, fun _ => ⟨g, 0, rfl, lt_of_cells hh, fun i hi j hj => ?_⟩⟩
    have hm : i * z + j < n * z := by
      have : (i + 1) * z ≤ n * z := Nat.mul_le_mul_right z hi
      have : (i + 1) * z = i * z + z := Nat.succ_mul i z
      omega
    rw [cell_blk hh, Nat.zero_add, ← ht]
    have hc : i * z + j < cur.size := by
      rw [hsz]; exact Nat.lt_of_lt_of_le hm (Nat.mul_le_mul_right z hnc)
    simp [List.getD, List.getElem?_take, hm, hc]
theorem SlOk.congr {A : Option Addr} {c z n : Nat} {f f' : Nat → Nat → Value} (h : SlOk w A c z n f) (e : ∀ i, i < n → ∀ j, j < z → f i j = f' i j) : SlOk w A c z n f' := by
  refine ⟨h.1, fun hn => ?_⟩
  obtain ⟨b, o, hA, hb, hf⟩ := h.2 hn
  exact ⟨b, o, hA, hb, fun i hi j hj => by rw [← e i hi j hj]; exact hf i hi j hj⟩
theorem rd_sl {B : Nat} {c : Ch} {A : Option Addr} {cap z n : Nat} (h : Hold B w c) (hr : rd c = some (A, cap, z, n)) : SlOk w A cap z n (fc c) := by
  cases c with
  | no => cases hr
  | blk => cases hr
  | ints A' c' k xs => cases hr; exact h
  | strs A' c' xs => cases hr; exact h
  | raw A' c' z' xs => cases hr; exact h
  | rowI A' c' e k xs =>
    cases hr
    refine (row_sl h).congr fun i hi j hj => ?_
    have : j = 0 := by omega
    subst this
    simp [fc, List.getD, hi]
  | rowS A' c' e xs =>
    cases hr
    refine (row_sl h).congr fun i hi j hj => ?_
    have : j = 0 := by omega
    subst this
    simp [fc, List.getD, hi]
  | rowV A' c' e z' n' cs => cases hr; exact row_sl h
  | rawV A' c' z' n' cs => cases hr; exact h
  | cst => cases hr
  | iter => cases hr
  | own A' c' k xs => cases hr; exact h.1
  | recs A' c' z' n' f => cases hr; exact h.1
  | mp => cases hr
  | rmp => cases hr
  | pin => cases hr
  | deep => cases hr
theorem rd_cells {B : Nat} {c : Ch} {A : Option Addr} {cap z n : Nat} (h : Hold B w c) (hr : rd c = some (A, cap, z, n)) {i o : Nat} (hi : i < n) (ho : o < z) :
    ∃ b d, A = some ⟨b, d, none⟩ ∧ w.cell? ⟨b, d + (i * z + o), none⟩ = some (fc c i o) := by
  obtain ⟨b, d, rfl, _, hf⟩ := (rd_sl h hr).2 (by omega)
  exact ⟨b, d, rfl, hf i hi o ho⟩
theorem loadB_runs {ti : TI} {t : TypeId} {b o : Nat} {c : Ch} {B : Nat} (ht : TyOk P t ti) (hh : Hold B w c) : Runs P w (Instr.loadAt t (.pointer (some ⟨b, o, none⟩))) (loadB ti b o c) := by
  unfold loadB
  cases c with
  | blk b' cs t' =>
    rintro ⟨rfl, hl⟩
    rw [lenS_eq] at hl
    have hlen : (dens cs).length = cs.length := dens_len cs
    rw [run_loadAt_of ht (f := fun j => (dens cs).getD (o + j) undef) (fun j hj => by
      rw [addr_add, cell_blk hh.2]
      have : o + j < (dens cs).length := by omega
      simp [List.getD, this])]
    simp only [den_bif, den, nth_den, dens_cut, cut_range (dens cs) ti.size o (by omega), Nat.add_zero]
  | cst b' o' cs =>
    rintro ⟨rfl, hle, hl⟩
    rw [lenS_eq] at hl
    have hlen : (dens cs).length = cs.length := dens_len cs
    rw [run_loadAt_of ht (f := fun j => (dens cs).getD (o - o' + j) undef) (fun j hj => by
      rw [addr_add]
      have : o - o' + j < (dens cs).length := by omega
      have := hh.2 (o - o' + j) _ (by simp [List.getD, this] : (dens cs)[o - o' + j]? = some ((dens cs).getD (o - o' + j) undef))
      rwa [show o' + (o - o' + j) = o + j by omega] at this)]
    simp only [den_bif, den, nth_den, dens_cut, cut_range (dens cs) ti.size (o - o') (by omega), Nat.add_zero]
  | _ => trivial
theorem loadE_runs {ti : TI} {t : TypeId} {A : Option Addr} {z o : Nat} {i : Int} {c : Ch} {B : Nat} (ht : TyOk P t ti) (hh : Hold B w c) : Runs P w (Instr.loadAt t (elemAddr A (i.toNat * z + o))) (loadE ti c A z i o (rd c)) := by
  cases hr : rd c with
  | none => trivial
  | some q =>
    obtain ⟨A', cap, z', n⟩ := q
    have key : ∀ v, (bif ti.agg then Value.agg ((List.range ti.size).map fun j => fc c i.toNat (o + j)).toArray else fc c i.toNat (o + 0)) = v →
        (A = A' ∧ z = z' ∧ 0 ≤ i ∧ i.toNat < n ∧ o + ti.size ≤ z) → (Instr.loadAt t (elemAddr A (i.toNat * z + o))).run P w = .ok v w := by
      rintro v rfl ⟨rfl, rfl, h0, hi, ho⟩
      have hp := ht.pos
      obtain ⟨b, d, rfl, _⟩ := rd_cells hh hr hi (o := o) (by omega)
      simp only [elemAddr, addr_add]
      exact run_loadAt_of ht (f := fun j => fc c i.toNat (o + j)) (fun j hj => by
        obtain ⟨b', d', e, hc⟩ := rd_cells hh hr hi (o := o + j) (by omega)
        cases e
        rw [addr_add, ← hc]; congr 2; omega)
    simp only [loadE]
    cases hrf : recF c with
    | some g =>
      cases c with
      | recs A1 c1 z1 n1 f =>
        cases hr
        cases hrf
        intro h
        refine key _ ?_ h
        obtain ⟨rfl, rfl, h0, hi, ho⟩ := h
        have hlen : (dens (g i.toNat)).length = z := by rw [dens_len]; exact hh.2 _ hi
        have hf : ∀ j, fc (.recs A cap z n g) i.toNat (o + j) = (dens (g i.toNat)).getD (o + j) undef := fun j => rfl
        simp only [den_bif, den, nth_den, dens_cut, hf]
        rw [cut_range (dens (g i.toNat)) ti.size o (by omega), Nat.add_zero]
      | _ => cases hrf
    | none =>
    simp only [loadW]
    cases hv : vcells c with
    | none =>
      intro h
      exact key _ (by simp only [den_bif, den, elemCells_den, Nat.add_zero]) h
    | some cs =>
      rintro ⟨h, hl⟩
      rw [lenS_eq] at hl
      refine key _ ?_ h
      have hz := h.2.1
      have hf : ∀ j, fc c i.toNat (o + j) = (dens cs).getD (i.toNat * z + o + j) undef := by
        intro j
        cases c <;> simp only [vcells] at hv <;> (try cases hv)
        all_goals
          cases hr
          subst hz
          simp only [fc, Nat.add_assoc]
      simp only [den_bif, den, nth_den, dens_cut, hf]
      rw [cut_range (dens cs) ti.size (i.toNat * z + o) (by rw [dens_len]; omega), Nat.add_zero]
theorem loadR_runs {ti : TI} {t : TypeId} {hp : Hp} (ht : TyOk P t ti) (H : HH w0 O hp w) (x : SV) : Runs P w (Instr.loadAt t (den x)) (loadR ti (lookH hp) x) := by
  unfold loadR
  cases x with
  | p k b o => exact loadB_runs ht (H.hold k)
  | e k A z i o => exact loadE_runs ht (H.hold k)
  | _ => trivial
theorem Stp.put {k : Nat} {c : Ch} (hm : mutb (lookH hp k) = true) (os : w'.os = w.os) (tape : w'.tape = w.tape) (output : w'.output = w.output) (size : w'.heap.size = w.heap.size)
    (same : ∀ b, ¬ foot (lookH hp k) b → w'.heap[b]? = w.heap[b]?) (hold : Hold w0.heap.size w' c) (hf : ∀ b, foot c b → foot (lookH hp k) b) : Stp w0 hp w (some k) [(k, c)] w' := by
  have hk : ∀ j, has [(k, c)] j = true → j = k := by
    intro j h
    simp only [has] at h
    cases e : (k == j)
    · rw [e] at h; cases h
    · exact (eq_of_beq e).symm
  have hl : lookH [(k, c)] k = c := by simp [lookH]
  have hu : has [(k, c)] k = true := by simp [has]
  refine ⟨os, tape, output, Nat.le_of_eq size.symm, fun b _ hb => same b (hb k rfl), fun j hj => ?_, fun j hj => ?_, fun j hj b hb => ?_, fun i j hne hi hj => ?_⟩
  · cases hj; exact ⟨hm, hu⟩
  · rw [hk j hj, hl]; exact hold
  · rw [hk j hj, hl] at hb
    exact .inr ⟨k, hf b hb, .inl ⟨hm, hu⟩⟩
  · exact absurd ((hk i hi).trans (hk j hj).symm) hne
theorem wput_os {b : Nat} {x : Obj} : (wput w b x).os = w.os := rfl
theorem wput_size {b : Nat} {x : Obj} : (wput w b x).heap.size = w.heap.size := by simp [wput]
theorem storeR_runs {ti : TI} {t : TypeId} {hp : Hp} (ht : TyOk P t ti) (H : HH w0 O hp w) (x y : SV) (hv : (storeR ti (lookH hp) x y).vc) :
    ∃ w', (Instr.storeAt t (den x) (den y)).run P w = .ok () w' ∧ Stp w0 hp w (storeR ti (lookH hp) x y).wr ((storeR ti (lookH hp) x y).out ⟨0, none, 0, none, 0, mz⟩).2 w' ∧ ((storeR ti (lookH hp) x y).out ⟨0, none, 0, none, 0, mz⟩).1 = .un := by
  unfold storeR at hv ⊢
  cases x with
  | p k b o =>
    simp only at hv ⊢
    have hk := H.hold k
    generalize hc : lookH hp k = c at hv hk ⊢
    cases c with
    | blk b' cs t' =>
      simp only [storeB] at hv ⊢
      cases ha : allOne (cells y) with
      | false => rw [ha] at hv; exact hv.elim
      | true =>
        rw [ha] at hv
        simp only [cond_true, Res.vc, Res.wr, Res.out] at hv ⊢
        obtain ⟨rfl, hl, ho⟩ := hv
        rw [lenS_eq] at hl ho
        have hne : cells y ≠ [] := by
          intro e; rw [e] at hl; have := ht.pos; simp at hl; omega
        have hcy := cells_den hne
        have hs : (den y).cells.size = ti.size := by
          rw [← Array.length_toList, hcy, dens_len]; exact hl
        refine ⟨wput w b (.cells (putAt (dens cs) o (dens (cells y))).toArray t' (0, 0)), ?_, ?_, trivial⟩
        · have := run_storeCells (P := P) (o := o) (dens (cells y)) 0 w (dens cs).toArray hk.2 (by simp [dens_len]; omega) (allOne_den ha)
          simp only [Instr.storeAt, den, Instr.sureAddr, Sem.run_bind, Sem.run_pure, Result.andThen_ok, storeVar, ht.runSize, hs, ne_eq, not_true, if_false, hcy, this, Nat.add_zero]
        · have hb := lt_of_cells hk.2
          refine Stp.put (by rw [hc]; rfl) rfl rfl rfl wput_size (fun i hi => wput_ne fun e => hi (by rw [hc, e]; rfl)) ⟨hk.1, ?_⟩ (fun i hi => by rw [hc]; exact hi)
          rw [wput_get hb, dens_putAt]
    | _ => exact hv.elim
  | _ => exact hv.elim
theorem alloc_get (w : World) (x : Obj) : (w.alloc x).heap[w.heap.size]? = some x := by
  show (w.heap.push x)[w.heap.size]? = _
  simp
theorem new_ex {t : TypeId} {cs : List SV} {arr : Array Value} (H : HH w0 O hp w) {nx : Nat} (ha : arr.toList = dens cs) :
    Stp w0 hp w none [(nx, .blk w.heap.size cs t)] (w.alloc (.cells arr t (0, 0))) := by
  refine Stp.one (Below.alloc (Below.refl _ _) (Nat.le_refl _) _) ⟨H.below.size, ?_⟩ (fun b hb => .inl (Nat.le_of_eq (Eq.symm hb)))
  rw [alloc_get, ← ha]
theorem alloc_ex {ti : TI} {t : TypeId} (ht : TyOk P t ti) (H : HH w0 O hp w) {nx : Nat} :
    Ex P w0 hp w (Instr.alloc t true (.tuple #[])) (.new True fun b => (.p nx b 0, [(nx, .blk b ti.zero t)])) := by
  intro _
  obtain ⟨z, hz, e⟩ := ht.runZero
  refine ⟨⟨w.heap.size, none, 0, none, 0, mz⟩, w.alloc (.cells z.cells t (0, 0)), ?_, new_ex H e⟩
  simp [Instr.alloc, Sem.run_bind, hz, newVar, newRow, Sem.run_pure, den, Res.out]
theorem nonE_ne {l : List SV} (h : nonE l = true) : l ≠ [] := by cases l <;> simp_all [nonE]
theorem box_ex {t : TypeId} {x : SV} (H : HH w0 O hp w) {nx : Nat} :
    Ex P w0 hp w (Instr.box t (den x)) (bif nonE (cells x) then .new True fun b => (.p nx b 0, [(nx, .blk b (cells x) t)]) else .bad) := by
  cases hn : nonE (cells x) with
  | false => exact fun h => h.elim
  | true =>
    intro _
    refine ⟨⟨w.heap.size, none, 0, none, 0, mz⟩, w.alloc (.cells (den x).cells t (0, 0)), ?_, new_ex H (cells_den (nonE_ne hn))⟩
    simp [Instr.box, Sem.run_bind, newVar, newRow, Sem.run_pure, den, Res.out]
theorem add_add (a : Addr) (m n : Nat) : (a.add m).add n = a.add (m + n) := by
  unfold Addr.add
  by_cases hm : m = 0
  · subst hm; simp
  · by_cases hn : n = 0
    · subst hn; simp
    · have : m + n ≠ 0 := by omega
      simp [hm, hn, this, Nat.add_assoc]
theorem fld_runs {ti : TI} {t : TypeId} {f : Nat} {x : SV} (ht : TyOk P t ti) (hs : ti.sort = 4) : Runs P w (Instr.fieldAt t (den x) f) (fldR ti x (offAt ti.offs f)) := by
  cases hf : offAt ti.offs f with
  | none => cases x <;> trivial
  | some q =>
    obtain ⟨d, n⟩ := q
    cases x with
    | p k b o =>
      intro hn
      have := ht.runFld (w := w) hs hn hf ⟨b, o, none⟩
      rw [addr_add] at this
      exact this
    | e k A z i o =>
      rintro ⟨hn, hA⟩
      cases A with
      | none => exact absurd rfl hA
      | some a =>
        have := ht.runFld (w := w) hs hn hf (a.add (i.toNat * z + o))
        simp only [den, elemAddr] at this ⊢
        rw [this]
        rw [add_add, Nat.add_assoc]
    | _ => trivial
theorem ext_runs {i : Nat} {x : SV} : Runs P w (Instr.extract (den x) i) (extR i x) := by
  cases x with
  | tup l =>
    intro hl
    rw [lenS_eq] at hl
    simp [Instr.extract, den, den_nth l i hl, Sem.run_pure]
  | _ => trivial
theorem idx_runs {ti : TI} {t : TypeId} {x y : SV} (ht : TyOk P t ti) (H : HH w0 O hp w) : Runs P w (Instr.indexAt t (den x) (den y)) (idxR ti (lookH hp) x y) := by
  unfold idxR
  split
  · next k A n c q i =>
    cases hs : (ti.sort == 1) with
    | false => trivial
    | true =>
      have hs := eq_of_beq hs
      cases hr : rd (lookH hp k) with
      | none => trivial
      | some r =>
        obtain ⟨A', cap, z', n'⟩ := r
        rintro ⟨rfl, hz, rfl, h0, hi⟩
        have hp' := (rd_sl (H.hold k) hr).2 (by omega)
        obtain ⟨b, o, rfl, _⟩ := hp'
        obtain ⟨inf, hinf, hsz, _⟩ := ht.el (.inl hs)
        have hsize : ∀ w, (sizeOf ti.elem).run P w = .ok ti.esz w := fun w => by simp [sizeOf, typeInfo, program, Sem.run_bind, Sem.run, hinf, hsz, Result.andThen, Sem.run_pure]
        simp [Instr.indexAt, den, asIntOf, Sem.run_bind, Sem.run_pure, run_underlying (ht.slice hs), h0, hi, hsize, elemAddr, idxE]
  · next k b o n c q i =>
    cases hs : (ti.sort == 1) with
    | false => trivial
    | true =>
      have hs := eq_of_beq hs
      rintro ⟨h0, hi⟩
      obtain ⟨inf, hinf, hsz, _⟩ := ht.el (.inl hs)
      have hsize : ∀ w, (sizeOf ti.elem).run P w = .ok ti.esz w := fun w => by simp [sizeOf, typeInfo, program, Sem.run_bind, Sem.run, hinf, hsz, Result.andThen, Sem.run_pure]
      simp [Instr.indexAt, den, asIntOf, Sem.run_bind, Sem.run_pure, run_underlying (ht.slice hs), h0, hi, hsize, addr_add]
  · next k b o q i =>
    cases hs : (ti.sort == 2) with
    | false => trivial
    | true =>
      have hs := eq_of_beq hs
      rintro ⟨h0, hi⟩
      obtain ⟨inf, hinf, hsz, _⟩ := ht.el (.inr hs)
      have hsize : ∀ w, (sizeOf ti.elem).run P w = .ok ti.esz w := fun w => by simp [sizeOf, typeInfo, program, Sem.run_bind, Sem.run, hinf, hsz, Result.andThen, Sem.run_pure]
      simp [Instr.indexAt, Instr.sureAddr, den, asIntOf, Sem.run_bind, Sem.run_pure, run_underlying (ht.array hs), h0, hi, hsize, addr_add]
  · trivial
theorem str_runs {ti : TI} {t : TypeId} {x y : SV} (ht : TyOk P t ti) (hs : ti.sort = 3) : Runs P w (Instr.index t (den x) (den y)) (strI x y) := by
  unfold strI
  split
  · next s q i =>
    intro hi
    have h2 : i.toNat < s.size := by omega
    rw [den, den, run_index_string w t s q i (ht.str hs), dif_pos hi]
    simp only [den, chr]
    congr 3
    have : s.data.toList[i.toNat]? = some (s[i.toNat]'h2) := by
      have h3 : i.toNat < s.data.size := h2
      rw [Array.getElem?_toList, Array.getElem?_eq_getElem h3]; rfl
    simp [List.getD, this]
  · trivial
theorem len_runs {ti : TI} {t : TypeId} {xs : List SV} (ht : TyOk P t ti) (hs : ti.sort = 1) {ty : TypeId} : Runs P w (Builtin.len_ #[t] ty (dens xs).toArray) (lenR xs) := by
  unfold lenR
  split
  · intro _; simp [Builtin.len_, dens, den, run_underlying (ht.slice hs), Sem.run_bind, Sem.run_pure, goInt]
  · intro _; simp [Builtin.len_, dens, den, run_underlying (ht.slice hs), Sem.run_bind, Sem.run_pure, goInt]
  · intro _; simp [Builtin.len_, dens, den, run_underlying (ht.slice hs), Sem.run_bind, Sem.run_pure, goInt]
  · trivial
theorem lenT_runs {ti : TI} {t : TypeId} {xs : List SV} (ht : TyOk P t ti) (hs : ti.sort = 3) {ty : TypeId} : Runs P w (Builtin.len_ #[t] ty (dens xs).toArray) (lenT xs) := by
  unfold lenT
  split
  · intro _; simp [Builtin.len_, dens, den, run_underlying (ht.str hs), Sem.run_bind, Sem.run_pure, goInt]
  · trivial
theorem zip_put (l : List Value) (off : Nat) : ∀ (k : Nat) (arr : Array Value), ((l.zipIdx k).foldl (fun cs (c, j) => cs.setIfInBounds (off + j) c) arr).toList = putAt arr.toList (off + k) l := by
  induction l with
  | nil => intro k arr; cases h : arr.toList <;> simp [putAt, h]
  | cons v l ih =>
    intro k arr
    rw [List.zipIdx_cons, List.foldl_cons, ih, putAt_cons, Array.toList_setIfInBounds, Nat.add_assoc]
theorem zip_putA (c : Array Value) (off : Nat) (arr : Array Value) : (c.zipIdx.foldl (fun cs (c, j) => cs.setIfInBounds (off + j) c) arr).toList = putAt arr.toList off c.toList := by
  have := zip_put c.toList off 0 arr
  rw [← Array.foldl_toList, Array.toList_zipIdx]
  exact this
theorem fill_runs {pl : Nat → Option (Nat × Nat)} : ∀ (is : List Nat) (xs cs : List SV) (arr : Array Value), arr.toList = dens cs → (fillS pl cs is xs).1 →
    ∃ arr', Instr.fill pl arr (is.zip (dens xs)) = some arr' ∧ arr'.toList = dens (fillS pl cs is xs).2 := by
  intro is
  induction is with
  | nil =>
    intro xs cs arr ha h
    cases xs with
    | nil => exact ⟨arr, rfl, ha⟩
    | cons => exact h.elim
  | cons i is ih =>
    intro xs cs arr ha h
    cases xs with
    | nil => exact h.elim
    | cons x xs =>
      cases hp : pl i with
      | none => simp only [fillS, hp] at h
      | some q =>
        obtain ⟨d, n⟩ := q
        simp only [fillS, hp] at h ⊢
        obtain ⟨⟨hne, hl, hd⟩, h⟩ := h
        rw [lenS_eq] at hl hd
        have hc := cells_den hne
        have hs : (den x).cells.size = n := by rw [← Array.length_toList, hc, dens_len]; exact hl
        have hz : arr.size = cs.length := by rw [← Array.length_toList, ha, dens_len]
        have hcond : ¬((den x).cells.size ≠ n ∨ d + (den x).cells.size > arr.size) := by rw [hs, hz]; omega
        simp only [dens, List.zip_cons_cons, Instr.fill, hp]
        have hb : (decide ((den x).cells.size ≠ n) || decide (d + (den x).cells.size > arr.size)) = false := by
          rw [hs, hz]; simp; omega
        simp only [ne_eq] at hb hcond ⊢
        rw [if_neg (by simpa using hcond)]
        exact ih xs _ _ (by rw [zip_putA, ha, hc, dens_putAt]) h
theorem zip_map (l : List (Nat × Operand)) (f : Operand → Value) : (l.map (·.1)).zip (l.map fun p => f p.2) = l.map fun p => (p.1, f p.2) := by
  induction l with
  | nil => rfl
  | cons x l ih => simp [ih]
theorem offAt_eq {α : Type} (l : List α) (i : Nat) : l[i]? = offAt l i := by
  induction l generalizing i with
  | nil => rfl
  | cons x l ih => cases i <;> simp [offAt, ih]
theorem build_runs {ti : TI} {t : TypeId} {ps : Array (Nat × Operand)} {xs : List SV} {f : Operand → Value} (ht : TyOk P t ti) (hs : ti.sort = 4) (hx : (ps.toList.map (·.2)).map f = dens xs) :
    Runs P w (Instr.build t (ps.map fun p => (p.1, f p.2))) (buildR (fillS (offAt ti.offs) ti.zero (ps.toList.map (·.1)) xs)) := by
  generalize hr : fillS (offAt ti.offs) ti.zero (ps.toList.map (·.1)) xs = r
  obtain ⟨p, cs⟩ := r
  intro hv
  obtain ⟨i, z, hi, _, hz, hzc⟩ := ht.inf
  obtain ⟨fs, hu, hm⟩ := ht.fld hs
  obtain ⟨arr', hf, ha⟩ := fill_runs (pl := offAt ti.offs) (ps.toList.map (·.1)) xs ti.zero z.cells hzc (by rw [hr]; exact hv)
  rw [hr] at ha
  have := run_build (P := P) w t (ps.map fun p => (p.1, f p.2)) arr' (by
    simp only [Program.built, hi, hu, hz, hm]
    have e : (fun x => ti.offs.toArray[x]?) = offAt ti.offs := by funext x; simp [offAt_eq]
    rw [e, Array.toList_map, ← zip_map]
    rw [← hx, List.map_map] at hf
    exact hf)
  rw [this]
  simp only [den, ← ha]
theorem buildA_runs {ti : TI} {t : TypeId} {ps : Array (Nat × Operand)} {xs : List SV} {f : Operand → Value} (ht : TyOk P t ti) (hs : ti.sort = 2) (hx : (ps.toList.map (·.2)).map f = dens xs) :
    Runs P w (Instr.build t (ps.map fun p => (p.1, f p.2))) (buildR (fillS (plS ti.esz) ti.zero (ps.toList.map (·.1)) xs)) := by
  generalize hr : fillS (plS ti.esz) ti.zero (ps.toList.map (·.1)) xs = r
  obtain ⟨p, cs⟩ := r
  intro hv
  obtain ⟨i, z, hi, _, hz, hzc⟩ := ht.inf
  obtain ⟨ie, hie, hsz, _⟩ := ht.el (.inr hs)
  obtain ⟨arr', hf, ha⟩ := fill_runs (pl := plS ti.esz) (ps.toList.map (·.1)) xs ti.zero z.cells hzc (by rw [hr]; exact hv)
  rw [hr] at ha
  have := run_build (P := P) w t (ps.map fun p => (p.1, f p.2)) arr' (by
    simp only [Program.built, hi, ht.array hs, hz, hie, hsz]
    have e : (fun i => some (i * ti.esz, ti.esz)) = plS ti.esz := rfl
    rw [e, Array.toList_map, ← zip_map]
    rw [← hx, List.map_map] at hf
    exact hf)
  rw [this]
  simp only [den, ← ha]
theorem arr_runs {ti te : TI} {t : TypeId} {x y : SV} (ht : TyOk P t ti) (hs : ti.sort = 2) (he : TyOk P ti.elem te) : Runs P w (Instr.index t (den x) (den y)) (arrI ti te x y) := by
  unfold arrI
  split
  · next l q i =>
    rintro ⟨hag, hz, h0, h1, h2⟩
    obtain ⟨ie, hie, hsz, _⟩ := ht.el (.inr hs)
    have hsize : ∀ w, (sizeOf ti.elem).run P w = .ok ti.esz w := fun w => by simp [sizeOf, typeInfo, program, Sem.run_bind, Sem.run, hie, hsz, Result.andThen, Sem.run_pure]
    have hl : i.toNat < l.length := by rw [← lenS_eq]; exact h2
    have hn := den_nth l i.toNat hl
    have hagg := he.runAgg w
    rw [hag] at hagg
    have hn' : (dens l).toArray[i.toNat]? = some (den (nth l i.toNat)) := by simpa using hn
    simp only [den, Instr.index, asIntOf, Sem.run_bind, Sem.run_pure, Result.andThen_ok, run_underlying (ht.array hs), if_pos (And.intro h0 h1), hsize, hz, Nat.mul_one, part, hagg, Bool.false_eq_true, if_false, hn', Sem.run_pure]
  · trivial
theorem nil_run {o : Oper} {y : SV} {x : Operand} {f : Operand → Value} (ho : o.op = .nilCheck x) (hx : f x = den y) (hv : (nilR y).vc) : ∃ u, (execOp f o).run P w = .ok (.value (den ((nilR y).out u).1)) w ∧ ((nilR y).out u).2 = [] ∧ (nilR y).wr = none := by
  refine ⟨⟨0, none, 0, none, 0, mz⟩, ?_⟩
  unfold nilR at hv ⊢
  split at hv
  · exact ⟨by simp [execOp, ho, hx, den, Res.out, Sem.run_pure], rfl, rfl⟩
  · next k A z i o' =>
    cases A with
    | none => exact absurd rfl hv
    | some a => exact ⟨by simp [execOp, ho, hx, den, elemAddr, Res.out, Sem.run_pure], rfl, rfl⟩
  · exact ⟨by simp [execOp, ho, hx, den, Res.out, Sem.run_pure], rfl, rfl⟩
  · exact ⟨by simp [execOp, ho, hx, den, Res.out, Sem.run_pure], rfl, rfl⟩
  · exact hv.elim
theorem slok_part {A : Option Addr} {c z n l h : Nat} {f : Nat → Nat → Value} (hs : SlOk w A c z n f) (h1 : l ≤ h) (h2 : h ≤ n) : SlOk w (partA A l c z) (c - l) z (h - l) fun i j => f (l + i) j := by
  refine ⟨by have := hs.1; omega, fun hn => ?_⟩
  obtain ⟨b, o, rfl, hb, hf⟩ := hs.2 (by omega)
  have : (l == c) = false := by have := hs.1; simp; omega
  refine ⟨b, o + l * z, by simp [partA, this, addr_add], hb, fun i hi j hj => ?_⟩
  rw [← hf (l + i) (by omega) j hj]
  congr 2
  rw [Nat.add_mul]; omega
theorem part_foot {A : Option Addr} {l h c z n i : Nat} (hn : h - l ≠ 0) (h2 : h ≤ n) (hc : n ≤ c) (ha : ∃ a, partA A l c z = some a ∧ a.block = i) : ∃ a, A = some a ∧ a.block = i := by
  obtain ⟨a, e, rfl⟩ := ha
  have : (l == c) = false := by simp; omega
  simp only [partA, this, cond_false] at e
  cases A with
  | none => cases e
  | some q => cases e; exact ⟨q, rfl, by unfold Addr.add; split <;> rfl⟩
theorem bound_den {d : Int} {x : SV} {i : Int} (h : boundS d (some x) = some i) : ∃ q, den x = .int q i := by
  unfold boundS at h
  split at h
  · next e => cases e
  · next q i' e => cases e; cases h; exact ⟨q, rfl⟩
  · cases h
theorem run_bound {q : IntKind} {i : Int} {y : Nat} {code : BoundsCode} (h : 0 ≤ i ∧ i ≤ y) : (Instr.sliceBound (.int q i) y code).run P w = .ok i.toNat w := by
  simp only [Instr.sliceBound, asIntOf, Sem.run_bind, Sem.run_pure, Result.andThen_ok, if_pos h]
theorem run_bounds {n c : Nat} {lo hi : Option Value} {l h : Int} (hl : lo = none ∧ l = 0 ∨ ∃ q, lo = some (.int q l)) (hh : hi = none ∧ h = n ∨ ∃ q, hi = some (.int q h)) (b : Bool) (h0 : 0 ≤ l) (h1 : l ≤ h) (h2 : h ≤ c) :
    (Instr.sliceBounds b n c lo hi none).run P w = .ok (l.toNat, h.toNat, c) w := by
  rcases hh with ⟨rfl, rfl⟩ | ⟨q', rfl⟩
  · rcases hl with ⟨rfl, rfl⟩ | ⟨q, rfl⟩
    · rfl
    · simp only [Instr.sliceBounds, pure_bind, Sem.run_bind, run_bound (P := P) (w := w) (q := q) (i := l) (y := n) ⟨h0, h1⟩, Result.andThen_ok, Sem.run_pure, Int.toNat_natCast]
  · have e1 : l ≤ (h.toNat : Int) := by omega
    rcases hl with ⟨rfl, rfl⟩ | ⟨q, rfl⟩
    · simp [Instr.sliceBounds, pure_bind, Sem.run_bind, run_bound (P := P) (w := w) (q := q') (i := h) (y := c) ⟨by omega, h2⟩]
    · simp [Instr.sliceBounds, pure_bind, Sem.run_bind, run_bound (P := P) (w := w) (q := q') (i := h) (y := c) ⟨by omega, h2⟩, run_bound (P := P) (w := w) (q := q) (i := l) (y := h.toNat) ⟨h0, e1⟩]
theorem slice_ex {ti : TI} {t : TypeId} {nx : Nat} (ht : TyOk P t ti) (H : HH w0 O hp w) {x : SV} {lo hi : Option Value} {l h : Option Int} (hl : ∀ i, l = some i → (lo = none ∧ i = 0 ∨ ∃ q, lo = some (.int q i))) (hh : ∀ i, h = some i → (hi = none ∧ i = endT ti x ∨ ∃ q, hi = some (.int q i))) :
    Ex P w0 hp w (Instr.sliceAt t (den x) lo hi none) (sliceR ti (lookH hp) nx x l h) := by
  unfold sliceR
  split
  · next k A n c l h =>
    cases hs : (ti.sort == 1) with
    | false => exact fun h => h.elim
    | true =>
      have hs := eq_of_beq hs
      simp only [cond_true]
      obtain ⟨inf, hinf, hsz, _⟩ := ht.el (.inl hs)
      have hsize : ∀ w, (sizeOf ti.elem).run P w = .ok ti.esz w := fun w => by simp [sizeOf, typeInfo, program, Sem.run_bind, Sem.run, hinf, hsz, Result.andThen, Sem.run_pure]
      have main : 0 ≤ l → l ≤ h → h ≤ c → (Instr.sliceAt t (den (.g k A n c)) lo hi none).run P w = .ok (.slice (partA A l.toNat c ti.esz) (h.toNat - l.toNat) (c - l.toNat)) w := by
        intro h0 h1 h2
        have hb := run_bounds (P := P) (w := w) (n := n) (c := c) (hl l rfl) (hh h rfl) true h0 h1 h2
        simp only [Instr.sliceAt, Sem.run_bind, run_underlying (ht.slice hs), Result.andThen_ok, Instr.slice, den, hb, hsize, Sem.run_pure]
        congr 2
        cases hc : (l.toNat == c)
        · have : c ≠ l.toNat := by simp at hc; omega
          simp [partA, this, hc]
        · have : c = l.toNat := by simp at hc; omega
          simp [partA, this]
      have hk := H.hold k
      unfold partG
      split
      · next A' c' kk xs e =>
        rw [e] at hk
        rintro ⟨rfl, rfl, rfl, hz, h0, h1, h2⟩
        have hcn : xs.length ≤ c := hk.1
        have hlen : ((xs.drop l.toNat).take (h.toNat - l.toNat)).length = h.toNat - l.toNat := by simp; omega
        refine ⟨⟨0, none, 0, none, 0, mz⟩, w, by rw [main h0 h1 (by omega), hz]; rfl, Stp.one (c := .ints (partA A l.toNat c 1) (c - l.toNat) kk ((xs.drop l.toNat).take (h.toNat - l.toNat))) (Below.refl _ _) ?_ ?_⟩
        · have := slok_part (l := l.toNat) (h := h.toNat) hk (by omega) (by omega)
          show SlOk w _ _ _ _ _
          rw [hlen]
          refine this.congr fun i hi j hj => ?_
          simp [fI, List.getD, List.getElem?_take, hi, List.getElem?_drop]
        · rintro b ⟨hne, hb⟩
          have hne' : h.toNat - l.toNat ≠ 0 := fun e0 => hne (List.eq_nil_of_length_eq_zero (by rw [hlen]; exact e0))
          refine .inr ⟨rfl, k, ?_, by rw [e]; rfl⟩
          rw [e]
          exact ⟨fun e0 => by rw [e0] at h2; simp at h2; omega, part_foot hne' (by omega) hcn hb⟩
      · next A' c' xs e =>
        rw [e] at hk
        rintro ⟨rfl, rfl, rfl, hz, h0, h1, h2⟩
        have hcn : xs.length ≤ c := hk.1
        have hlen : ((xs.drop l.toNat).take (h.toNat - l.toNat)).length = h.toNat - l.toNat := by simp; omega
        refine ⟨⟨0, none, 0, none, 0, mz⟩, w, by rw [main h0 h1 (by omega), hz]; rfl, Stp.one (c := .strs (partA A l.toNat c 1) (c - l.toNat) ((xs.drop l.toNat).take (h.toNat - l.toNat))) (Below.refl _ _) ?_ ?_⟩
        · have := slok_part (l := l.toNat) (h := h.toNat) hk (by omega) (by omega)
          show SlOk w _ _ _ _ _
          rw [hlen]
          refine this.congr fun i hi j hj => ?_
          simp [fS, List.getD, List.getElem?_take, hi, List.getElem?_drop]
        · rintro b ⟨hne, hb⟩
          have hne' : h.toNat - l.toNat ≠ 0 := fun e0 => hne (List.eq_nil_of_length_eq_zero (by rw [hlen]; exact e0))
          refine .inr ⟨rfl, k, ?_, by rw [e]; rfl⟩
          rw [e]
          exact ⟨fun e0 => by rw [e0] at h2; simp at h2; omega, part_foot hne' (by omega) hcn hb⟩
      · next A' c' z m f e =>
        rw [e] at hk
        rintro ⟨rfl, rfl, rfl, rfl, h0, h1, h2⟩
        have hcn : n ≤ c := hk.1.1
        refine ⟨⟨0, none, 0, none, 0, mz⟩, w, by rw [main h0 h1 (by omega)]; rfl, Stp.one (c := .recs (partA A l.toNat c ti.esz) (c - l.toNat) ti.esz (h.toNat - l.toNat) fun i => f (l.toNat + i)) (Below.refl _ _) ?_ ?_⟩
        · exact ⟨slok_part (l := l.toNat) (h := h.toNat) hk.1 (by omega) (by omega), fun i hi => hk.2 _ (by omega)⟩
        · rintro b ⟨hne, hb⟩
          refine .inr ⟨rfl, k, ?_, by rw [e]; rfl⟩
          rw [e]
          exact ⟨by omega, part_foot hne (by omega) hcn hb⟩
      · exact fun h => h.elim
  · next k b o n c l h =>
    refine Runs.ex ?_
    cases hs : (ti.sort == 1) with
    | false => trivial
    | true =>
      have hs := eq_of_beq hs
      rintro ⟨h0, h1, h2⟩
      obtain ⟨inf, hinf, hsz, _⟩ := ht.el (.inl hs)
      have hsize : ∀ w, (sizeOf ti.elem).run P w = .ok ti.esz w := fun w => by simp [sizeOf, typeInfo, program, Sem.run_bind, Sem.run, hinf, hsz, Result.andThen, Sem.run_pure]
      have hb := run_bounds (P := P) (w := w) (n := n) (c := c) (hl l rfl) (hh h rfl) true h0 h1 h2
      simp only [Instr.sliceAt, Sem.run_bind, run_underlying (ht.slice hs), Result.andThen_ok, Instr.slice, den, hb, hsize, Sem.run_pure]
      congr 2
      cases hc : (l.toNat == c)
      · have : c ≠ l.toNat := by simp at hc; omega
        simp [this, addr_add]
      · have : c = l.toNat := by simp at hc; omega
        simp [this]
  · next s l h =>
    refine Runs.ex ?_
    cases hs : (ti.sort == 3) with
    | false => trivial
    | true =>
      have hs := eq_of_beq hs
      rintro ⟨h0, h1, h2⟩
      have hb := run_bounds (P := P) (w := w) (n := s.size) (c := s.size) (hl l rfl) (hh h rfl) false h0 h1 h2
      simp [Instr.sliceAt, Sem.run_bind, run_underlying (ht.str hs), Instr.slice, den, hb, Sem.run_pure]
  · next k b o l h =>
    refine Runs.ex ?_
    cases hs : (ti.sort == 2) with
    | false => trivial
    | true =>
      have hs := eq_of_beq hs
      rintro ⟨h0, h1, h2⟩
      obtain ⟨inf, hinf, hsz, _⟩ := ht.el (.inr hs)
      have hsize : ∀ w, (sizeOf ti.elem).run P w = .ok ti.esz w := fun w => by simp [sizeOf, typeInfo, program, Sem.run_bind, Sem.run, hinf, hsz, Result.andThen, Sem.run_pure]
      have hb := run_bounds (P := P) (w := w) (n := ti.len) (c := ti.len) (hl l rfl) (hh h rfl) false h0 h1 h2
      simp only [Instr.sliceAt, Sem.run_bind, run_underlying (ht.array hs), Result.andThen_ok, Instr.sureAddr, den, hb, hsize, Sem.run_pure]
      congr 2
      cases hc : (l.toNat == ti.len)
      · have : ti.len ≠ l.toNat := by simp at hc; omega
        simp [this, addr_add]
      · have : ti.len = l.toNat := by simp at hc; omega
        simp [this]
  · exact fun h => h.elim
theorem minN_eq (m n : Nat) : minN m n = Nat.min m n := by
  unfold minN
  by_cases h : m ≤ n
  · rw [decide_eq_true h, cond_true]; exact (Nat.min_eq_left h).symm
  · rw [decide_eq_false h, cond_false]; exact (Nat.min_eq_right (by omega)).symm
theorem copy_ex {ti : TI} {t t' ty : TypeId} {xs : List SV} (ht : TyOk P t ti) (hs : ti.sort = 1) (he : ti.esz = 1) (H : HH w0 O hp w) :
    Ex P w0 hp w (Builtin.copy_ #[t, t'] ty (dens xs).toArray) (copyR (lookH hp) xs) := by
  unfold copyR
  split
  · next k b o n c j a p m d =>
    have hk := H.hold k
    have hj := H.hold j
    unfold copyS
    split
    · next a' es t1 e1 =>
      rw [e1] at hj
      unfold copyB
      split
      · next b' ds t2 e2 =>
        rw [e2] at hk
        cases ha : allOne (cut es p (minN m n)) with
        | false => exact fun h => h.elim
        | true =>
          rintro ⟨⟨rfl, h1⟩, rfl, h2⟩
          rw [lenS_eq] at h1 h2
          obtain ⟨inf, hinf, hsz, _⟩ := ht.el (.inl hs)
          have hsz : inf.size = 1 := hsz.trans he
          have hcl : (dens (cut es p (minN m n))).length = minN m n := by rw [dens_len, cut_eq]; simp; omega
          have hl : (loadCells ⟨a, p, none⟩ (minN m n)).run P w = .ok (dens (cut es p (minN m n))).toArray w := by
            have := run_loadCells (P := P) w ⟨a, p, none⟩ (minN m n) (fun i => (dens es).getD (p + i) undef) fun i hi => by
              rw [addr_add, cell_blk hj.2]
              have : p + i < (dens es).length := by rw [dens_len]; omega
              simp [List.getD_eq_getElem?_getD, this]
            rw [cut_range (dens es) (minN m n) p (by rw [dens_len]; omega), ← dens_cut] at this
            exact this
          have hst := run_storeCells (P := P) (o := o) (dens (cut es p (minN m n))) 0 w (dens ds).toArray hk.2 (by simp [dens_len, hcl] at hcl ⊢; omega) (allOne_den ha)
          refine ⟨⟨0, none, 0, none, 0, mz⟩, wput w b (.cells (putAt (dens ds) o (dens (cut es p (minN m n)))).toArray t2 (0, 0)), ?_, ?_⟩
          · have hm : Nat.min m n = minN m n := (minN_eq m n).symm
            have hu := ht.slice hs
            simp [dens, den, Builtin.copy_, run_underlying hu, Builtin.lenOf, Builtin.firstCells, sizeOf, typeInfo, hinf, hsz, hm, hl, hst, goInt, Res.out]
          · have hb := lt_of_cells hk.2
            refine Stp.put (by rw [e2]; rfl) rfl rfl rfl wput_size (fun i hi => wput_ne fun e => hi (by rw [e2, e]; rfl)) ⟨hk.1, ?_⟩ (fun i hi => by rw [e2]; exact hi)
            rw [wput_get hb, dens_putAt]
      · exact fun h => h.elim
    · exact fun h => h.elim
  · exact fun h => h.elim
theorem rep_dens (n : Nat) (z : List SV) : dens (rep n z) = (List.range (n * z.length)).map (fun i => (dens z).getD (i % z.length) undef) := by
  induction n with
  | zero => simp [rep, dens]
  | succ n ih =>
    simp only [rep, dens_append', ih, Nat.succ_mul]
    rw [Nat.add_comm (n * z.length) z.length, List.range_add, List.map_append, List.map_map]
    congr 1
    · apply List.ext_getElem?
      intro i
      by_cases hi : i < z.length
      · simp [hi, dens_len, Nat.mod_eq_of_lt hi, List.getD]
      · simp [hi, dens_len]
    · apply List.map_congr_left
      intro j _
      simp [Nat.add_mod_left]
theorem zeros_list (n : Nat) (zero : Array Value) (z : List SV) (h : zero.toList = dens z) (hz : z ≠ []) : ((Array.range (n * z.length)).map (zero[· % zero.size]!)).toList = dens (rep n z) := by
  rw [rep_dens, Array.toList_map, Array.toList_range]
  apply List.map_congr_left
  intro i _
  have hs : zero.size = z.length := by rw [← Array.length_toList, h, dens_len]
  have hp : 0 < z.length := List.length_pos_iff.2 hz
  have hm : i % z.length < zero.size := by rw [hs]; exact Nat.mod_lt _ hp
  rw [hs, getElem!_pos zero (i % z.length) hm, ← h]
  simp [List.getD, hm]
theorem bs_ex {T : TypeId → TI} {t : TypeId} {n nx : Nat} {ps : Array (Nat × Operand)} {xs : List SV} {f : Operand → Value} (hT : TyAll P T) (H : HH w0 O hp w) (ht : (T t).ok = true) (hs : (T t).sort = 1) (he : (T (T t).elem).ok = true) (hz : (T (T t).elem).size = (T t).esz)
    (hx : (ps.toList.map (·.2)).map f = dens xs) :
    Ex P w0 hp w (Instr.buildSlice t n (ps.map fun p => (p.1, f p.2))) (addP (n * (T t).esz ≤ 16777216 ∧ lenS (T (T t).elem).zero = (T t).esz) (bsR nx n (T t).elem (fillL (T t).esz (T (T t).elem).zero n 0 (ps.toList.map (·.1)) xs))) := by
  generalize hr0 : fillL (T t).esz (T (T t).elem).zero n 0 (ps.toList.map (·.1)) xs = r
  obtain ⟨p, cs⟩ := r
  rintro ⟨⟨hlim, hzl⟩, hv⟩
  rw [lenS_eq] at hzl
  have hS := fillL_S hzl n 0 (ps.toList.map (·.1)) xs [] (by simp) (by rw [hr0]; exact hv)
  rw [hr0, List.nil_append, List.nil_append] at hS
  have hTt := hT t ht
  have hTe := hT _ he
  obtain ⟨i, z, hi, hisz, hiz, hzc⟩ := hTe.inf
  have hpos := hTe.pos
  have hsize : ∀ w, (sizeOf (T t).elem).run P w = .ok (T t).esz w := fun w => by rw [hTe.runSize, hz]
  obtain ⟨arr', hf, ha⟩ := fill_runs (pl := plS (T t).esz) (ps.toList.map (·.1)) xs (rep n (T (T t).elem).zero) ((Array.range (n * (T t).esz)).map (z.cells[· % z.cells.size]!)) (by
    rw [← hzl]; exact zeros_list n z.cells _ hzc (by intro e; rw [e] at hzl; simp at hzl; omega)) hS.1
  rw [hS.2] at ha
  rw [← hx, List.map_map] at hf
  have hf' : Instr.fill (fun i => some (i * (T t).esz, (T t).esz)) ((Array.range (n * (T t).esz)).map (z.cells[· % z.cells.size]!)) (ps.map fun p => (p.1, f p.2)).toList = some arr' := by
    rw [Array.toList_map, ← zip_map]; exact hf
  have hzero : ∀ w, (zeroValue (T t).elem).run P w = .ok z w := fun w => by simp [zeroValue, typeInfo, program, Sem.run_bind, Sem.run, hi, hiz, Result.andThen, Sem.run_pure]
  refine ⟨⟨w.heap.size, none, 0, none, 0, mz⟩, w.alloc (.cells arr' (T t).elem (0, 0)), ?_, new_ex H ha⟩
  have hlim' : ¬ (n * (T t).esz > 2 ^ 24) := by omega
  simp only [Instr.buildSlice, Sem.run_bind, run_underlying (hTt.slice hs), Result.andThen_ok, hsize, if_neg hlim']
  by_cases hn0 : n * (T t).esz = 0
  · simp only [hn0, if_true, pure_bind]
    rw [hn0] at hf'
    have e0 : (Array.range 0).map (z.cells[· % z.cells.size]!) = (Array.range 0).map ((#[] : Array Value)[· % (#[] : Array Value).size]!) := by simp
    rw [e0] at hf'
    rw [hf']
    simp [newRow, Sem.run_bind, Sem.run_pure, den, Res.out, bsR, addP]
  · simp only [if_neg hn0, Sem.run_bind, hzero, Result.andThen_ok, Sem.run_pure]
    rw [hf']
    simp [newRow, Sem.run_bind, Sem.run_pure, den, Res.out, bsR, addP]
theorem mk_ex {T : TypeId → TI} {t : TypeId} {nx : Nat} {x y : SV} (hT : TyAll P T) (H : HH w0 O hp w) (ht : (T t).ok = true) (hs : (T t).sort = 1) (he : (T (T t).elem).ok = true) (hz : (T (T t).elem).size = (T t).esz) :
    Ex P w0 hp w (Instr.makeSlice t (den x) (den y)) (mkS nx (T t) (T (T t).elem) x y) := by
  unfold mkS
  split
  · next k n k' m =>
    rintro ⟨h0, rfl, h63, hby, hzl⟩
    rw [lenS_eq] at hzl
    have hTt := hT t ht
    have hTe := hT _ he
    obtain ⟨i, z, hi, hisz, hiz, hzc⟩ := hTe.inf
    obtain ⟨i', hi', hs', hb'⟩ := hTt.el (.inl hs)
    rw [hi] at hi'; cases hi'
    have hpos := hTe.pos
    have hr := run_make (P := P) w t (T t).elem i z (hTt.slice hs) hi hiz k k' n n h0 (Int.le_refl _) (by rw [hb']; exact hby) h63
    refine ⟨⟨w.heap.size, none, 0, none, 0, mz⟩, _, hr, new_ex H ?_⟩
    have := zeros_list n.toNat z.cells _ hzc (by intro e; rw [e] at hzl; simp at hzl; omega)
    rw [hzl, ← hs'] at this
    exact this
  · exact fun h => h.elim
theorem run_append_own2 (base : Nat) (t ty e : TypeId) (i : TypeInfo) (z : Value) (ht : P.underlying t = some (.slice e)) (hi : P.info? e = some i) (hz : i.zero = some z)
    (hzs : z.cells.size = i.size) (hsz : 0 < i.size) (v : Value) (n : Nat) (xs : List Value) (hown : w.ownsRow base e i.size v n xs)
    (a : Addr) (m c : Nat) (news : List Value) (hl : news.length = m * i.size) (hnews : ∀ j u, news[j]? = some u → w.cell? (a.add j) = some u) (h1 : ∀ u ∈ news, u.oneCell' = true)
    (h63 : n + m ≤ maxLen) (hbytes : (n + m) * i.bytes ≤ 140737488355328) (hbase : base ≤ w.heap.size) :
    ∃ v' w', (Builtin.append_ #[t, t] ty #[v, .slice (some a) m c]).run P w = .ok v' w' ∧ w'.ownsRow base e i.size v' (n + m) (xs ++ news) ∧ w.grownBy w' v.ownBlock ∧
      ∀ k, v'.ownBlock = some k → v.ownBlock = some k ∨ w.heap.size ≤ k := by
  obtain ⟨v', w', hr, ho, hg, _⟩ := run_append_own w base t ty e i z i.size i.bytes ht hi hz rfl rfl hzs hsz v n xs hown a m c news hl hnews h1 h63 hbytes hbase
  refine ⟨v', w', hr, ho, hg, fun k hk => ?_⟩
  have hsmall : n + m ≤ 9223372036854775807 := by simp only [maxLen] at h63; omega
  rcases hown.2 with ⟨rfl, rfl⟩ | ⟨g, cap, cur, rfl, hbg, hgc, hnc, hcm, hcs, htake⟩
  · have hx : xs = [] := List.eq_nil_of_length_eq_zero (by simpa using hown.1)
    subst hx
    obtain ⟨v2, w2, hr2, ho2, _, _⟩ := run_append_own w w.heap.size t ty e i z i.size i.bytes ht hi hz rfl rfl hzs hsz (.slice none 0 0) 0 [] (World.ownsRow_nil _ _ _ _) a m c news hl hnews h1 h63 hbytes (Nat.le_refl _)
    rw [hr] at hr2
    cases hr2
    exact .inr (World.ownsRow.lt ho2 k hk).1
  · by_cases hroom : n + m ≤ cap
    · have hfit : n * i.size + news.length ≤ cur.size := by rw [hl, hcs, ← Nat.add_mul]; exact Nat.mul_le_mul_right _ hroom
      have hr2 := run_append_room (P := P) w t ty e i ht hi g n cap cur hgc a m c news hl hnews h1 hroom hfit
      rw [hr] at hr2
      cases hr2
      exact .inl hk
    · have holds : ∀ j u, xs[j]? = some u → w.cell? ((⟨g, 0, none⟩ : Addr).add j) = some u := hown.cells (g := g) rfl
      have hr2 := run_append_grow (P := P) w t ty e i z ht hi hz ⟨g, 0, none⟩ n cap xs hown.1 holds a m c news hl hnews (by omega) (by omega) (growslice_fits (by omega) hbytes)
      rw [hr] at hr2
      cases hr2
      cases hk
      exact .inr (Nat.le_refl _)
theorem own_form {e : TypeId} {z n B : Nat} {v : Value} {xs : List Value} (h : w.ownsRow B e z v n xs) : ∃ A c, v = .slice A n c := by
  rcases h.2 with ⟨rfl, rfl⟩ | ⟨g, cap, cur, rfl, _⟩
  · exact ⟨none, 0, rfl⟩
  · exact ⟨_, cap, rfl⟩
theorem own_weak {e : TypeId} {z n B B' : Nat} {v : Value} {xs : List Value} (h : w.ownsRow B e z v n xs) (hb : B' ≤ B) : w.ownsRow B' e z v n xs := by
  refine ⟨h.1, h.2.imp id ?_⟩
  rintro ⟨g, cap, cur, e, hg, r⟩
  exact ⟨g, cap, cur, e, Nat.le_trans hb hg, r⟩
theorem one_cell {v : Value} (h : isOne v = true) : v.oneCell' = true := by
  cases v <;> first | rfl | cases h
theorem app_stp {k nx : Nat} {v : Value} {A : Option Addr} {c n z : Nat} {e : TypeId} {cs : List SV} (hm : mutb (lookH hp k) = true) (hf : ∀ i, v.ownBlock = some i ↔ foot (lookH hp k) i) (hg : w.grownBy w' v.ownBlock)
    (ho : w'.ownsRow w0.heap.size e z (.slice A n c) n (dens cs)) (hn : ∀ i, (Value.slice A n c).ownBlock = some i → v.ownBlock = some i ∨ w.heap.size ≤ i) :
    Stp w0 hp w (some k) [(k, .no), (nx, .rowV A c e z n cs)] w' := by
  have cases2 : ∀ j, has [(k, Ch.no), (nx, .rowV A c e z n cs)] j = true → lookH [(k, Ch.no), (nx, .rowV A c e z n cs)] j = .no ∨ (j = nx ∧ lookH [(k, Ch.no), (nx, .rowV A c e z n cs)] j = .rowV A c e z n cs) := by
    intro j h
    simp only [has, lookH] at h ⊢
    cases e1 : (k == j)
    · cases e2 : (nx == j)
      · rw [e1, e2] at h; cases h
      · exact .inr ⟨(eq_of_beq e2).symm, rfl⟩
    · exact .inl rfl
  refine ⟨hg.os, hg.tape, hg.output, hg.size, fun b hl hk => ?_, fun j e => ?_, fun j hj => ?_, fun j hj b hb => ?_, fun i j hne hi hj hmu b hb hbf => ?_⟩
  · exact hg.block b hl fun e => hk k rfl ((hf b).1 e.symm)
  · cases e; exact ⟨hm, by simp [has]⟩
  · rcases cases2 j hj with e | ⟨_, e⟩ <;> rw [e]
    · trivial
    · exact ho
  · rcases cases2 j hj with e | ⟨_, e⟩ <;> rw [e] at hb
    · exact hb.elim
    · obtain ⟨q, rfl, rfl⟩ := hb
      rcases hn q.block rfl with h | h
      · exact .inr ⟨k, (hf _).1 h, .inl ⟨hm, by simp [has]⟩⟩
      · exact .inl h
  · rcases cases2 i hi with e1 | ⟨e1, e1'⟩
    · rw [e1] at hmu; cases hmu
    · rcases cases2 j hj with e2 | ⟨e2, e2'⟩
      · rw [e2] at hbf; exact hbf
      · exact hne (e1.trans e2.symm)
theorem flat_len {ys : List (List Value)} {z : Nat} (h : ∀ l ∈ ys, l.length = z) : ys.flatten.length = ys.length * z := by
  induction ys with
  | nil => simp
  | cons y ys ih =>
    rw [List.flatten_cons, List.length_append, h y (by simp), ih fun l hl => h l (by simp [hl]), List.length_cons, Nat.add_mul, Nat.one_mul, Nat.add_comm]
theorem flat_at {ys : List (List Value)} {z i j : Nat} (h : ∀ l ∈ ys, l.length = z) (hi : i < ys.length) (hj : j < z) : ys.flatten[i * z + j]? = some (fR ys i j) := by
  induction ys generalizing i with
  | nil => simp at hi
  | cons y ys ih =>
    have hy := h y (by simp)
    rw [List.flatten_cons]
    cases i with
    | zero => rw [Nat.zero_mul, Nat.zero_add, List.getElem?_append_left (by omega)]; simp [fR, hy, hj]
    | succ i =>
      rw [List.getElem?_append_right (by rw [hy, Nat.add_mul, Nat.one_mul]; omega), hy, show (i + 1) * z + j - z = i * z + j by rw [Nat.add_mul, Nat.one_mul]; omega, ih (fun l hl => h l (by simp [hl])) (by simpa using hi)]
      simp [fR]
theorem appD_ex {T : TypeId → TI} {t ty : TypeId} {x : SV} {S : Option Addr} {m c' nx : Nat} {p : Prop} {cs : List SV} (hT : TyAll P T) (H : HH w0 O hp w) (ht : (T t).ok = true) (hs : (T t).sort = 1) (he : (T (T t).elem).ok = true) (hz : (T (T t).elem).size = (T t).esz) (hzl : lenS (T (T t).elem).zero = (T t).esz)
    (hsrc : p → (∀ a : Addr, S = some a → ∀ j u, (dens cs)[j]? = some u → w.cell? (a.add j) = some u) ∧ (S = none → m = 0)) :
    Ex P w0 hp w (Builtin.append_ #[t, t] ty #[den x, .slice S m c']) (appD (T t) (lookH hp) nx m p cs x) := by
  have hTt := hT t ht
  have hTe := hT _ he
  obtain ⟨i, z, hi, hisz, hiz, hzc⟩ := hTe.inf
  obtain ⟨i', hi', hs', hb'⟩ := hTt.el (.inl hs)
  rw [hi] at hi'; cases hi'
  have hisz : i.size = (T t).esz := hs'
  have hzs : z.cells.size = i.size := by
    rw [lenS_eq] at hzl
    rw [← Array.length_toList, hzc, dens_len, hzl, hisz]
  have hpos : 0 < i.size := by have := hTe.pos; rw [hz, ← hisz] at this; omega
  have main : ∀ (v : Value) (n : Nat) (xs : List SV), w.ownsRow w0.heap.size (T t).elem (T t).esz v n (dens xs) → p → n + m ≤ 9223372036854775807 → (n + m) * (T t).bytes ≤ 140737488355328 → lenS cs = m * (T t).esz → allOne cs = true →
      ∃ A c w', (Builtin.append_ #[t, t] ty #[v, .slice S m c']).run P w = .ok (.slice A (n + m) c) w' ∧ w'.ownsRow w0.heap.size (T t).elem (T t).esz (.slice A (n + m) c) (n + m) (dens (xs ++ cs)) ∧ w.grownBy w' v.ownBlock ∧
        ∀ k, (Value.slice A (n + m) c).ownBlock = some k → v.ownBlock = some k ∨ w.heap.size ≤ k := by
    intro v n xs hown hp' h63 hby hl h1
    rw [lenS_eq] at hl
    obtain ⟨hcel, hnil⟩ := hsrc hp'
    cases S with
    | none =>
      have h0 := hnil rfl
      subst h0
      have hcs0 : cs = [] := List.eq_nil_of_length_eq_zero (by omega)
      subst hcs0
      obtain ⟨A, c, rfl⟩ := own_form hown
      have hsize : ∀ w, (sizeOf (T t).elem).run P w = .ok (T t).esz w := fun w => by simp [sizeOf, typeInfo, program, Sem.run_bind, Sem.run, hi, hisz, Result.andThen, Sem.run_pure]
      have hnc : n ≤ c := by
        rcases hown.2 with ⟨e, hn0⟩ | ⟨g, cap, cur, e, _, _, h, _⟩ <;> cases e
        · omega
        · exact h
      refine ⟨A, c, w, ?_, by simpa using hown, World.grownBy.refl _ _, fun k hk => .inl hk⟩
      cases A with
      | none => simp [Builtin.append_, run_underlying (hTt.slice hs), hsize, Builtin.lenOf, hnc, Builtin.firstCells, loadCells, loadCellsFrom]
      | some a => simp [Builtin.append_, run_underlying (hTt.slice hs), hsize, Builtin.lenOf, hnc, Builtin.firstCells, loadCells, loadCellsFrom, storeCells]
    | some a =>
    obtain ⟨v', w', hr, ho, hg, hn⟩ := run_append_own2 (P := P) (w := w) w0.heap.size t ty (T t).elem i z (hTt.slice hs) hi hiz hzs hpos v n (dens xs) (by rw [hisz]; exact hown) a m c' (dens cs) (by rw [dens_len, hl, hisz]) (hcel a rfl) (fun u hu => one_cell (allOne_den h1 u hu)) (by simp only [maxLen]; omega) (by rw [hb']; exact hby) H.below.size
    obtain ⟨A, c, rfl⟩ := own_form ho
    rw [hisz, ← dens_append'] at ho
    exact ⟨A, c, w', hr, ho, hg, hn⟩
  unfold appD
  split
  · rintro ⟨hp', h63, hby, hl, h1⟩
    obtain ⟨A, c, w', hr, ho, hg, hn⟩ := main (.slice none 0 0) 0 [] (World.ownsRow_nil _ _ _ _) hp' (by omega) (by simpa using hby) hl h1
    simp only [Nat.zero_add, List.nil_append] at hr ho hn
    refine ⟨⟨0, A, c, none, 0, mz⟩, w', hr, ?_⟩
    refine Stp.one ⟨hg.os, hg.tape, hg.output, hg.size, fun k hk => hg.block k hk (fun e => by cases e)⟩ ho fun k hk => .inl ?_
    obtain ⟨q, e, rfl⟩ := hk
    have e : A = some q := e
    subst e
    rcases hn q.block rfl with h | h
    · cases h
    · exact h
  · next k b1 n c1 =>
    have hk := H.hold k
    split
    · next b2 ds t2 hc =>
      rw [hc] at hk
      rintro ⟨hp', h63, hby, hl, h1, rfl, rfl, rfl, hd⟩
      rw [lenS_eq] at hd
      have hown : w.ownsRow w0.heap.size (T t).elem (T t).esz (.slice (some ⟨b1, 0, none⟩) n n) n (dens ds) :=
        ⟨by rw [dens_len, hd], .inr ⟨b1, n, _, rfl, hk.1, hk.2, Nat.le_refl _, by simp only [maxLen]; omega, by simp [dens_len, hd], by simp only [List.toList_toArray]; rw [← hd, ← dens_len ds]; exact List.take_length⟩⟩
      obtain ⟨A, c, w', hr, ho, hg, hn⟩ := main _ n ds hown hp' h63 hby hl h1
      exact ⟨⟨0, A, c, none, 0, mz⟩, w', hr, app_stp (by rw [hc]; rfl) (fun i => by rw [hc]; simp [Value.ownBlock, foot, eq_comm]) hg ho hn⟩
    · exact fun h => h.elim
  · next k A1 n c1 =>
    have hk := H.hold k
    split
    · next A2 c2 e2 z2 n2 ds hc =>
      rw [hc] at hk
      rintro ⟨hp', h63, hby, hl, h1, rfl, rfl, rfl, rfl, rfl⟩
      obtain ⟨A, c, w', hr, ho, hg, hn⟩ := main _ n ds hk hp' h63 hby hl h1
      refine ⟨⟨0, A, c, none, 0, mz⟩, w', hr, app_stp (by rw [hc]; rfl) (fun i => ?_) hg ho hn⟩
      rw [hc]
      cases A1 <;> simp [Value.ownBlock, foot, eq_comm]
    · exact fun h => h.elim
  · exact fun h => h.elim
theorem appR_ex {T : TypeId → TI} {t ty : TypeId} {xs : List SV} {nx : Nat} (hT : TyAll P T) (H : HH w0 O hp w) (ht : (T t).ok = true) (hs : (T t).sort = 1) (he : (T (T t).elem).ok = true) (hz : (T (T t).elem).size = (T t).esz) (hzl : lenS (T (T t).elem).zero = (T t).esz) :
    Ex P w0 hp w (Builtin.append_ #[t, t] ty (dens xs).toArray) (appR (T t) (lookH hp) nx xs) := by
  have hTt := hT t ht
  obtain ⟨i, hi, hs', hb'⟩ := hTt.el (.inl hs)
  have hsize : ∀ w, (sizeOf (T t).elem).run P w = .ok (T t).esz w := fun w => by simp [sizeOf, typeInfo, program, Sem.run_bind, Sem.run, hi, hs', Result.andThen, Sem.run_pure]
  unfold appR
  split
  · next x =>
    cases hc : capS x with
    | none => exact fun h => h.elim
    | some q =>
      obtain ⟨n, c⟩ := q
      intro hn
      have hn : n ≤ c := hn
      refine ⟨⟨0, none, 0, none, 0, mz⟩, w, ?_, .still (Below.refl _ _)⟩
      have key : ∀ A, den x = .slice A n c → (Builtin.append_ #[t, t] ty #[den x, .slice none 0 0]).run P w = .ok (den x) w := by
        intro A e
        rw [e]
        cases A with
        | none => simp [Builtin.append_, run_underlying (hTt.slice hs), hsize, Builtin.lenOf, hn, Builtin.firstCells, loadCells, loadCellsFrom]
        | some a => simp [Builtin.append_, run_underlying (hTt.slice hs), hsize, Builtin.lenOf, hn, Builtin.firstCells, loadCells, loadCellsFrom, storeCells]
      unfold capS at hc
      split at hc <;> cases hc
      all_goals first | exact key _ rfl | skip
  · next x k b o m c' =>
    refine appD_ex (S := some ⟨b, o, none⟩) hT H ht hs he hz hzl fun hp' => ⟨?_, fun e => by cases e⟩
    intro a ea j u hu
    cases ea
    have hk := H.hold k
    unfold srcC at hp' hu
    split at hp'
    · next b' cs t' hc =>
      rw [hc] at hk hu
      obtain ⟨rfl, hl⟩ := hp'
      rw [dens_cut, cut_eq, List.getElem?_take] at hu
      split at hu
      · rw [List.getElem?_drop] at hu; rw [addr_add, cell_blk hk.2]; simpa using hu
      · cases hu
    · next b' o' cs hc =>
      rw [hc] at hk hu
      obtain ⟨rfl, hle, hl⟩ := hp'
      rw [dens_cut, cut_eq, List.getElem?_take] at hu
      split at hu
      · rw [List.getElem?_drop] at hu
        rw [addr_add]
        have := hk.2 _ _ hu
        rwa [show o' + (o - o' + j) = o + j by omega] at this
      · cases hu
    · exact hp'.elim
  · next x k A m c' =>
    have hk := H.hold k
    have at1 : ∀ {c : Nat} {vs : List Value} {f : Nat → Nat → Value}, SlOk w A c 1 m f → vs.length = m → (∀ i, i < m → vs[i]? = some (f i 0)) → ∀ a : Addr, A = some a → ∀ j u, vs[j]? = some u → w.cell? (a.add j) = some u := by
      intro c vs f hS hl hf a e j u hu
      have hj : j < m := by have := (List.getElem?_eq_some_iff.1 hu).1; omega
      obtain ⟨b, o, e', _, hc⟩ := hS.2 (by omega)
      rw [e'] at e; cases e
      rw [addr_add, show o + j = o + (j * 1 + 0) by omega, hc j hj 0 (by omega), ← hf j hj, hu]
    have atz : ∀ {c z : Nat} {vs : List Value} {f : Nat → Nat → Value}, SlOk w A c z m f → vs.length = m * z → (∀ i, i < m → ∀ j, j < z → vs[i * z + j]? = some (f i j)) → ∀ a : Addr, A = some a → ∀ j u, vs[j]? = some u → w.cell? (a.add j) = some u := by
      intro c z vs f hS hl hf a e j u hu
      have hj : j < m * z := by have := (List.getElem?_eq_some_iff.1 hu).1; omega
      have hz0 : 0 < z := by rcases Nat.eq_zero_or_pos z with h | h; · rw [h] at hj; omega
                             · exact h
      have hi : j / z < m := (Nat.div_lt_iff_lt_mul hz0).2 hj
      have hm : j % z < z := Nat.mod_lt _ hz0
      have hd : j / z * z + j % z = j := Nat.div_add_mod' j z
      obtain ⟨b, o, e', _, hc⟩ := hS.2 (by intro h0; rw [h0] at hi; exact absurd hi (Nat.not_lt_zero _))
      rw [e'] at e; cases e
      have h1 := hc (j / z) hi (j % z) hm
      have h2 := hf (j / z) hi (j % z) hm
      rw [hd] at h1 h2
      rw [addr_add, h1, ← h2, hu]
    have nil0 : ∀ {c z : Nat} {f : Nat → Nat → Value}, SlOk w A c z m f → A = none → m = 0 := by
      intro c z f hS e
      rcases Nat.eq_zero_or_pos m with h | h
      · exact h
      · obtain ⟨b, o, e', _⟩ := hS.2 (by omega)
        rw [e'] at e; cases e
    refine appD_ex (S := A) hT H ht hs he hz hzl fun hp' => ?_
    unfold srcG at hp' ⊢
    split at hp'
    · next A' c1 kd ys hc =>
      rw [hc] at hk
      dsimp only
      obtain ⟨rfl, rfl, hz1⟩ := hp'
      refine ⟨at1 (f := fI kd ys) hk (by simp [dens_len]) fun i hi => ?_, nil0 hk⟩
      simp only [dens_eq, List.map_map, List.getElem?_map, Function.comp_def, den]
      simp [fI, hi]
    · next A' c1 kd ys hc =>
      rw [hc] at hk
      dsimp only
      obtain ⟨rfl, rfl, hz1⟩ := hp'
      refine ⟨at1 (f := fI kd ys) hk.1 (by simp [dens_len]) fun i hi => ?_, nil0 hk.1⟩
      simp only [dens_eq, List.map_map, List.getElem?_map, Function.comp_def, den]
      simp [fI, hi]
    · next A' c1 ys hc =>
      rw [hc] at hk
      dsimp only
      obtain ⟨rfl, rfl, hz1⟩ := hp'
      refine ⟨at1 (f := fS ys) hk (by simp [dens_len]) fun i hi => ?_, nil0 hk⟩
      simp only [dens_eq, List.map_map, List.getElem?_map, Function.comp_def, den]
      simp [fS, hi]
    · next A' c1 z' ys hc =>
      rw [hc] at hk
      dsimp only
      obtain ⟨rfl, rfl, hz1, hall⟩ := hp'
      subst hz1
      have hd : dens (ys.flatten.map .v) = ys.flatten := by rw [dens_eq, List.map_map]; exact List.map_id' _
      refine ⟨?_, nil0 hk⟩
      rw [hd]
      exact atz (f := fR ys) hk (flat_len hall) fun i hi j hj => flat_at hall hi hj
    · next A' c1 e1 z' n cs hc =>
      rw [hc] at hk
      dsimp only
      obtain ⟨rfl, rfl, hz1⟩ := hp'
      refine ⟨?_, ?_⟩
      · rintro a rfl j u hu
        have := World.ownsRow.cells (g := a.block) (w := w) (n := m) (xs := dens cs) hk
        rcases hk.2 with ⟨e, _⟩ | ⟨g, cap, cur, e, _⟩
        · cases e
        · cases e; exact World.ownsRow.cells (g := g) hk rfl j u hu
      · rintro rfl
        rcases hk.2 with ⟨e, h0⟩ | ⟨g, cap, cur, e, _⟩
        · cases e; rfl
        · cases e
    · next A' c1 z' n cs hc =>
      rw [hc] at hk
      dsimp only
      obtain ⟨rfl, rfl, hz1, hl⟩ := hp'
      subst hz1
      rw [lenS_eq] at hl
      refine ⟨atz (f := fun i j => (dens cs).getD (i * (T t).esz + j) undef) hk (by rw [dens_len, hl]) fun i hi j hj => ?_, nil0 hk⟩
      have : i * (T t).esz + j < (dens cs).length := by
        rw [dens_len, hl]
        calc i * (T t).esz + j < i * (T t).esz + (T t).esz := by omega
          _ = (i + 1) * (T t).esz := by rw [Nat.add_mul, Nat.one_mul]
          _ ≤ m * (T t).esz := Nat.mul_le_mul_right _ (by omega)
      simp [List.getD, this]
    · next A' c1 z' n f hc =>
      rw [hc] at hk
      dsimp only
      obtain ⟨rfl, rfl, hz1⟩ := hp'
      subst hz1
      have hall : ∀ l ∈ (List.range m).map (fun i => dens (f i)), l.length = (T t).esz := fun l hl => by
        obtain ⟨i, hi, rfl⟩ := List.mem_map.1 hl
        rw [dens_len]; exact hk.2 i (List.mem_range.1 hi)
      have hd : dens ((List.range m).flatMap f) = ((List.range m).map (fun i => dens (f i))).flatten := by
        rw [← List.flatMap_def]
        generalize List.range m = L
        induction L with
        | nil => rfl
        | cons x L ih => rw [List.flatMap_cons, List.flatMap_cons, dens_append', ih]
      refine ⟨?_, nil0 hk.1⟩
      rw [hd]
      refine atz (f := fun i j => (dens (f i)).getD j undef) hk.1 ?_ fun i hi j hj => ?_
      · rw [flat_len hall]; simp
      · rw [flat_at hall (by simpa using hi) hj]
        simp [fR, hi]
    · exact hp'.elim
  · exact fun h => h.elim
theorem numsU_map : ∀ {l : List SV} {xs : List Int}, numsU l = some xs → dens l = xs.map (.int .u8) := by
  intro l
  induction l with
  | nil => intro xs h; cases h; rfl
  | cons x l ih =>
    intro xs h
    unfold numsU at h
    split at h
    · next e => cases e
    · next y l' e =>
      cases e
      cases hs : numsU l with
      | none => rw [hs] at h; cases h
      | some ys => rw [hs] at h; cases h; simp [dens, den, ih hs]
    · cases h
theorem conv_ex {T : TypeId → TI} {st dt : TypeId} {nx : Nat} (hT : TyAll P T) (H : HH w0 O hp w) (hso : (T st).ok = true) (hto : (T dt).ok = true) {x : SV} : Ex P w0 hp w (convert st dt (den x)) (convR (T st) (T (T st).elem) (T dt) (T (T dt).elem) (lookH hp) nx x) := by
  have hs := hT _ hso
  have ht := hT _ hto
  obtain ⟨d0, hu0, _⟩ := hs.u
  have src : (T st).sort = 1 → (T (T st).elem).ok = true → (T (T st).elem).sort = 14 → P.underlying st = some (.slice (T st).elem) ∧ P.underlying (T st).elem = some (.int .u8) := fun h1 h2 h3 => ⟨hs.slice h1, (hT _ h2).int h3⟩
  have bytes : ∀ (A : Option Addr) (n c : Nat) (xs : List Int), (T st).sort = 1 → (T (T st).elem).ok = true → (T (T st).elem).sort = 14 → (T dt).sort = 3 → xs.length = n → (∀ a, A = some a → ∀ i, i < n → w.cell? (a.add i) = some (.int .u8 (xs.getD i 0))) →
      (A = none → n = 0) → (convert st dt (.slice A n c)).run P w = .ok (.string (strOfNums xs)) w := by
    intro A n c xs h1 h2 h3 h4 hl hc hA
    obtain ⟨u1, u2⟩ := src h1 h2 h3
    cases A with
    | none =>
      have : xs = [] := List.eq_nil_of_length_eq_zero (by rw [hl]; exact hA rfl)
      subst this
      exact run_convert_bytes_nil w st _ u1 u2 n c dt (ht.str h4)
    | some a =>
      have hld : (loadCells a n).run P w = .ok (xs.map (Value.int .u8)).toArray w := by
        have := run_loadCells_list (P := P) w a (xs.map (Value.int .u8)) (fun j v hj => by
          have hjl : j < xs.length := by
            have := (List.getElem?_eq_some_iff.1 hj).1
            simpa using this
          rw [hc a rfl j (by omega)]
          simp [List.getElem?_eq_getElem hjl] at hj
          subst hj
          simp [List.getD, List.getElem?_eq_getElem hjl])
        simpa [hl] using this
      rw [run_convert_bytes_string w st dt _ (some a) n c u1 u2 (ht.str h4), run_bytesToString w a n c xs hld, foldl_push_bytes]
      simp [strOfNums, ByteArray.empty, ByteArray.emptyWithCapacity]
      rfl
  have sl : ∀ {A : Option Addr} {c n : Nat} {f : Nat → Nat → Value} {g : Nat → Value}, SlOk w A c 1 n f → (∀ i, i < n → f i 0 = g i) → (∀ a, A = some a → ∀ i, i < n → w.cell? (a.add i) = some (g i)) ∧ (A = none → n = 0) := by
    intro A c n f g h e
    refine ⟨fun a ha i hi => ?_, fun hA => Classical.byContradiction fun hn => ?_⟩
    · obtain ⟨b, o, e', hb, hf⟩ := h.2 (by omega)
      rw [ha] at e'; cases e'
      rw [addr_add, ← e i hi]
      have := hf i hi 0 (by omega)
      simpa using this
    · obtain ⟨b, o, e', _⟩ := h.2 hn
      rw [hA] at e'; cases e'
  unfold convR
  split
  · next k n =>
    cases h3 : ((T dt).sort == 3)
    · refine Runs.ex ?_
      simp only [cond_false]
      cases hk : kOf (T dt).sort with
      | none => trivial
      | some k' =>
        intro hv
        have hu := ht.int (kOf_kc hk)
        simp [den, convert, run_underlying hu0, run_underlying hu, Sem.run_bind, Conv.intToInt, inr_wrap hv, Sem.run_pure]
    · refine Runs.ex fun _ => ?_
      exact run_convert_int_string w st dt k n (by rw [hu0]; rfl) (ht.str (eq_of_beq h3))
  · next s =>
    cases hk : ((T dt).sort == 3)
    · simp only [cond_false]
      cases h1 : ((T st).sort == 3 && (T dt).sort == 1 && (T (T dt).elem).ok && (T (T dt).elem).sort == 14)
      · exact fun h => h.elim
      · simp only [Bool.and_eq_true, beq_iff_eq] at h1
        obtain ⟨⟨⟨h0, h1⟩, h2⟩, h3⟩ := h1
        intro _
        · have hr := run_bytes_of_string w st dt _ s (hs.str h0) (ht.slice h1) ((hT _ h2).int h3)
          refine ⟨⟨0, some ⟨w.heap.size, 0, none⟩, grownCap w s.size 0 (T dt).elem, none, 0, mz⟩, _, hr, ?_⟩
          have hbl : (bytesI s).length = s.size := by rw [bytesI, List.length_map, Array.length_toList]; rfl
          have hhp : ∀ o : Obj, (w.drew.alloc o).heap = w.heap.push o := fun o => rfl
          refine Stp.one (c := .ints (some ⟨w.heap.size, 0, none⟩) (grownCap w s.size 0 (T dt).elem) .u8 (bytesI s)) ((Below.refl _ _).drew.alloc (Nat.le_refl _) _) ?_ ?_
          · show SlOk _ _ _ _ _ _
            rw [hbl]
            refine ⟨grownCap_ge _ _ _ _, fun _ => ⟨_, _, rfl, by rw [hhp]; simp, fun i hi j hj => ?_⟩⟩
            have hj0 : j = 0 := by omega
            subst hj0
            have hi' : i < s.data.size := hi
            simp [World.cell?, hhp, bytesRow, fI, bytesI, List.getD, Array.getElem?_append, hi', hi]
          · rintro b ⟨_, a, e, rfl⟩
            cases e
            exact .inl (Nat.le_refl _)
    · refine Runs.ex fun _ => ?_
      have hu := ht.str (eq_of_beq hk)
      simp [den, convert, run_underlying hu0, run_underlying hu, Sem.run_bind, Sem.run_pure]
  · next k A n c =>
    cases h1 : ((T dt).sort == 3 && (T st).sort == 1 && (T (T st).elem).ok && (T (T st).elem).sort == 14)
    · exact fun h => h.elim
    · simp only [Bool.and_eq_true, beq_iff_eq] at h1
      obtain ⟨⟨⟨h1, h2⟩, h3⟩, h4⟩ := h1
      refine Runs.ex ?_
      have hk := H.hold k
      unfold convG
      split
      · next A' c' xs e =>
        rw [e] at hk
        rintro ⟨rfl, rfl⟩
        obtain ⟨s1, s2⟩ := sl (g := fun i => .int .u8 (xs.getD i 0)) hk (fun i _ => rfl)
        exact bytes A _ c xs h2 h3 h4 h1 rfl s1 s2
      · next A' c' e' m cs e =>
        rw [e] at hk
        cases hx : numsU cs with
        | none => trivial
        | some xs =>
          rintro ⟨⟨rfl, rfl, hl⟩, _⟩
          have hm := numsU_map hx
          rw [lenS_eq] at hl
          have hl' : xs.length = n := by have := congrArg List.length hm; rw [dens_len] at this; simp at this; omega
          obtain ⟨s1, s2⟩ := sl (g := fun i => .int .u8 (xs.getD i 0)) (row_sl hk) (fun i hi => by
            rw [Nat.mul_one, Nat.add_zero, hm]
            have : i < xs.length := by omega
            simp [List.getD, this])
          exact bytes A n c xs h2 h3 h4 h1 hl' s1 s2
      · trivial
  · next k b o n c =>
    cases h1 : ((T dt).sort == 3 && (T st).sort == 1 && (T (T st).elem).ok && (T (T st).elem).sort == 14)
    · exact fun h => h.elim
    · simp only [Bool.and_eq_true, beq_iff_eq] at h1
      obtain ⟨⟨⟨h1, h2⟩, h3⟩, h4⟩ := h1
      refine Runs.ex ?_
      have hk := H.hold k
      unfold convP
      split
      · next b' cs t' e =>
        rw [e] at hk
        cases hx : numsU (cut cs o n) with
        | none => trivial
        | some xs =>
          rintro ⟨⟨rfl, hl⟩, _⟩
          have hm := numsU_map hx
          rw [lenS_eq] at hl
          have hl' : xs.length = n := by have := congrArg List.length hm; rw [dens_len, cut_eq] at this; simp at this; omega
          refine bytes (some ⟨b, o, none⟩) n c xs h2 h3 h4 h1 hl' (fun a ha i hi => ?_) (fun hA => by cases hA)
          cases ha
          rw [addr_add, cell_blk hk.2]
          have h3 : (dens (cut cs o n))[i]? = some (.int .u8 (xs.getD i 0)) := by
            rw [hm]
            have : i < xs.length := by omega
            simp [List.getD, this]
          rw [dens_cut, cut_eq, List.getElem?_take, if_pos hi, List.getElem?_drop] at h3
          simpa using h3
      · trivial
  · cases h1 : ((T dt).sort == 3 && (T st).sort == 1 && (T (T st).elem).ok && (T (T st).elem).sort == 14)
    · exact fun h => h.elim
    · simp only [Bool.and_eq_true, beq_iff_eq] at h1
      obtain ⟨⟨⟨h1, h2⟩, h3⟩, h4⟩ := h1
      exact Runs.ex fun _ => bytes none 0 0 [] h2 h3 h4 h1 rfl (fun a ha => by cases ha) fun _ => rfl
  · exact fun h => h.elim
theorem rng_ex {t : TypeId} {ti : TI} {nx : Nat} (ht : TyOk P t ti) (hs : ti.sort = 3) (H : HH w0 O hp w) {x : SV} : Ex P w0 hp w (Instr.range t (den x)) (rngR nx x) := by
  unfold rngR
  split
  · next s =>
    intro hv
    have hv : itOk s 0 (itL s s.size 0) := hv
    generalize itL s s.size 0 = l at hv ⊢
    refine ⟨⟨w.heap.size, none, 0, none, 0, mz⟩, { w with heap := w.heap.push (.stringIter s 0) }, ?_, Stp.one ⟨rfl, rfl, rfl, by simp, fun b hb => ?_⟩ ⟨H.below.size, 0, by simp, hv⟩ ?_⟩
    · simp [den, Instr.range, run_underlying (ht.str hs), Sem.run_bind, Sem.run_pure, newObj, Sem.run, rngS, Res.out]
    · simp [Array.getElem?_push, Nat.ne_of_lt hb]
    · intro b hb
      obtain rfl : b = _ := hb
      exact .inl (Nat.le_refl _)
  · exact fun h => h.elim
theorem next_ex {x : SV} (H : HH w0 O hp w) {ty : TypeId} : Ex P w0 hp w (Instr.next (den x) true ty) (nextR (lookH hp) x) := by
  unfold nextR
  split
  · next k b o =>
    have hk := H.hold k
    unfold nextB
    split
    · next b' s l hc =>
      rw [hc] at hk
      obtain ⟨hB, pos, hh, hi⟩ := hk
      cases l with
      | nil =>
        rintro ⟨rfl, rfl⟩
        have hi : s.size ≤ pos := hi
        refine ⟨⟨0, none, 0, none, 0, mz⟩, w, ?_, .still (Below.refl _ _)⟩
        simp [den, dens, nextL, Res.out, Instr.next, getObj, Sem.run, Sem.run_bind, hh, Nat.not_lt.2 hi, Sem.run_pure]
      | cons q l =>
        obtain ⟨p, c⟩ := q
        rintro ⟨rfl, rfl, hp'⟩
        obtain ⟨rfl, hlt, rfl, hi⟩ := hi
        have hb := lt_of_cells hh
        have hg : goInt p = .int .i64 p := by simp [goInt]
        refine ⟨⟨0, none, 0, none, 0, mz⟩, wput w b (.stringIter s (p + (Utf8.decode s p).2)), ?_, Stp.put (by rw [hc]; rfl) rfl rfl rfl wput_size (fun i hi => wput_ne fun e => hi (by rw [hc]; exact e)) ⟨hB, _, wput_get hb, hi⟩ (fun i hi => by rw [hc]; exact hi)⟩
        simp [den, dens, nextL, Res.out, Instr.next, getObj, setObj, Sem.run, Sem.run_bind, hh, hlt, hg, Sem.run_pure, wput]
    · exact fun h => h.elim
  · exact fun h => h.elim
theorem mcS_den : ∀ (ks : List MV) (xs : List Int), dens (mcS ks xs) = mcells ks xs
  | [], _ => rfl
  | k :: ks, xs => by
    rw [mcS, mcells, dens, mcS_den ks]
    cases k <;> rfl
theorem mvalS_den (agg : Bool) (ks : List MV) (hk : ks ≠ []) (xs : List Int) : den (mvalS agg ks xs) = mval agg ks xs := by
  cases agg with
  | true => show (.agg (dens (mcS ks xs)).toArray : Value) = .agg (mcells ks xs).toArray; rw [mcS_den]
  | false =>
    cases ks with
    | nil => exact absurd rfl hk
    | cons k ks => cases k <;> rfl
theorem map_type {T : TypeId → TI} {t : TypeId} (hT : TyAll P T) (h : isMap T t = true) : P.underlying t = some (.map (T t).len (T t).elem) ∧ P.underlying (T t).len = some .string ∧ TyOk P (T t).elem (T (T t).elem) := by
  simp only [isMap, Bool.and_eq_true, beq_iff_eq] at h
  obtain ⟨⟨⟨⟨h1, h2⟩, h3⟩, h4⟩, h5⟩ := h
  refine ⟨?_, (hT _ h3).str h4, hT _ h5⟩
  have hu := (hT _ h1).und
  cases e : P.underlying t with
  | none => rw [e] at hu; cases hu
  | some d =>
    rw [e, h2] at hu
    cases d <;> simp [cls, kc_9] at hu
    rw [hu.1, hu.2.1]
theorem zero_run {t : TypeId} {ti : TI} (h : TyOk P t ti) : (zeroValue t).run P w = .ok (bif ti.agg then .agg (dens ti.zero).toArray else (dens ti.zero).headD undef) w := by
  have hz := h.zer
  cases hi : P.info? t with
  | none => rw [hi] at hz; cases hz
  | some i =>
    rw [hi] at hz
    have hz : i.zero = _ := hz
    simp [zeroValue, typeInfo, Sem.run_bind, run_program, Result.andThen, hi, hz, Sem.run_pure]
theorem lok_runs {T : TypeId → TI} {t : TypeId} (hT : TyAll P T) (H : HH w0 O hp w) (h : isMap T t = true) (x y : SV) (ok : Bool) : Runs P w (Instr.lookup t (den x) (den y) ok) (lokR (lookH hp) (T (T t).elem).agg (T (T t).elem).zero ok x y) := by
  obtain ⟨h1, h2, h3⟩ := map_type hT h
  unfold lokR
  split
  · next k b s =>
    have hh := H.hold k
    cases hc : lookH hp k with
    | mp b' d agg' ks es =>
      rw [hc] at hh
      rintro ⟨rfl, rfl, rfl, hne, hks, hz⟩
      have := map_lookup h1 h2 (w := w) (ks := ks) (agg := (T (T t).elem).agg) (es := es) (b := b) (d := .string) (k := .s s) (by rw [zero_run h3]; unfold mval; rw [hz]) hh.2 trivial ok
      refine (show (Instr.lookup t (.map (some b)) (mkV (.s s)) ok).run P w = _ from this).trans ?_
      unfold lokV
      cases ok
      · simp only [cond_false]; rw [mvalS_den _ _ hne]
      · simp only [cond_true, den, dens]; rw [mvalS_den _ _ hne]
    | rmp b' d agg' ks es =>
      rw [hc] at hh
      rintro ⟨rfl, rfl, rfl, hne, hks, hz⟩
      have := map_lookup h1 h2 (w := w) (ks := ks) (agg := (T (T t).elem).agg) (es := es) (b := b) (d := .string) (k := .s s) (by rw [zero_run h3]; unfold mval; rw [hz]) hh trivial ok
      refine (show (Instr.lookup t (.map (some b)) (mkV (.s s)) ok).run P w = _ from this).trans ?_
      unfold lokV
      cases ok
      · simp only [cond_false]; rw [mvalS_den _ _ hne]
      · simp only [cond_true, den, dens]; rw [mvalS_den _ _ hne]
    | _ => trivial
  · trivial
theorem valI_den : ∀ (ks : List MV) (l : List SV) (xs : List Int), valI ks l = some xs → dens l = mcells ks xs
  | [], [], xs, h => rfl
  | .int k :: ks, .v (.int k' x) :: l, xs, h => by
    rw [valI] at h
    cases hk : sameK k k' with
    | false => rw [hk] at h; cases h
    | true =>
      rw [hk, cond_true] at h
      have := sameK_eq hk; subst this
      cases hv : valI ks l with
      | none => rw [hv] at h; cases h
      | some ys =>
        rw [hv] at h
        cases h
        rw [dens, valI_den ks l ys hv]; rfl
  | .bool :: ks, .v (.bool p) :: l, xs, h => by
    rw [valI] at h
    cases hv : valI ks l with
    | none => rw [hv] at h; cases h
    | some ys =>
      rw [hv] at h
      cases h
      rw [dens, valI_den ks l ys hv]
      cases p <;> rfl
theorem valA_den {ks : List MV} {agg : Bool} {y : SV} {xs : List Int} (hk : ks ≠ []) (h : valA ks (cellsA agg y) = some xs) : den y = mval agg ks xs := by
  unfold cellsA at h
  split at h
  · next l =>
    show (.agg (dens l).toArray : Value) = .agg (mcells ks xs).toArray
    rw [valI_den ks l xs h]
  · next x =>
    have := valI_den ks _ xs h
    show x = (mcells ks xs).headD undef
    rw [← this]; rfl
  · cases h
theorem upd_runs {T : TypeId → TI} {t : TypeId} (hT : TyAll P T) (H : HH w0 O hp w) (h : isMap T t = true) (x y z : SV) (hv : (updR (lookH hp) (T (T t).elem).agg x y z).vc) :
    ∃ w', (Instr.mapUpdate t (den x) (den y) (den z)).run P w = .ok () w' ∧ Stp w0 hp w (updR (lookH hp) (T (T t).elem).agg x y z).wr ((updR (lookH hp) (T (T t).elem).agg x y z).out ⟨0, none, 0, none, 0, mz⟩).2 w' ∧ ((updR (lookH hp) (T (T t).elem).agg x y z).out ⟨0, none, 0, none, 0, mz⟩).1 = .un := by
  obtain ⟨h1, h2, h3⟩ := map_type hT h
  unfold updR at hv ⊢
  split at hv
  · next k b s =>
    have hh := H.hold k
    cases hc : lookH hp k with
    | mp b' d agg' ks es =>
      rw [hc] at hh hv
      simp only [updB] at hv ⊢
      cases hz : valA ks (cellsA (T (T t).elem).agg z) with
      | none => rw [hz] at hv; exact hv.elim
      | some xs =>
        rw [hz] at hv
        obtain ⟨rfl, rfl, rfl, hne⟩ := hv
        obtain ⟨o, hr, hm⟩ := map_update h1 h2 hh.2 (k := .s s) trivial xs
        refine ⟨wput w b o, ?_, ?_, rfl⟩
        · rw [valA_den hne hz]; exact hr
        · exact Stp.put (by rw [hc]; rfl) rfl rfl rfl wput_size (fun i hi => wput_ne fun e => hi (by rw [hc]; exact e)) ⟨hh.1, hm⟩ fun i hi => by rw [hc]; exact hi
    | _ => rw [hc] at hv; exact hv.elim
  · exact hv.elim
theorem max_runs {xs : List SV} {ts : Array TypeId} {ty : TypeId} : Runs P w (Builtin.max_ ts ty (dens xs).toArray) (maxR xs) := by
  unfold maxR
  split
  · next k a k' b =>
    cases hk : sameK k k'
    · trivial
    · have := sameK_eq hk; subst this
      intro _
      simp [den, dens, Builtin.max_, Builtin.max2, Sem.run_pure]
  · trivial
theorem min_runs {xs : List SV} {ts : Array TypeId} {ty : TypeId} : Runs P w (Builtin.min_ ts ty (dens xs).toArray) (minR xs) := by
  unfold minR
  split
  · next k a k' b =>
    cases hk : sameK k k'
    · trivial
    · have := sameK_eq hk; subst this
      intro _
      simp [den, dens, Builtin.min_, Builtin.min2, Sem.run_pure]
  · trivial
end runs
section sound
variable {P : Program} {o : Oper} {a : Act} {O : Nat → Prop} {w w' w0 : World} {hp : Hp} {Q : Exit → Act → World → Prop}
def Sound (P : Program) (o : Oper) (a : Act) (w w0 : World) (hp : Hp) (Q : Exit → Act → World → Prop) (r : Res) : Prop :=
  r.vc → o.wp P a w (fun a' w' => ∃ u, a' = a.put o.dst (den (r.out u).1) ∧ Stp w0 hp w r.wr (r.out u).2 w') Q
theorem wp_value {K : Act → World → Prop} {v : Value} (h : (execOp a.eval o).run P w = .ok (.value v) w') (hk : K (a.put o.dst v) w') : o.wp P a w K Q := by
  unfold Oper.wp; rw [h]; exact hk
theorem wp_skipped {K : Act → World → Prop} (h : (execOp a.eval o).run P w = .ok .skip w') (hk : K (a.put o.dst undef) w') : o.wp P a w K Q := by
  unfold Oper.wp; rw [h]; exact hk
theorem sound_bad : Sound P o a w w0 hp Q .bad := fun h => h.elim
theorem sound_ex {m : Sem Value} {r : Res} (hm : execOp a.eval o = (do pure (.value (← m)))) (h : Ex P w0 hp w m r) : Sound P o a w w0 hp Q r := by
  intro hv
  obtain ⟨u, w', h1, h2⟩ := h hv
  refine wp_value (v := den (r.out u).1) (w' := w') ?_ ⟨u, rfl, h2⟩
  rw [hm]; simp [Sem.run_bind, h1, Sem.run_pure]
theorem sound_core1 {xs : List SV} {f : SV → Res} (h : ∀ x, xs = [x] → Sound P o a w w0 hp Q (f x)) : Sound P o a w w0 hp Q (core1 xs f) := by
  unfold core1; split
  · exact h _ rfl
  · exact sound_bad
theorem sound_core2 {xs : List SV} {f : SV → SV → Res} (h : ∀ x y, xs = [x, y] → Sound P o a w w0 hp Q (f x y)) : Sound P o a w w0 hp Q (core2 xs f) := by
  unfold core2; split
  · exact h _ _ rfl
  · exact sound_bad
theorem sound_core3 {xs : List SV} {f : SV → SV → SV → Res} (h : ∀ x y z, xs = [x, y, z] → Sound P o a w w0 hp Q (f x y z)) : Sound P o a w w0 hp Q (core3 xs f) := by
  unfold core3; split
  · exact h _ _ _ rfl
  · exact sound_bad
theorem sound_bif {b : Bool} {r : Res} (h : b = true → Sound P o a w w0 hp Q r) : Sound P o a w w0 hp Q (bif b then r else .bad) := by
  cases b
  · exact sound_bad
  · exact h rfl
def GOk (P : Program) (G : Gam) : Prop :=
  ∀ f args hp nx w0 O w, HH w0 O hp w → (G f args (lookH hp) nx).vc →
    (∀ w, (callFunc f (dens args).toArray).run P w = .ok (.enter f (dens args).toArray) w) ∧
    Calls P f (dens args).toArray w (fun e w' => ∃ u, e = .returned (den ((G f args (lookH hp) nx).out u).1) ∧ Stp w0 hp w (G f args (lookH hp) nx).wr ((G f args (lookH hp) nx).out u).2 w')
theorem sound_go {G : Gam} {c : Call} {f : FuncId} {args : List SV} {vf : Value} {nx : Nat} (hG : GOk P G) (H : HH w0 O hp w) (ho : o.op = .call c) {x : Operand} (hc : c.callee = .value x)
    {fi ca : Array Value} (hx : a.eval x = .func (.func f) fi ca) (hargs : fi ++ c.args.map a.eval ++ ca = (dens args).toArray) : Sound P o a w w0 hp Q (G f args (lookH hp) nx) := by
  intro hv
  obtain ⟨h1, h2⟩ := hG f args hp nx w0 O w H hv
  have : (execOp a.eval o).run P w = .ok (.enter f (dens args).toArray) w := by
    simp only [execOp, ho, resolve, hc, hx, Deferred.ofValue, Sem.run_bind, Sem.run_pure, Result.andThen_ok, invoke, hargs, h1]
  unfold Oper.wp
  rw [this, Oper.upon_enter]
  refine Calls.mono h2 ?_
  rintro e w' ⟨u, rfl, hs⟩
  exact ⟨u, rfl, hs⟩
theorem core_sound {T : TypeId → TI} {G : Gam} {nx : Nat} {xs : List SV} (hT : TyAll P T) (hG : GOk P G) (H : HH w0 O hp w) (hx : (opds o.op).map a.eval = dens xs) :
    Sound P o a w w0 hp Q (core T G (lookH hp) nx o.op xs) := by
  cases ho : o.op <;> rw [ho] at hx <;> try exact sound_bad
  all_goals simp only [opds, List.map_cons, List.map_nil] at hx
  case move x =>
    refine sound_core1 fun y e => ?_
    subst e; simp only [dens, List.cons.injEq, and_true] at hx
    exact fun _ => wp_value (v := den y) (w' := w) (by simp [execOp, ho, hx, Sem.run_pure]) ⟨⟨0, none, 0, none, 0, mz⟩, rfl, .still (Below.refl _ _)⟩
  case assign x =>
    refine sound_core1 fun y e => ?_
    subst e; simp only [dens, List.cons.injEq, and_true] at hx
    exact fun _ => wp_value (v := den y) (w' := w) (by simp [execOp, ho, hx, Sem.run_pure]) ⟨⟨0, none, 0, none, 0, mz⟩, rfl, .still (Below.refl _ _)⟩
  case load t x =>
    refine sound_bif fun ht => sound_core1 fun y e => ?_
    subst e; simp only [dens, List.cons.injEq, and_true] at hx
    exact sound_ex (by simp only [execOp, ho, hx]) (loadR_runs (hT t ht) H y).ex
  case alloc t =>
    exact sound_bif fun ht => sound_ex (by simp only [execOp, ho]) (alloc_ex (hT t ht) H)
  case box t x =>
    refine sound_core1 fun y e => ?_
    subst e; simp only [dens, List.cons.injEq, and_true] at hx
    exact sound_ex (by simp only [execOp, ho, hx]) (box_ex H)
  case build t ps =>
    simp only [core]
    cases h4 : ((T t).ok && (T t).sort == 4)
    · refine sound_bif fun ht => ?_
      simp only [Bool.and_eq_true, beq_iff_eq] at ht
      exact sound_ex (by simp only [execOp, ho]) (buildA_runs (hT t ht.1) ht.2 hx).ex
    · simp only [Bool.and_eq_true, beq_iff_eq] at h4
      exact sound_ex (by simp only [execOp, ho]) (build_runs (hT t h4.1) h4.2 hx).ex
  case nilCheck x =>
    refine sound_core1 fun y e hv => ?_
    subst e; simp only [dens, List.cons.injEq, and_true] at hx
    obtain ⟨u, h1, h2, h3⟩ := nil_run (P := P) (w := w) ho hx hv
    exact wp_value h1 ⟨u, rfl, by rw [h2, h3]; exact .still (Below.refl _ _)⟩
  case store t x y =>
    refine sound_bif fun ht => sound_core2 fun x' y' e hv => ?_
    subst e; simp only [dens, List.cons.injEq, and_true] at hx
    obtain ⟨w', h1, h2, h3⟩ := storeR_runs (hT t ht) H x' y' hv
    refine wp_skipped (w' := w') ?_ ⟨_, by rw [h3]; rfl, h2⟩
    simp [execOp, ho, hx, Sem.run_bind, h1, Sem.run_pure]
  case binOp op t x y t' =>
    refine sound_core2 fun x' y' e => ?_
    subst e; simp only [dens, List.cons.injEq, and_true] at hx
    exact sound_ex (by simp only [execOp, ho, hx]) (bin_runs (p := x) (q := y) (hT t)).ex
  case unOp op t x =>
    refine sound_core1 fun y e => ?_
    subst e; simp only [dens, List.cons.injEq, and_true] at hx
    exact sound_ex (by simp only [execOp, ho, hx]) un_runs.ex
  case fieldAddr t x f =>
    refine sound_bif fun ht => sound_core1 fun y e => ?_
    simp only [Bool.and_eq_true, beq_iff_eq] at ht
    subst e; simp only [dens, List.cons.injEq, and_true] at hx
    exact sound_ex (by simp only [execOp, ho, hx]) (fld_runs (hT t ht.1) ht.2).ex
  case indexAddr t x y =>
    refine sound_bif fun ht => sound_core2 fun x' y' e => ?_
    subst e; simp only [dens, List.cons.injEq, and_true] at hx
    exact sound_ex (by simp only [execOp, ho, hx]) (idx_runs (hT t ht) H).ex
  case index t x y =>
    simp only [core]
    cases h3 : ((T t).ok && (T t).sort == 3)
    · refine sound_bif fun ht => sound_core2 fun x' y' e => ?_
      simp only [Bool.and_eq_true, beq_iff_eq] at ht
      subst e; simp only [dens, List.cons.injEq, and_true] at hx
      exact sound_ex (by simp only [execOp, ho, hx]) (arr_runs (hT t ht.1.1) ht.1.2 (hT _ ht.2)).ex
    · refine sound_core2 fun x' y' e => ?_
      simp only [Bool.and_eq_true, beq_iff_eq] at h3
      subst e; simp only [dens, List.cons.injEq, and_true] at hx
      exact sound_ex (by simp only [execOp, ho, hx]) (str_runs (hT t h3.1) h3.2).ex
  case buildSlice t n ps =>
    refine sound_bif fun ht => ?_
    simp only [Bool.and_eq_true, beq_iff_eq] at ht
    obtain ⟨⟨⟨h1, h2⟩, h3⟩, h4⟩ := ht
    exact sound_ex (by simp only [execOp, ho]) (bs_ex hT H h1 h2 h3 h4 hx)
  case makeSlice t x y =>
    refine sound_bif fun ht => sound_core2 fun x' y' e => ?_
    simp only [Bool.and_eq_true, beq_iff_eq] at ht
    obtain ⟨⟨⟨h1, h2⟩, h3⟩, h4⟩ := ht
    subst e; simp only [dens, List.cons.injEq, and_true] at hx
    exact sound_ex (by simp only [execOp, ho, hx]) (mk_ex hT H h1 h2 h3 h4)
  case makeMap t r =>
    cases r with
    | some _ => exact sound_bad
    | none =>
      simp only [core]
      cases hm : isMap T t with
      | false =>
        refine sound_ex (m := Instr.makeMap t none) (by simp only [execOp, ho, Option.map_none]) fun _ => ?_
        exact ⟨⟨w.heap.size, none, 0, none, 0, mz⟩, _, rfl, .still (Below.alloc (Below.refl _ _) (Nat.le_refl _) _)⟩
      | true =>
        simp only [cond_true]
        cases hk : ksOf (T (T t).elem).zero with
        | none => exact sound_bad
        | some ks =>
          refine sound_ex (m := Instr.makeMap t none) (by simp only [execOp, ho, Option.map_none]) fun _ => ?_
          exact ⟨⟨w.heap.size, none, 0, none, 0, mz⟩, { w with heap := w.heap.push (.map #[] 0) }, rfl, Stp.one ⟨rfl, rfl, rfl, by simp, fun b hb => by rw [Array.getElem?_push, if_neg (Nat.ne_of_lt hb)]⟩ ⟨H.below.size, #[], 0, by simp, rfl, fun e he => by cases he⟩ fun i hi => by obtain rfl : i = w.heap.size := hi; exact .inl (Nat.le_refl _)⟩
  case mapUpdate t x y z =>
    refine sound_bif fun ht => sound_core3 fun x' y' z' e hv => ?_
    subst e; simp only [dens, List.cons.injEq, and_true] at hx
    obtain ⟨w', h1, h2, h3⟩ := upd_runs hT H ht x' y' z' hv
    refine wp_skipped (w' := w') ?_ ⟨_, by rw [h3]; rfl, h2⟩
    simp [execOp, ho, hx, Sem.run_bind, h1, Sem.run_pure]
  case lookup t x y ok =>
    refine sound_bif fun ht => sound_core2 fun x' y' e => ?_
    subst e; simp only [dens, List.cons.injEq, and_true] at hx
    exact sound_ex (by simp only [execOp, ho, hx]) (lok_runs hT H ht x' y' ok).ex
  case makeFunc f fi ca =>
    intro _
    have key : ∀ (l m : List Operand) (xs : List SV), (l ++ m).map a.eval = dens xs → l.map a.eval = dens (cutL l.length xs) ∧ m.map a.eval = dens (dropL l.length xs) := by
      intro l
      induction l with
      | nil => intro m xs h; exact ⟨by cases xs <;> rfl, by simpa [dropL] using h⟩
      | cons y l ih =>
        intro m xs h
        cases xs with
        | nil => simp [dens] at h
        | cons x xs =>
          simp only [List.cons_append, List.map_cons, dens, List.cons.injEq] at h
          obtain ⟨h1, h2⟩ := ih m xs h.2
          exact ⟨by simp [cutL, dens, h.1, h1], by simpa [dropL] using h2⟩
    obtain ⟨h1, h2⟩ := key fi.toList ca.toList xs hx
    refine wp_value (v := den (.fn f (cutL fi.size xs) (dropL fi.size xs))) (w' := w) ?_ ⟨⟨0, none, 0, none, 0, mz⟩, rfl, .still (Below.refl _ _)⟩
    have e1 : fi.map a.eval = (dens (cutL fi.size xs)).toArray := by apply Array.ext'; simpa using h1
    have e2 : ca.map a.eval = (dens (dropL fi.size xs)).toArray := by apply Array.ext'; simpa using h2
    simp [execOp, ho, Instr.makeFunc, e1, e2, den, Sem.run_pure]
  case slice t x lo hi mx =>
    cases mx with
    | some _ => exact sound_bad
    | none =>
      refine sound_bif fun ht => ?_
      have hTt := hT t ht
      have go : ∀ (y : SV) (l h : Option Int), a.eval x = den y → (∀ i, l = some i → (lo.map a.eval = none ∧ i = 0 ∨ ∃ q, lo.map a.eval = some (.int q i))) → (∀ i, h = some i → (hi.map a.eval = none ∧ i = endT (T t) y ∨ ∃ q, hi.map a.eval = some (.int q i))) → Sound P o a w w0 hp Q (sliceR (T t) (lookH hp) nx y l h) := by
        intro y l h hy hl hh
        exact sound_ex (by simp only [execOp, ho, hy, Option.map_none]) (slice_ex hTt H hl hh)
      cases lo with
      | none =>
        cases hi with
        | none =>
          simp only [Option.toList, List.nil_append, List.append_nil, List.map_cons, List.map_nil] at hx
          simp only [Option.isSome, sliceO]
          split
          all_goals first | exact sound_bad | contradiction | skip
          simp only [dens, List.cons.injEq, and_true] at hx
          exact go _ _ _ hx (fun i e => by cases e; exact .inl ⟨rfl, rfl⟩) (fun i e => by cases e; exact .inl ⟨rfl, rfl⟩)
        | some hi =>
          simp only [Option.toList, List.nil_append, List.map_cons, List.map_nil] at hx
          simp only [Option.isSome, sliceO]
          split
          all_goals first | exact sound_bad | contradiction | skip
          simp only [dens, List.cons.injEq, and_true] at hx
          refine go _ _ _ hx.1 (fun i e => by cases e; exact .inl ⟨rfl, rfl⟩) (fun i e => ?_)
          obtain ⟨q, hq⟩ := bound_den e
          exact .inr ⟨q, by simp [hx.2, hq]⟩
      | some lo =>
        cases hi with
        | none =>
          simp only [Option.toList, List.append_nil, List.map_cons, List.map_nil] at hx
          simp only [Option.isSome, sliceO]
          split
          all_goals first | exact sound_bad | contradiction | skip
          simp only [dens, List.cons.injEq, and_true] at hx
          refine go _ _ _ hx.1 (fun i e => ?_) (fun i e => by cases e; exact .inl ⟨rfl, rfl⟩)
          obtain ⟨q, hq⟩ := bound_den e
          exact .inr ⟨q, by simp [hx.2, hq]⟩
        | some hi =>
          simp only [Option.toList, List.cons_append, List.nil_append, List.map_cons, List.map_nil] at hx
          simp only [Option.isSome, sliceO]
          split
          all_goals first | exact sound_bad | contradiction | skip
          simp only [dens, List.cons.injEq, and_true] at hx
          refine go _ _ _ hx.1 (fun i e => ?_) (fun i e => ?_)
          · obtain ⟨q, hq⟩ := bound_den e
            exact .inr ⟨q, by simp [hx.2.1, hq]⟩
          · obtain ⟨q, hq⟩ := bound_den e
            exact .inr ⟨q, by simp [hx.2.2, hq]⟩
  case convert st dt x =>
    refine sound_bif fun ht => sound_core1 fun y e => ?_
    simp only [Bool.and_eq_true] at ht
    subst e; simp only [dens, List.cons.injEq, and_true] at hx
    exact sound_ex (by simp only [execOp, ho, hx]) (conv_ex hT H ht.1 ht.2)
  case range t x =>
    refine sound_bif fun ht => sound_core1 fun y e => ?_
    simp only [Bool.and_eq_true, beq_iff_eq] at ht
    subst e; simp only [dens, List.cons.injEq, and_true] at hx
    exact sound_ex (by simp only [execOp, ho, hx]) (rng_ex (hT t ht.1) ht.2 H)
  case next x str =>
    cases str with
    | false => exact sound_bad
    | true =>
      refine sound_core1 fun y e => ?_
      subst e; simp only [opds, dens, List.map_cons, List.map_nil, List.cons.injEq, and_true] at hx
      exact sound_ex (by simp only [execOp, ho, hx]) (next_ex H (ty := o.type))
  case extract x i =>
    refine sound_core1 fun y e => ?_
    subst e; simp only [dens, List.cons.injEq, and_true] at hx
    exact sound_ex (by simp only [execOp, ho, hx]) ext_runs.ex
  case call c =>
    simp only [core]
    cases hc : c.callee with
    | value f =>
      simp only [hc, List.map_cons] at hx ⊢
      unfold goR
      split
      · next g fi ca ys =>
        refine sound_bif fun hz => ?_
        simp only [Bool.and_eq_true, beq_iff_eq, Array.size_eq_zero_iff] at hz
        obtain ⟨rfl, rfl⟩ := hz
        simp only [dens, List.cons.injEq, den] at hx
        refine sound_go (vf := undef) hG H ho hc hx.1 ?_
        rw [← hx.2]; apply Array.ext'; simp
      · next g fi ca ys =>
        simp only [dens, List.cons.injEq, den] at hx
        refine sound_go (vf := undef) hG H ho hc hx.1 ?_
        apply Array.ext'
        simp [dens_eq] at hx ⊢
        rw [hx.2]
      · exact sound_bad
    | builtin b =>
      simp only [hc] at hx ⊢
      have hm : c.args.map a.eval = (dens xs).toArray := by rw [← hx]; apply Array.ext'; simp
      unfold bltR
      split
      · split
        · next t hts =>
          refine sound_bif fun ht => ?_
          have hT' := hT t ht
          have hat : c.argTypes = #[t] := by apply Array.ext'; simpa using hts
          have hex : execOp a.eval o = (do pure (.value (← Builtin.len_ #[t] o.type (dens xs).toArray))) := by
            simp [execOp, ho, resolve, hc, hat, hm, invoke, builtin]
          cases h1 : ((T t).sort == 1)
          · cases h3 : ((T t).sort == 3)
            · exact sound_bad
            · exact sound_ex hex (lenT_runs hT' (eq_of_beq h3)).ex
          · exact sound_ex hex (len_runs hT' (eq_of_beq h1)).ex
        · exact sound_bad
      · split
        · next t t' hts =>
          refine sound_bif fun ht => ?_
          simp only [Bool.and_eq_true, beq_iff_eq] at ht
          obtain ⟨⟨⟨⟨⟨rfl, h1⟩, h2⟩, h3⟩, h4⟩, h5⟩ := ht
          have hat : c.argTypes = #[t, t] := by apply Array.ext'; simpa using hts
          exact sound_ex (by simp [execOp, ho, resolve, hc, hat, hm, invoke, builtin]) (appR_ex (ty := o.type) hT H h1 h2 h3 h4 h5)
        · exact sound_bad
      · exact sound_ex (by simp [execOp, ho, resolve, hc, hm, invoke, builtin]) (max_runs (ts := c.argTypes) (ty := o.type)).ex
      · exact sound_ex (by simp [execOp, ho, resolve, hc, hm, invoke, builtin]) (min_runs (ts := c.argTypes) (ty := o.type)).ex
      · split
        · next t t' hts =>
          refine sound_bif fun ht => ?_
          simp only [Bool.and_eq_true, beq_iff_eq] at ht
          have hat : c.argTypes = #[t, t'] := by apply Array.ext'; simpa using hts
          exact sound_ex (by simp [execOp, ho, resolve, hc, hat, hm, invoke, builtin]) (copy_ex (ty := o.type) (t' := t') (hT t ht.1.1) ht.1.2 ht.2 H)
        · exact sound_bad
      · exact sound_bad
    | invoke r m => exact sound_bad
end sound
end En
end Go.Proofs.YtnpkmimbnjnicaaGreatDoor
/-
The engine: an operation of a region, with its guard, and regions that draw their order (for every seat).
-/
set_option linter.unusedSimpArgs false
set_option linter.unusedVariables false
namespace Go.Proofs.YtnpkmimbnjnicaaGreatDoor
namespace En
open Go Go.RowKit

def evalS (sl : List (Nat × SV)) : Operand → SV
  | .tmp t => look sl t
  | .const v => .v v
  | .func f => .v (.func (.func f) #[] #[])
  | .global g => .p g g 0
def mapS (sl : List (Nat × SV)) : List Operand → List SV
  | [] => []
  | x :: l => evalS sl x :: mapS sl l
def strip1 : SV → SV
  | .c _ x => x
  | x => x
def stripP1 : SV → Prop
  | .c g _ => g = true
  | _ => True
def known : SV → Bool
  | .un => false
  | .c _ _ => false
  | _ => true
def stripL : List SV → List SV
  | [] => []
  | x :: l => strip1 x :: stripL l
def stripP : List SV → Prop
  | [] => True
  | x :: l => stripP1 x ∧ stripP l
def allK : List SV → Bool
  | [] => true
  | x :: l => known x && allK l
def addVc (p : Prop) : Res → Res
  | .bad => .bad
  | .is vc x => .is (p ∧ vc) x
  | .put vc k c => .put (p ∧ vc) k c
  | .new vc f => .new (p ∧ vc) f
  | .val vc f => .val (p ∧ vc) f
  | .val2 vc f => .val2 (p ∧ vc) f
  | .app vc k f => .app (p ∧ vc) k f
  | .many vc f => .many (p ∧ vc) f
def pick3 (a b : SV) (pa pb : Prop) : SV → SV → SV → Res
  | .v (.bool p), .v (.bool x), .v (.bool y) => .is ((p = true → pa) ∧ (p = false → pb)) (.v (.bool (bif p then x else y)))
  | .v (.bool p), .v (.int k x), .v (.int k' y) => bif sameK k k' then .is ((p = true → pa) ∧ (p = false → pb)) (.v (.int k (bif p then x else y))) else .bad
  | .v (.bool p), .v (.bool x), .un => .is (p = true ∧ pa) (.v (.bool x))
  | .v (.bool p), .un, .v (.bool y) => .is (p = false ∧ pb) (.v (.bool y))
  | _, _, _ => .bad
def pickR : List SV → Res
  | [c, a, b] => addVc (stripP1 c) (pick3 a b (stripP1 a) (stripP1 b) (strip1 c) (strip1 a) (strip1 b))
  | _ => .bad
def opds' : Op → List Operand
  | .pick c a b => [c, a, b]
  | op => opds op
def coreS (T : TypeId → TI) (G : Gam) (H : Nat → Ch) (nx : Nat) (op : Op) (xs : List SV) : Res :=
  match op with
  | .pick _ _ _ => pickR xs
  | _ => bif allK (stripL xs) then addVc (stripP xs) (core T G H nx op (stripL xs)) else .bad
def grd (g : Bool) : Res → Res
  | .is vc x => .is (g = true → vc) (.c g x)
  | r => bif g then r else .is True (.c false .un)
def gval (want : Bool) : SV → Option Bool
  | .v (.bool p) => some (p == want)
  | .c h (.v (.bool p)) => some (h && (p == want))
  | _ => none
def dstAt : List Oper → Nat → Option Tmp
  | [], _ => none
  | o :: _, 0 => o.dst
  | _ :: l, n + 1 => dstAt l n
def lookO (sl : List (Nat × SV)) : Option Tmp → SV
  | some t => look sl t
  | none => .un
def grdO (r : Res) : Option Bool → Res
  | some g => grd g r
  | none => .bad
def guardV (all : List Oper) (sl : List (Nat × SV)) : Option (Nat × Bool) → Option (Option Bool)
  | none => none
  | some (j, want) => some (gval want (lookO sl (dstAt all j)))
def opG (r : Res) : Option (Option Bool) → Res
  | none => r
  | some g => grdO r g
def opR (T : TypeId → TI) (G : Gam) (all : List Oper) (H : Nat → Ch) (nx : Nat) (sl : List (Nat × SV)) (o : Oper) : Res :=
  opG (coreS T G H nx o.op (mapS sl (opds' o.op))) (guardV all sl o.guard)

def tmpsOf : List Operand → List Nat
  | [] => []
  | .tmp t :: l => t :: tmpsOf l
  | _ :: l => tmpsOf l
def reads (all : List Oper) (o : Oper) : List Nat :=
  tmpsOf (opds' o.op) ++ (match o.guard with | some (j, _) => (dstAt all j).toList | none => [])
section
variable {P : Program} {o : Oper} {a : Act} {O : Nat → Prop} {w w' w0 : World} {hp : Hp} {Q : Exit → Act → World → Prop} {sl sl' : List (Nat × SV)}
theorem addVc_vc {p : Prop} {r : Res} : (addVc p r).vc ↔ p ∧ r.vc := by cases r <;> simp [addVc, Res.vc]
theorem addVc_out {p : Prop} {r : Res} {u : Out} : (addVc p r).out u = r.out u := by cases r <;> rfl
theorem addVc_wr {p : Prop} {r : Res} : (addVc p r).wr = r.wr := by cases r <;> rfl
theorem sound_addVc {p : Prop} {r : Res} (h : p → Sound P o a w w0 hp Q r) : Sound P o a w w0 hp Q (addVc p r) := by
  intro hv
  obtain ⟨h1, h2⟩ := addVc_vc.1 hv
  have := h h1 h2
  simpa only [addVc_out, addVc_wr] using this
def Slots (sl : List (Nat × SV)) (a : Act) (ts : List Nat) : Prop := ∀ t ∈ ts, look sl t ≠ .un → a.tmps.getD t undef = den (look sl t)
theorem evalS_den {x : Operand} {ts : List Nat} (h : Slots sl a ts) (hx : ∀ t, x = .tmp t → t ∈ ts) (hk : evalS sl x ≠ .un) : a.eval x = den (evalS sl x) := by
  cases x with
  | tmp t => exact h t (hx t rfl) hk
  | _ => rfl
theorem strip_den {x : SV} (h : stripP1 x) : den (strip1 x) = den x := by
  cases x with
  | c g y => simp only [stripP1] at h; subst h; rfl
  | _ => rfl
theorem known_un {x : SV} (h : known (strip1 x) = true) : x ≠ .un := by rintro rfl; cases h
theorem tmpsOf_mem {l : List Operand} {t : Nat} : Operand.tmp t ∈ l ↔ t ∈ tmpsOf l := by
  induction l with
  | nil => simp [tmpsOf]
  | cons x l ih => cases x <;> simp [tmpsOf, ih]
theorem mapS_den {l : List Operand} {ts : List Nat} (h : Slots sl a ts) (hx : ∀ t ∈ tmpsOf l, t ∈ ts) (hk : allK (stripL (mapS sl l)) = true) (hp : stripP (mapS sl l)) : l.map a.eval = dens (stripL (mapS sl l)) := by
  induction l with
  | nil => rfl
  | cons x l ih =>
    simp only [mapS, stripL, allK, Bool.and_eq_true] at hk
    simp only [mapS, stripL, dens, List.map_cons]
    rw [ih (fun t ht => hx t (by cases x <;> simp [tmpsOf, ht])) hk.2 hp.2]
    congr 1
    rw [strip_den hp.1]
    exact evalS_den h (fun t e => hx t (by subst e; simp [tmpsOf])) (known_un hk.1)
theorem pick_sound {c x y : Operand} {ts : List Nat} (ho : o.op = .pick c x y) (h : Slots sl a ts) (hx : ∀ t ∈ tmpsOf [c, x, y], t ∈ ts) : Sound P o a w w0 hp Q (pickR (mapS sl [c, x, y])) := by
  have hm : ∀ z ∈ [c, x, y], ∀ t, z = .tmp t → t ∈ ts := fun z hz t e => hx t (tmpsOf_mem.1 (e ▸ hz))
  simp only [mapS, pickR]
  refine sound_addVc fun hc => ?_
  unfold pick3
  have key : ∀ (p : Bool) (pa : SV), strip1 (evalS sl c) = .v (.bool p) → (p = true → stripP1 (evalS sl x)) ∧ (p = false → stripP1 (evalS sl y)) →
      (den (strip1 (evalS sl x)) ≠ undef → den (strip1 (evalS sl y)) ≠ undef → strip1 (evalS sl x) ≠ .un → strip1 (evalS sl y) ≠ .un → ∀ v, (v = bif p then den (strip1 (evalS sl x)) else den (strip1 (evalS sl y))) →
        o.wp P a w (fun a' w' => a' = a.put o.dst v ∧ w' = w) Q) := by
    intro p pa hcp hv _ _ h1 h2 v e
    have ec : a.eval c = .bool p := by
      rw [evalS_den h (hm c (by simp)) (known_un (by rw [hcp]; rfl)), ← strip_den hc, hcp]; rfl
    refine wp_value (v := v) (w' := w) ?_ ⟨rfl, rfl⟩
    simp only [execOp, ho, ec, asBool, Sem.run_bind, Sem.run_pure, Result.andThen_ok]
    subst e
    cases p
    · have := strip_den (hv.2 rfl)
      simp only [cond_false, this]
      rw [evalS_den h (hm y (by simp)) (fun e => h2 (by rw [e]; rfl))]; rfl
    · have := strip_den (hv.1 rfl)
      simp only [cond_true, this]
      rw [evalS_den h (hm x (by simp)) (fun e => h1 (by rw [e]; rfl))]; rfl
  have key2 : ∀ (p : Bool) (z : Operand) (u : Bool), (z = bif p then x else y) → strip1 (evalS sl c) = .v (.bool p) → strip1 (evalS sl z) = .v (.bool u) → stripP1 (evalS sl z) → (∀ t, z = .tmp t → t ∈ ts) →
      o.wp P a w (fun a' w' => a' = a.put o.dst (.bool u) ∧ w' = w) Q := by
    intro p z u hz hcp hzu hs hzt
    have ec : a.eval c = .bool p := by
      rw [evalS_den h (hm c (by simp)) (known_un (by rw [hcp]; rfl)), ← strip_den hc, hcp]; rfl
    have ez : a.eval z = .bool u := by
      rw [evalS_den h hzt (known_un (by rw [hzu]; rfl)), ← strip_den hs, hzu]; rfl
    refine wp_value (v := .bool u) (w' := w) ?_ ⟨rfl, rfl⟩
    simp only [execOp, ho, ec, asBool, Sem.run_bind, Sem.run_pure, Result.andThen_ok]
    subst hz
    cases p
    · simp only [cond_false] at ez; simp [ez]
    · simp only [cond_true] at ez; simp [ez]
  split
  · next p u v e1 e2 e3 =>
    intro hv
    refine Oper.wp_mono ?_ (key p .un e1 hv (by rw [e2]; simp [den, undef]) (by rw [e3]; simp [den, undef]) (by rw [e2]; simp) (by rw [e3]; simp) (.bool (bif p then u else v)) (by rw [e2, e3]; cases p <;> rfl))
    rintro a' w' ⟨rfl, rfl⟩
    exact ⟨⟨0, none, 0, none, 0, mz⟩, rfl, .still (Below.refl _ _)⟩
  · next p k u k' v e1 e2 e3 =>
    refine sound_bif fun hk hv => ?_
    have hk := sameK_eq hk
    subst hk
    refine Oper.wp_mono ?_ (key p .un e1 hv (by rw [e2]; simp [den, undef]) (by rw [e3]; simp [den, undef]) (by rw [e2]; simp) (by rw [e3]; simp) (.int k (bif p then u else v)) (by rw [e2, e3]; cases p <;> rfl))
    rintro a' w' ⟨rfl, rfl⟩
    exact ⟨⟨0, none, 0, none, 0, mz⟩, rfl, .still (Below.refl _ _)⟩
  · next p u e1 e2 e3 =>
    rintro ⟨rfl, hv⟩
    refine Oper.wp_mono ?_ (key2 true x u rfl e1 e2 hv (hm x (by simp)))
    rintro a' w' ⟨rfl, rfl⟩
    exact ⟨⟨0, none, 0, none, 0, mz⟩, rfl, .still (Below.refl _ _)⟩
  · next p u e1 e2 e3 =>
    rintro ⟨rfl, hv⟩
    refine Oper.wp_mono ?_ (key2 false y u rfl e1 e3 hv (hm y (by simp)))
    rintro a' w' ⟨rfl, rfl⟩
    exact ⟨⟨0, none, 0, none, 0, mz⟩, rfl, .still (Below.refl _ _)⟩
  · exact sound_bad
theorem coreS_sound {T : TypeId → TI} {G : Gam} {nx : Nat} {ts : List Nat} (hT : TyAll P T) (hG : GOk P G) (H : HH w0 O hp w) (h : Slots sl a ts) (hx : ∀ t ∈ tmpsOf (opds' o.op), t ∈ ts) :
    Sound P o a w w0 hp Q (coreS T G (lookH hp) nx o.op (mapS sl (opds' o.op))) := by
  have gen : opds' o.op = opds o.op → Sound P o a w w0 hp Q (bif allK (stripL (mapS sl (opds o.op))) then addVc (stripP (mapS sl (opds o.op))) (core T G (lookH hp) nx o.op (stripL (mapS sl (opds o.op)))) else .bad) := by
    intro e
    rw [e] at hx
    exact sound_bif fun hk => sound_addVc fun hp' => core_sound hT hG H (mapS_den h hx hk hp')
  cases ho : o.op
  case pick c x y =>
    rw [ho] at hx
    exact pick_sound ho h hx
  all_goals
    have := gen (by rw [ho]; rfl)
    rw [ho] at this
    exact this
def Done (P : Program) (ops : Array Oper) (o : Oper) (a : Act) (w : World) (K : Act → World → Prop) (Q : Exit → Act → World → Prop) : Prop :=
  if Region.wanted o (yielded ops a.tmps) then o.wp P a w K Q else K (a.put o.dst undef) w
theorem dstAt_eq (l : List Oper) (j : Nat) : (l[j]?).bind (·.dst) = dstAt l j := by
  induction l generalizing j with
  | nil => rfl
  | cons x l ih => cases j <;> simp [dstAt, ih]
theorem yielded_of {ops : Array Oper} {j : Nat} {ts : List Nat} {want g : Bool} (h : Slots sl a ts) (hd : ∀ t, dstAt ops.toList j = some t → t ∈ ts) (hg : gval want (lookO sl (dstAt ops.toList j)) = some g) : (yielded ops a.tmps j == some want) = g := by
  have e : (ops[j]?).bind (·.dst) = dstAt ops.toList j := by rw [← dstAt_eq]; simp
  cases ht : dstAt ops.toList j with
  | none => rw [ht] at hg; cases hg
  | some t =>
    rw [ht] at hg e
    simp only [lookO] at hg
    have hv := h t (hd t ht)
    cases hl : look sl t <;> rw [hl] at hg hv <;> try (cases hg; done)
    case v x =>
      cases x <;> try (cases hg; done)
      case bool p =>
        cases hg
        have hv := hv (by simp)
        have : a.tmps[t]? = some (.bool p) := by
          rw [Array.getD_eq_getD_getElem?] at hv
          cases hq : a.tmps[t]? with
          | none => rw [hq] at hv; simp [den, undef] at hv
          | some y => rw [hq] at hv; simpa [den] using hv
        simp only [yielded, e, Option.bind_some, this]
        cases p <;> cases want <;> rfl
    case c q x =>
      cases x <;> try (cases hg; done)
      case v x =>
        cases x <;> try (cases hg; done)
        case bool p =>
          cases hg
          have hv := hv (by simp)
          cases q
          · simp only [den, cond_false] at hv
            have : ∀ b, a.tmps[t]? ≠ some (.bool b) := by
              intro b hb
              rw [Array.getD_eq_getD_getElem?, hb] at hv
              simp [undef] at hv
            have hn : yielded ops a.tmps j = none := by
              simp only [yielded, e, Option.bind_some]
              first | done | (generalize a.tmps[t]? = q at this; cases q with | none => rfl | some v => (cases v <;> first | rfl | exact absurd rfl (this _)))
            rw [hn]; rfl
          · have : a.tmps[t]? = some (.bool p) := by
              rw [Array.getD_eq_getD_getElem?] at hv
              cases hq : a.tmps[t]? with
              | none => rw [hq] at hv; simp [den, undef] at hv
              | some y => rw [hq] at hv; simpa [den] using hv
            simp only [yielded, e, Option.bind_some, this]
            cases p <;> cases want <;> rfl
theorem opR_sound {T : TypeId → TI} {G : Gam} {nx : Nat} {ops : Array Oper} (hT : TyAll P T) (hG : GOk P G) (H : HH w0 O hp w) (h : Slots sl a (reads ops.toList o))
    (hv : (opR T G ops.toList (lookH hp) nx sl o).vc) :
    Done P ops o a w (fun a' w' => ∃ u, a' = a.put o.dst (den ((opR T G ops.toList (lookH hp) nx sl o).out u).1) ∧ Stp w0 hp w (opR T G ops.toList (lookH hp) nx sl o).wr ((opR T G ops.toList (lookH hp) nx sl o).out u).2 w') Q := by
  have hc := coreS_sound (Q := Q) (o := o) (nx := nx) hT hG H h (fun t ht => by unfold reads; simp [ht])
  unfold opR at hv ⊢
  cases hgd : o.guard with
  | none =>
    rw [hgd] at hv
    simp only [guardV, opG] at hv ⊢
    unfold Done
    rw [if_pos (by simp [Region.wanted, hgd])]
    exact hc hv
  | some q =>
    obtain ⟨j, want⟩ := q
    rw [hgd] at hv
    simp only [guardV, opG] at hv ⊢
    cases hg : gval want (lookO sl (dstAt ops.toList j)) with
    | none => rw [hg] at hv; exact hv.elim
    | some g =>
      rw [hg] at hv
      have hy := yielded_of (ops := ops) h (j := j) (fun t ht => by unfold reads; simp [hgd, ht]) hg
      have hw : Region.wanted o (yielded ops a.tmps) = g := by simp only [Region.wanted, hgd]; exact hy
      simp only [grdO] at hv ⊢
      unfold Done
      rw [hw]
      generalize coreS T G (lookH hp) nx o.op (mapS sl (opds' o.op)) = r at hc hv
      cases r with
      | is vc x =>
        simp only [grd, Res.vc] at hv
        cases g
        · rw [if_neg (by simp)]
          exact ⟨⟨0, none, 0, none, 0, mz⟩, rfl, .still (Below.refl _ _)⟩
        · rw [if_pos rfl]
          exact hc (hv rfl)
      | _ =>
        cases g
        · rw [if_neg (by simp)]
          exact ⟨⟨0, none, 0, none, 0, mz⟩, rfl, .still (Below.refl _ _)⟩
        · rw [if_pos rfl]
          exact hc hv
end
end En
end Go.Proofs.YtnpkmimbnjnicaaGreatDoor
