/-
A range over a function, where iterators nest: contracts of iterators whose lists are known, and the law of the statement, at the outermost loop and within a round (for every seat).
-/
import Derived.RangeFuncNested
import Derived.RangeFuncBound
import Derived.RangeFuncLeaves
import Derived.WalkKit
import Derived.OwnWalkIn
import Derived.TacticsInMore
import Derived.Below
import Derived.Test.YtpkldfkmokeamaaGreatDoorProg
import Derived.LoopNIn
import Derived.LoopIn
import Derived.RangeFuncBox
import Derived.Shelf.Abstract
import Derived.Test.YtpkldfkmokeamaaGreatDoorRe2
import Derived.Maps.AppendAt
set_option linter.unusedSimpArgs false
set_option linter.unusedVariables false
namespace Go.Proofs.YtpkldfkmokeamaaGreatDoor
namespace Rf
open Go Go.RowKit
structure Kr (n₀ : Nat) (Bs : Nat → Prop) (Fr : Obj → Prop) (l : Nat) (W W' : World) : Prop where
  below : Below n₀ W W'
  same : ∀ (b : Nat) (o : Obj), W.heap[b]? = some o → ¬ Bs b → ¬ Fr o → (∀ r, o = Obj.loop r → l < b) → W'.heap[b]? = some o
structure St (k : Nat) (W W' : World) : Prop where
  below : Below k W W'
  same : ∀ (b : Nat) (o : Obj), W.heap[b]? = some o → (∀ r, o ≠ Obj.loop r) → (∀ r, o ≠ Obj.deferred r) → W'.heap[b]? = some o
variable {n₀ l l' k k' : Nat} {Bs : Nat → Prop} {Fr : Obj → Prop} {A B C W : World}
theorem Kr.refl (W : World) : Kr n₀ Bs Fr l W W := ⟨Below.refl _ _, fun _ _ h _ _ _ => h⟩
theorem Kr.trans (h : Kr n₀ Bs Fr l A B) (k : Kr n₀ Bs Fr l B C) : Kr n₀ Bs Fr l A C :=
  ⟨h.below.trans k.below, fun b o hb h1 h2 h3 => k.same b o (h.same b o hb h1 h2 h3) h1 h2 h3⟩
theorem Kr.up (h : Kr n₀ Bs Fr l A B) (hl : l ≤ l') : Kr n₀ Bs Fr l' A B :=
  ⟨h.below, fun b o hb h1 h2 h3 => h.same b o hb h1 h2 fun r e => Nat.lt_of_le_of_lt hl (h3 r e)⟩
theorem St.refl (W : World) : St k W W := ⟨Below.refl _ _, fun _ _ h _ _ => h⟩
theorem St.trans (h : St k A B) (g : St k B C) : St k A C := ⟨h.below.trans g.below, fun b o hb h1 h2 => g.same b o (h.same b o hb h1 h2) h1 h2⟩
theorem St.down (h : St k A B) (hk : k' ≤ k) : St k' A B := ⟨h.below.mono hk, h.same⟩
theorem lt_of {b : Nat} {o : Obj} (h : W.heap[b]? = some o) : b < W.heap.size := (Array.getElem?_eq_some_iff.1 h).1
theorem alloc_old {b : Nat} {o : Obj} (o' : Obj) (h : W.heap[b]? = some o) : (W.alloc o').heap[b]? = some o := (Below.heap_alloc W o' b (lt_of h)).trans h
theorem St.alloc (hk : k ≤ W.heap.size) (o : Obj) : St k W (W.alloc o) := ⟨(Below.refl _ _).alloc hk o, fun b o' h _ _ => alloc_old o h⟩
theorem Kr.alloc (hk : n₀ ≤ W.heap.size) (o : Obj) : Kr n₀ Bs Fr l W (W.alloc o) := ⟨(Below.refl _ _).alloc hk o, fun b o' h _ _ _ => alloc_old o h⟩
theorem Kr.loop_kept (h : Kr n₀ Bs Fr l A B) (hB : ¬ Bs l') (hF : ∀ r, ¬ Fr (.loop r)) (hl : l < l') {r : Loop} (hr : A.heap[l']? = some (.loop r)) : B.heap[l']? = some (.loop r) :=
  h.same l' _ hr hB (hF r) fun r' e => hl
theorem Kr.def_kept (h : Kr n₀ Bs Fr l A B) {D : Nat} (hB : ¬ Bs D) (hF : ∀ r, ¬ Fr (.deferred r)) {x : Option (List Deferred)} (hr : A.heap[D]? = some (.deferred x)) : B.heap[D]? = some (.deferred x) :=
  h.same D _ hr hB (hF x) fun r' e => by cases e
theorem St.of_below (h : Below W.heap.size W B) (hk : k ≤ W.heap.size) : St k W B := ⟨h.mono hk, fun b o hb _ _ => (h.block b (lt_of hb)).trans hb⟩
theorem Kr.of_below (h : Below W.heap.size W B) (hn : n₀ ≤ W.heap.size) : Kr n₀ Bs Fr l W B := ⟨h.mono hn, fun b o hb _ _ _ => (h.block b (lt_of hb)).trans hb⟩
theorem Kr.st (h : Kr n₀ Bs Fr l W A) (hs : St k A B) (hk : W.heap.size ≤ k) (hn : n₀ ≤ k) : Kr n₀ Bs Fr l W B :=
  ⟨h.below.trans (hs.below.mono hn), fun b o hb h1 h2 h3 => (hs.below.block b (Nat.lt_of_lt_of_le (lt_of hb) hk)).trans (h.same b o hb h1 h2 h3)⟩
theorem St.turn {r r' : Loop} (hk : k ≤ l) (h : W.heap[l]? = some (.loop r)) : St k W (W.putObj l (.loop r')) :=
  ⟨⟨rfl, rfl, rfl, by simp, fun b hb => World.putObj_heap_other (by omega)⟩, fun b o hb h1 h2 => by
    by_cases e : b = l
    · subst e; rw [h] at hb; cases hb; exact absurd rfl (h1 r)
    · rw [World.putObj_heap_other e]; exact hb⟩
theorem St.close {D : Nat} {x y : Option (List Deferred)} (hk : k ≤ D) (h : W.heap[D]? = some (.deferred x)) : St k W (W.putObj D (.deferred y)) :=
  ⟨⟨rfl, rfl, rfl, by simp, fun b hb => World.putObj_heap_other (by omega)⟩, fun b o hb h1 h2 => by
    by_cases e : b = D
    · subst e; rw [h] at hb; cases hb; exact absurd rfl (h2 x)
    · rw [World.putObj_heap_other e]; exact hb⟩
theorem Kr.turn {r r' : Loop} (hn : n₀ ≤ l) (h : W.heap[l]? = some (.loop r)) : Kr n₀ Bs Fr l W (W.putObj l (.loop r')) :=
  ⟨⟨rfl, rfl, rfl, by simp, fun b hb => World.putObj_heap_other (by omega)⟩, fun b o hb h1 h2 h3 => by
    by_cases e : b = l
    · subst e; rw [h] at hb; cases hb; exact absurd (h3 r rfl) (Nat.lt_irrefl _)
    · rw [World.putObj_heap_other e]; exact hb⟩
def Gives {α : Type} (P : Program) (gf : Nat) (lb : Array Value) (encs : α → Array Value) (n₀ : Nat) (Bs : Nat → Prop) (Fr : Obj → Prop) (xs : List α) (w : World) : Prop :=
  ∀ (l : Nat) (J : Nat → World → Prop) (W : World), Below w.heap.size w W → l < W.heap.size → (∀ i A B, J i A → St (l + 1) A B → J i B) →
    (∀ i x, xs[i]? = some x → ∀ m W1, J i W1 → YieldAt Fence.wide m P l (encs x) W1 fun e W' => e = .returned (.bool true) ∧ J (i + 1) W' ∧ Kr n₀ Bs Fr l W1 W') →
    J 0 W → Calls P gf (#[.func (.yield l) #[] #[]] ++ lb) W fun e W' => (∃ v, e = .returned v) ∧ J xs.length W'
def rdPost (n₀ : Nat) (Bs : Nat → Prop) (Fr : Obj → Prop) (l : Nat) (I : World → Prop) (W : World) : Exit → Act → World → Prop
  | .normal, _, W' => Kr n₀ Bs Fr l W W' ∧ W'.heap[l]? = W.heap[l]? ∧ I W'
  | _, _, _ => False
variable {P : Program}
theorem round_ok {m : Nat} {α : Type} {encs : α → Array Value} {x : α} {fn : FuncId} {tmps : Array Value} {ps : Array Tmp} {assign body : Code} {D : Nat} {rec : LoopState → Option Code → Loop}
    (hrec : rec = fun st pe => { state := st, pending := pe, fn, tmps, params := ps, assign, body, defers := D }) (hps : (encs x).size = ps.size) (hn : n₀ ≤ l)
    (I I' : World → Prop) (hI : ∀ A B, I A → St l A B → I B) (hI' : ∀ A B, I' A → St l A B → I' B) {a' : Act}
    (hassign : ∀ (W : World) (K : Act → World → Prop), K a' W →
      assign.wpIn (Fence.wide.inRound l) m P (Exit.then K (fun _ _ _ => False)) { tmps := (ps.zip (encs x)).foldl (fun t (p, v) => t.setIfInBounds p v) tmps, defers := [] } W)
    (hbody : ∀ W, I W → (∃ r, W.heap[l]? = some (.loop r)) → body.wpIn (Fence.wide.inRound l) m P (rdPost n₀ Bs Fr l I' W) a' W)
    {W : World} (hi : I W) (hl : W.heap[l]? = some (.loop (rec .ready none))) :
    YieldAt Fence.wide m P l (encs x) W fun e W' => e = .returned (.bool true) ∧ (I' W' ∧ W'.heap[l]? = some (.loop (rec .ready none))) ∧ Kr n₀ Bs Fr l W W' := by
  have hy := run_yield (P := P) (args := encs x) hl (by rw [hrec]; exact hps)
  rw [hrec] at hy
  refine ⟨fn, _, assign, body, hy, roundIn_of_wpIn trivial (hassign W _ ?_)⟩
  have hlt := lt_of hl
  refine ⟨_, run_beginRound hl (by rw [hrec]), ?_⟩
  have hl2 : (W.putObj l (.loop { rec .ready none with state := .busy })).heap[l]? = some (.loop { rec .ready none with state := .busy }) := World.putObj_heap_same hlt
  have hk2 : Kr n₀ Bs Fr l W (W.putObj l (.loop { rec .ready none with state := .busy })) := Kr.turn hn hl
  refine wpIn_mono (hbody _ (hI _ _ hi (St.turn (Nat.le_refl _) hl)) ⟨_, hl2⟩) ?_
  rintro e a3 W3 hp
  cases e with
  | normal =>
    obtain ⟨hk3, hr3, hi3⟩ := hp
    have hl3 := hr3.trans hl2
    have := run_endRound (P := P) none hl3
    refine ⟨_, _, this, rfl, ⟨hI' _ _ hi3 (St.turn (Nat.le_refl _) hl3), ?_⟩, (hk2.trans hk3).trans (Kr.turn hn hl3)⟩
    rw [World.putObj_heap_same (lt_of hl3), hrec]
    rfl
  | _ => exact hp.elim
theorem rf_out {m : Nat} {α : Type} {xs : List α} {encs : α → Array Value} {g : Operand} {ps : Array Tmp} {assign body : Code} {Q : Exit → Act → World → Prop} {a : Act} {w w0 : World} {gf : Nat} {lb : Array Value}
    (hg : a.eval g = .func (.func gf) #[] lb) (eg : ∀ args w, (callFunc gf args).run P w = .ok (.enter gf args) w)
    (hG : Gives P gf lb encs n₀ Bs Fr xs w0) (hb0 : Below w0.heap.size w0 w) (hn : n₀ ≤ w.heap.size) (hBs : ∀ b, Bs b → b < w.heap.size) (hFr : ∀ o, Fr o → o.isCells = true) (hps : ∀ x, (encs x).size = ps.size)
    (I : Nat → World → Prop) (hI : ∀ i A B, I i A → St (w.heap.size + 1) A B → I i B) (h0 : ∀ W1, Below w.heap.size w W1 → I 0 W1) (a₁ : α → Act)
    (hassign : ∀ (m : Nat) (x : α) (W : World) (K : Act → World → Prop), K (a₁ x) W →
      assign.wpIn (Fence.wide.inRound (w.heap.size + 1)) m P (Exit.then K (fun _ _ _ => False)) { tmps := (ps.zip (encs x)).foldl (fun t (p, v) => t.setIfInBounds p v) a.tmps, defers := [] } W)
    (hbody : ∀ i x, xs[i]? = some x → ∀ (m : Nat) W, I i W → (∃ r, W.heap[w.heap.size + 1]? = some (.loop r)) → body.wpIn (Fence.wide.inRound (w.heap.size + 1)) m P (rdPost n₀ Bs Fr (w.heap.size + 1) (I (i + 1)) W) (a₁ x) W)
    (hdone : ∀ W, I xs.length W → W.heap[w.heap.size]? = some (.deferred (some [])) → Q .normal { a with defers := { target := .collected w.heap.size, args := #[] } :: a.defers } W) :
    (Code.rangeFunc g ps assign body).wpIn Fence.wide m P Q a w := by
  refine wpIn_rangeFunc ?_
  intro fn hfn
  obtain ⟨rec, hrec⟩ : ∃ rec : LoopState → Option Code → Loop, rec = fun st pe => { state := st, pending := pe, fn, tmps := a.tmps, params := ps, assign, body, defers := w.heap.size } := ⟨_, rfl⟩
  obtain ⟨W1, hW1⟩ : ∃ W1, (w.alloc (.deferred (some []))).alloc (.loop (rec .ready none)) = W1 := ⟨_, rfl⟩
  have hs1 : (w.alloc (.deferred (some []))).heap.size = w.heap.size + 1 := World.size_alloc _ _
  have hL1 : W1.heap[w.heap.size + 1]? = some (.loop (rec .ready none)) := by
    rw [← hW1, ← hs1]; exact World.alloc_heap_new _ _
  have hK1 : W1.heap[w.heap.size]? = some (.deferred (some [])) := by
    rw [← hW1]; exact alloc_old _ (World.alloc_heap_new w _)
  have hb1 : Below w.heap.size w W1 := by
    rw [← hW1]; exact ((Below.refl _ w).alloc (Nat.le_refl _) _).alloc (by simp) _
  have nD : ¬ Bs w.heap.size := fun h => Nat.lt_irrefl _ (hBs _ h)
  refine ⟨w.heap.size + 1, [{ target := .collected w.heap.size, args := #[] }], W1, { target := .fn (.func gf) lb, args := #[.func (.yield (w.heap.size + 1)) #[] #[]] }, W1, gf,
    #[.func (.yield (w.heap.size + 1)) #[] #[]] ++ lb, W1, ?_, ?_, ?_, ?_, (fun h => by cases h), callsIn_wide.2 ?_⟩
  · rw [← hW1, hrec]; exact run_enterLoop_outer _ _ _ _ _
  · simp only [resolve, hg]
    simp [go_sem]
  · intro f' hf'; trivial
  · simp [invoke, go_sem, eg]
  · refine Calls.mono (hG (w.heap.size + 1)
      (fun i W => (I i W ∧ W.heap[w.heap.size + 1]? = some (.loop (rec .ready none))) ∧ W.heap[w.heap.size]? = some (.deferred (some [])))
      W1 (hb0.trans (hb1.mono hb0.size)) (lt_of hL1) ?_ ?_ ⟨⟨h0 _ hb1, hL1⟩, hK1⟩) ?_
    · rintro i A B ⟨⟨hi, hl⟩, hd⟩ hs
      exact ⟨⟨hI i A B hi (hs.down (by omega)), (hs.below.block _ (by omega)).trans hl⟩, (hs.below.block _ (by omega)).trans hd⟩
    · rintro i x hx m W ⟨⟨hi, hl⟩, hd⟩
      refine YieldAt.mono (round_ok hrec (hps x) (by omega) (I i) (I (i + 1)) (hI i) (hI (i + 1)) (hassign m x) (hbody i x hx m) hi hl) ?_
      rintro e W' ⟨he, hi', hk⟩
      exact ⟨he, ⟨hi', hk.def_kept nD (fun r h => by have := hFr _ h; cases this) hd⟩, hk⟩
    · rintro e W2 ⟨⟨v, rfl⟩, ⟨hi, hl⟩, hd⟩
      have h2 := run_endLoop (P := P) hl (by rw [hrec]; simp)
      have hp : (rec .ready none).pending = none := by rw [hrec]
      rw [hp] at h2
      exact ⟨none, _, h2, hdone _ (hI _ _ _ hi (St.turn (Nat.le_refl _) hl)) ((World.putObj_heap_other (by omega)).trans hd)⟩
theorem rf_in {m : Nat} {α : Type} {xs : List α} {encs : α → Array Value} {g : Operand} {ps : Array Tmp} {assign body : Code} {Q : Exit → Act → World → Prop} {a : Act} {w w0 : World} {gf : Nat} {lb : Array Value} {l₀ : Nat} {r₀ : Loop}
    (hl₀ : w.heap[l₀]? = some (.loop r₀)) (hg : a.eval g = .func (.func gf) #[] lb) (eg : ∀ args w, (callFunc gf args).run P w = .ok (.enter gf args) w)
    (hG : Gives P gf lb encs n₀ Bs Fr xs w0) (hb0 : Below w0.heap.size w0 w) (hn : n₀ ≤ w.heap.size) (hFr : ∀ o, Fr o → o.isCells = true) (hps : ∀ x, (encs x).size = ps.size)
    (I : Nat → World → Prop) (hI : ∀ i A B, I i A → St w.heap.size A B → I i B) (h0 : ∀ W1, Below w.heap.size w W1 → St w.heap.size w W1 → Kr n₀ Bs Fr l₀ w W1 → I 0 W1) (a₁ : α → Act)
    (hassign : ∀ (m : Nat) (x : α) (W : World) (K : Act → World → Prop), K (a₁ x) W →
      assign.wpIn (Fence.wide.inRound w.heap.size) m P (Exit.then K (fun _ _ _ => False)) { tmps := (ps.zip (encs x)).foldl (fun t (p, v) => t.setIfInBounds p v) a.tmps, defers := [] } W)
    (hbody : ∀ i x, xs[i]? = some x → ∀ (m : Nat) W, I i W → (∃ r, W.heap[w.heap.size]? = some (.loop r)) → body.wpIn (Fence.wide.inRound w.heap.size) m P (rdPost n₀ Bs Fr w.heap.size (I (i + 1)) W) (a₁ x) W)
    (hdone : ∀ W, I xs.length W → Q .normal a W) :
    (Code.rangeFunc g ps assign body).wpIn (Fence.wide.inRound l₀) m P Q a w := by
  refine wpIn_rangeFunc ?_
  intro fn hfn
  obtain ⟨rec, hrec⟩ : ∃ rec : LoopState → Option Code → Loop, rec = fun st pe => { state := st, pending := pe, fn, tmps := a.tmps, params := ps, assign, body, defers := r₀.defers } := ⟨_, rfl⟩
  obtain ⟨W1, hW1⟩ : ∃ W1, w.alloc (.loop (rec .ready none)) = W1 := ⟨_, rfl⟩
  have hL1 : W1.heap[w.heap.size]? = some (.loop (rec .ready none)) := by rw [← hW1]; exact World.alloc_heap_new w _
  have hb1 : Below w.heap.size w W1 := by rw [← hW1]; exact (Below.refl _ w).alloc (Nat.le_refl _) _
  have hs1 : St w.heap.size w W1 := by rw [← hW1]; exact St.alloc (Nat.le_refl _) _
  have hk1 : Kr n₀ Bs Fr l₀ w W1 := by rw [← hW1]; exact Kr.alloc hn _
  refine ⟨w.heap.size, [], W1, { target := .fn (.func gf) lb, args := #[.func (.yield w.heap.size) #[] #[]] }, W1, gf,
    #[.func (.yield w.heap.size) #[] #[]] ++ lb, W1, ?_, ?_, ?_, ?_, (fun h => by cases h), CallsIn.inRound l₀ (callsIn_wide.2 ?_)⟩
  · rw [← hW1, hrec]; exact run_enterLoop_inner hl₀ _ _ _ _ _
  · simp only [resolve, hg]
    simp [go_sem]
  · intro f' hf'; trivial
  · simp [invoke, go_sem, eg]
  · refine Calls.mono (hG w.heap.size (fun i W => I i W ∧ W.heap[w.heap.size]? = some (.loop (rec .ready none)))
      W1 (hb0.trans (hb1.mono hb0.size)) (lt_of hL1) ?_ ?_ ⟨h0 _ hb1 hs1 hk1, hL1⟩) ?_
    · rintro i A B ⟨hi, hl⟩ hs
      exact ⟨hI i A B hi (hs.down (by omega)), (hs.below.block _ (by omega)).trans hl⟩
    · rintro i x hx m W ⟨hi, hl⟩
      exact round_ok hrec (hps x) hn (I i) (I (i + 1)) (hI i) (hI (i + 1)) (hassign m x) (hbody i x hx m) hi hl
    · rintro e W2 ⟨⟨v, rfl⟩, hi, hl⟩
      have h2 := run_endLoop (P := P) hl (by rw [hrec]; simp)
      have hp : (rec .ready none).pending = none := by rw [hrec]
      rw [hp] at h2
      exact ⟨none, _, h2, hdone _ (hI _ _ _ hi (St.turn (Nat.le_refl _) hl))⟩
end Rf
end Go.Proofs.YtpkldfkmokeamaaGreatDoor
/-
slices.Backward over ints: its iterator's contract (for every seat that has it).
-/
set_option linter.unusedSimpArgs false
set_option linter.unusedVariables false
namespace Go.Proofs.YtpkldfkmokeamaaGreatDoor
namespace Rf
open Go Go.RowKit Go.Shelf
attribute [local go_sem] Oper.semAt_some
def backs (zs : List Int) : List (Int × Int) := (List.range zs.length).map fun i => (((zs.length - 1 - i : Nat) : Int), zs[zs.length - 1 - i]?.getD 0)
theorem backs_len (zs : List Int) : (backs zs).length = zs.length := by simp [backs]
theorem backs_at {zs : List Int} {i : Nat} (h : i < zs.length) : (backs zs)[i]? = some (((zs.length - 1 - i : Nat) : Int), zs[zs.length - 1 - i]?.getD 0) := by
  simp [backs, h]
set_option maxRecDepth 100000 in
set_option maxHeartbeats 2000000 in
theorem backward1 {n₀ : Nat} {Bs : Nat → Prop} {Fr : Obj → Prop} (l Bb : Nat) (A : Option Addr) (c : Nat) (zs : List Int) (hlen : zs.length ≤ 100000) (J : Nat → World → Prop) (W : World)
    (hbox : W.heap[Bb]? = some (.cells #[.slice A zs.length c] 31 (0, 0))) (hB : ¬ Bs Bb) (hF : ¬ Fr (.cells #[.slice A zs.length c] 31 (0, 0)))
    (hrow : zs.length ≠ 0 → ∃ b o, A = some ⟨b, o, none⟩ ∧ b < n₀ ∧ ∀ j, j < zs.length → W.cell? ⟨b, o + j, none⟩ = some (.int .i64 (zs[j]?.getD 0)))
    (hY : ∀ i x, (backs zs)[i]? = some x → ∀ m W1, J i W1 → YieldAt Fence.wide m Tryz.prog l #[.int .i64 x.1, .int .i64 x.2] W1 fun e W' => e = .returned (.bool true) ∧ J (i + 1) W' ∧ Kr n₀ Bs Fr l W1 W') (h0 : J 0 W) :
    CallsIn Fence.wide 5 Tryz.prog 113 #[.func (.yield l) #[] #[], .pointer (some ⟨Bb, 0, none⟩)] W fun e W' => (∃ v, e = .returned v) ∧ J zs.length W' := by
  refine callsIn_of_wp Tryz.func113 rfl trivial ?_ rfl
  simp only [Tryz.ntmps113, List.size_toArray, List.length_cons, List.length_nil, Nat.reduceAdd, Nat.reduceSub, Array.replicate_succ, Array.replicate_zero, List.push_toArray, List.append_toArray, List.nil_append, List.cons_append]
  have hc0 := Boxed.cell (show Boxed W Bb _ _ from hbox)
  gi_wp2
  gi_loopw [3] (fun v wr => ∃ k : Nat, k ≤ zs.length ∧ v = .int .i64 ((k : Int) - 1) ∧ J (zs.length - k) wr ∧ Kr n₀ Bs Fr l W wr)
    (fun v _ => (intOf v + 1).toNat)
  case atStart => exact ⟨zs.length, Nat.le_refl _, rfl, by rw [Nat.sub_self]; exact h0, Kr.refl _⟩
  case round =>
    obtain ⟨k, hk, rfl, hJs, hkr⟩ := hrel
    have hbw := hkr.same Bb _ hbox hB hF (fun r e => by cases e)
    have hcw := Boxed.cell (show Boxed wr Bb _ _ from hbw)
    by_cases h1 : k = 0
    · subst h1
      gi_wp2
      go_end0
      exact ⟨⟨_, rfl⟩, by simpa using hJs⟩
    · obtain ⟨j, rfl⟩ : ∃ j, k = j + 1 := ⟨k - 1, by omega⟩
      obtain ⟨b, o, rfl, hbn, hcs⟩ := hrow (by omega)
      have hcx : wr.cell? ⟨b, o + j, none⟩ = some (.int .i64 (zs[j]?.getD 0)) := (hkr.below.cell (p := ⟨b, o + j, none⟩) hbn).trans (hcs j (by omega))
      have hidx : zs.length - 1 - (zs.length - (j + 1)) = j := by omega
      obtain ⟨fn, tmps, assign, body, hy, hR⟩ := hY (zs.length - (j + 1)) _ (backs_at (by omega)) 4 wr hJs
      rw [hidx] at hy
      dsimp only at hy
      have e1 : ((j + 1 : Nat) : Int) - 1 = (j : Int) := by omega
      rw [e1]
      gi_wp2
      refine hR.mono ?_
      rintro e W3 ⟨rfl, hJ3, hk3⟩
      gi_wp2
      go_roundw
      case rel => exact ⟨j, by omega, rfl, by rw [show zs.length - j = zs.length - (j + 1) + 1 by omega]; exact hJ3, hkr.trans hk3⟩
      case measure => simp [intOf]
theorem backs_gives {n₀ : Nat} {Bs : Nat → Prop} {Fr : Obj → Prop} (Bb : Nat) (A : Option Addr) (c : Nat) (zs : List Int) (hlen : zs.length ≤ 100000) (w : World) (hn : n₀ ≤ w.heap.size)
    (hbox : w.heap[Bb]? = some (.cells #[.slice A zs.length c] 31 (0, 0))) (hB : ¬ Bs Bb) (hF : ¬ Fr (.cells #[.slice A zs.length c] 31 (0, 0)))
    (hrow : zs.length ≠ 0 → ∃ b o, A = some ⟨b, o, none⟩ ∧ b < n₀ ∧ ∀ j, j < zs.length → w.cell? ⟨b, o + j, none⟩ = some (.int .i64 (zs[j]?.getD 0))) :
    Gives Tryz.prog 113 #[.pointer (some ⟨Bb, 0, none⟩)] (fun x : Int × Int => #[.int .i64 x.1, .int .i64 x.2]) n₀ Bs Fr (backs zs) w := by
  intro l J W hW hl hJ hY h0
  rw [backs_len]
  refine callsIn_wide.1 (backward1 l Bb A c zs hlen J W ((hW.block Bb (lt_of hbox)).trans hbox) hB hF (fun hz => ?_) hY h0)
  obtain ⟨b, o, e, hb, hc⟩ := hrow hz
  exact ⟨b, o, e, hb, fun j hj => (hW.cell (p := ⟨b, o + j, none⟩) (Nat.lt_of_lt_of_le hb hn)).trans (hc j hj)⟩
theorem backward_any (m : Nat) (A : Option Addr) (n c : Nat) (w : World) :
    CallsIn Fence.wide m Tryz.prog 81 #[.slice A n c] w fun e w' => e = .returned (.func (.func 113) #[] #[.pointer (some ⟨w.heap.size, 0, none⟩)]) ∧ w' = w.alloc (.cells #[.slice A n c] 31) := by
  refine callsIn_of_wp Tryz.func81 rfl trivial ?_ rfl
  simp only [Tryz.ntmps81, List.size_toArray, List.length_cons, List.length_nil, Nat.reduceAdd, Nat.reduceSub, Array.replicate_succ, Array.replicate_zero, List.push_toArray, List.append_toArray, List.nil_append, List.cons_append]
  gi_wp2
  go_ret
  exact ⟨rfl, rfl⟩
theorem evaluated_any (m : Nat) (t : Array Value) (ht : t.size = 4) (at_ : Int) (w : World) :
    CallsIn Fence.wide m Tryz.prog 57 #[.agg t, .int .i64 at_] w fun e w' => e = .returned (.func (.func 80) #[] #[.pointer (some ⟨w.heap.size, 0, none⟩), .pointer (some ⟨w.heap.size + 1, 0, none⟩)]) ∧
      w' = (w.alloc (.cells t 55)).alloc (.cells #[.int .i64 at_] 3) := by
  refine callsIn_of_wp Tryz.func57 rfl trivial ?_ rfl
  simp only [Tryz.ntmps57, List.size_toArray, List.length_cons, List.length_nil, Nat.reduceAdd, Nat.reduceSub, Array.replicate_succ, Array.replicate_zero, List.push_toArray, List.append_toArray, List.nil_append, List.cons_append]
  gi_wp2
  go_ret
  exact ⟨by simp, rfl⟩
end Rf
end Go.Proofs.YtpkldfkmokeamaaGreatDoor
/-
expr.tree's evaluated: its iterator gives the order (chapter 15).
-/
set_option linter.unusedSimpArgs false
set_option linter.unusedVariables false
namespace Go.Proofs.YtpkldfkmokeamaaGreatDoor
namespace Pr
open Go Go.RowKit Go.Shelf En Ex Rf
attribute [local go_sem] Oper.semAt_some
section
variable {α β : Type} {f : α → List β} {xs : List α} {i : Nat} {x : α}
theorem split_at (hx : xs[i]? = some x) : xs = xs.take i ++ x :: xs.drop (i + 1) := by
  obtain ⟨h1, h2⟩ := List.getElem?_eq_some_iff.1 hx
  rw [← h2, List.getElem_cons_drop, List.take_append_drop]
theorem flat_at (hx : xs[i]? = some x) {j : Nat} {y : β} (hj : (f x)[j]? = some y) : (xs.flatMap f)[((xs.take i).flatMap f).length + j]? = some y := by
  obtain ⟨h1, _⟩ := List.getElem?_eq_some_iff.1 hj
  have e : xs.flatMap f = (xs.take i).flatMap f ++ (f x ++ (xs.drop (i + 1)).flatMap f) := by
    conv => lhs; rw [split_at hx]
    rw [List.flatMap_append, List.flatMap_cons]
  rw [e, List.getElem?_append_right (by omega), Nat.add_sub_cancel_left, List.getElem?_append_left h1]
  exact hj
theorem flat_step (hx : xs[i]? = some x) : ((xs.take (i + 1)).flatMap f).length = ((xs.take i).flatMap f).length + (f x).length := by
  obtain ⟨h1, h2⟩ := List.getElem?_eq_some_iff.1 hx
  rw [List.take_succ_eq_append_getElem h1, List.flatMap_append, List.length_append, h2, List.flatMap_singleton]
end
def ksI (l : List Nd) (a : Nat) : List Int := (kidsP l.length (Ms l) (Ks l) a).map fun p : Nat => (p : Int)
theorem backs_snd (zs : List Int) : (backs zs).map Prod.snd = zs.reverse := by
  apply List.ext_getElem
  · simp [backs_len]
  · intro i h1 h2
    have h3 : i < zs.length := by simpa using h2
    simp only [backs, List.map_map, List.getElem_map, List.getElem_range, Function.comp, List.getElem_reverse]
    rw [List.getElem?_eq_getElem (by omega)]; rfl
theorem backs_kid {l : List Nd} (hg : Good l) {a : Nat} (ha : Whole l.length (Ms l) (Ks l) a) {i : Nat} {x : Int × Int} (h : (backs (ksI l a))[i]? = some x) : ∃ p : Nat, x.2 = (p : Int) ∧ a < p ∧ Whole l.length (Ms l) (Ks l) p := by
  have hm : x.2 ∈ (backs (ksI l a)).map Prod.snd := List.mem_map_of_mem (List.mem_of_getElem? h)
  rw [backs_snd, List.mem_reverse, ksI, List.mem_map] at hm
  obtain ⟨p, hp, e⟩ := hm
  exact ⟨p, e.symm, (kidsP_in hg.fine hp).1, (ha.kids hg.fine).2.1 p hp⟩
theorem ordI_rec {l : List Nd} (hg : Good l) {a : Nat} (ha : a < l.length) : ordI l a = ((backs (ksI l a)).flatMap fun x => ordI l x.2.toNat) ++ [(a : Int)] := by
  have e1 : ((backs (ksI l a)).flatMap fun x => ordI l x.2.toNat) = (((backs (ksI l a)).map Prod.snd).flatMap fun x => ordI l x.toNat) := by
    rw [List.flatMap_map]
  rw [e1, backs_snd, ksI, ← List.map_reverse, List.flatMap_map, ordI, Ord_rec (M := Ms l) hg.fine ha, List.map_append, List.map_flatMap]
  simp only [Int.toNat_natCast, List.map_cons, List.map_nil]
  rfl
def KTab (l : List Nd) (n₀ b o : Nat) (W : World) : Prop := b < n₀ ∧ ∀ i, i < l.length → ∃ A c, W.cell? ⟨b, o + i, none⟩ = some (.slice A (ksI l i).length c) ∧
  ((ksI l i).length ≠ 0 → ∃ b' o', A = some ⟨b', o', none⟩ ∧ b' < n₀ ∧ ∀ j, j < (ksI l i).length → W.cell? ⟨b', o' + j, none⟩ = some (.int .i64 ((ksI l i)[j]?.getD 0)))
theorem KTab.below {l : List Nd} {n₀ b o : Nat} {A B : World} (h : KTab l n₀ b o A) (hb : Below n₀ A B) : KTab l n₀ b o B := by
  refine ⟨h.1, fun i hi => ?_⟩
  obtain ⟨A', c, h1, h2⟩ := h.2 i hi
  refine ⟨A', c, (hb.cell (p := ⟨b, o + i, none⟩) h.1).trans h1, fun hn => ?_⟩
  obtain ⟨b', o', e, h3, h4⟩ := h2 hn
  exact ⟨b', o', e, h3, fun j hj => (hb.cell (p := ⟨b', o' + j, none⟩) h3).trans (h4 j hj)⟩
def FrI : Obj → Prop := fun o => ∃ a, o = .cells a 3 (0, 0) ∧ a.size ≠ 1
theorem FrI_cells (o : Obj) (h : FrI o) : o.isCells = true := by obtain ⟨a, rfl, _⟩ := h; rfl
theorem FrI_box (v : Value) : ¬ FrI (.cells #[v] 3 (0, 0)) := by rintro ⟨a, e, h⟩; cases e; exact h rfl
theorem FrI_ne {a : Array Value} {t : TypeId} (ht : t ≠ 3) : ¬ FrI (.cells a t (0, 0)) := by rintro ⟨a', e, h⟩; cases e; exact ht rfl
theorem cell_blk {W : World} {b : Nat} {cs : Array Value} {t : TypeId} (h : W.heap[b]? = some (.cells cs t (0, 0))) {j : Nat} {v : Value} (hj : cs[j]? = some v) : W.cell? ⟨b, j, none⟩ = some v := by
  simp [World.cell?, h, hj]
set_option maxRecDepth 100000 in
set_option maxHeartbeats 4000000 in
theorem evs (l : List Nd) (hg : Good l) (n₀ b o cK : Nat) (e d nn : Value) (Bs : Nat → Prop) : ∀ (D a : Nat), l.length ≤ a + D → Whole l.length (Ms l) (Ks l) a → ∀ (bt ba : Nat) (w : World),
    w.heap[bt]? = some (.cells #[e, d, .slice (some ⟨b, o, none⟩) l.length cK, nn] 55 (0, 0)) → w.heap[ba]? = some (.cells #[.int .i64 a] 3 (0, 0)) → ¬ Bs bt → ¬ Bs ba → (∀ b, Bs b → b < w.heap.size) →
    n₀ ≤ w.heap.size → KTab l n₀ b o w →
    Gives Tryz.prog 80 #[.pointer (some ⟨bt, 0, none⟩), .pointer (some ⟨ba, 0, none⟩)] (fun x : Int => #[.int .i64 x]) n₀ Bs FrI (ordI l a) w := by
  intro D
  induction D with
  | zero => intro a h hw; have := hw.lt; omega
  | succ D ih =>
    intro a hD hw bt ba w hbt hba nbt nba hBs hn hK l' J W hW hl hJ hY h0
    have hal := hw.lt
    replace hbt := (hW.block bt (lt_of hbt)).trans hbt
    replace hba := (hW.block ba (lt_of hba)).trans hba
    replace hK := hK.below (hW.mono hn)
    have hnW : n₀ ≤ W.heap.size := Nat.le_trans hn hW.size
    have hBsW : ∀ b, Bs b → b < W.heap.size := fun b h => Nat.lt_of_lt_of_le (hBs b h) hW.size
    have c2 : W.cell? ⟨bt, 2, none⟩ = some (.slice (some ⟨b, o, none⟩) l.length cK) := cell_blk hbt rfl
    have ca : W.cell? ⟨ba, 0, none⟩ = some (.int .i64 a) := cell_blk hba rfl
    obtain ⟨A, c, hk1, hk2⟩ := hK.2 a hal
    have hcap : l.length ≤ 100000 := hg.len
    have old : ∀ (o : Obj) {p : Addr} {v : Value}, W.cell? p = some v → p.block < W.heap.size → (W.alloc o).cell? p = some v := fun o p v h hl => (((Below.refl W.heap.size W).alloc (Nat.le_refl _) o).cell hl).trans h
    have c2' := old (.cells #[.func (.yield l') #[] #[]] 103) c2 (lt_of hbt)
    have ca' := old (.cells #[.func (.yield l') #[] #[]] 103) ca (lt_of hba)
    have ck' := old (.cells #[.func (.yield l') #[] #[]] 103) hk1 (Nat.lt_of_lt_of_le hK.1 hnW)
    refine (callsIn_wide (n := 5)).1 (callsIn_of_wp_marks Tryz.func80 rfl trivial ?_ rfl)
    simp only [Tryz.ntmps80, List.size_toArray, List.length_cons, List.length_nil, Nat.reduceAdd, Nat.reduceSub, Array.replicate_succ, Array.replicate_zero, List.push_toArray, List.append_toArray, List.nil_append, List.cons_append]
    gi_wp2_with (refine ⟨trivial, ?_⟩; gi_at_call 81; refine (backward_any _ _ _ _ _).mono ?_; rintro e w' ⟨rfl, rfl⟩)
    have hyo : ∀ (o : Obj), (W.alloc o).heap[W.heap.size]? = some o := fun o => World.alloc_heap_new W o
    have hsz : ((W.alloc (.cells #[.func (.yield l') #[] #[]] 103)).alloc (.cells #[.slice A (ksI l a).length c] 31)).heap.size = W.heap.size + 2 := by simp
    have hb2 : Below W.heap.size W ((W.alloc (.cells #[.func (.yield l') #[] #[]] 103)).alloc (.cells #[.slice A (ksI l a).length c] 31)) := ((Below.refl _ W).alloc (Nat.le_refl _) _).alloc (by simp) _
    have hyb : ((W.alloc (.cells #[.func (.yield l') #[] #[]] 103)).alloc (.cells #[.slice A (ksI l a).length c] 31)).heap[W.heap.size]? = some (.cells #[.func (.yield l') #[] #[]] 103 (0, 0)) := alloc_old _ (World.alloc_heap_new W _)
    have hsb : ((W.alloc (.cells #[.func (.yield l') #[] #[]] 103)).alloc (.cells #[.slice A (ksI l a).length c] 31)).heap[W.heap.size + 1]? = some (.cells #[.slice A (ksI l a).length c] 31 (0, 0)) := by
      have := World.alloc_heap_new (W.alloc (.cells #[.func (.yield l') #[] #[]] 103)) (.cells #[.slice A (ksI l a).length c] 31 (0, 0))
      rwa [World.size_alloc] at this
    generalize hW2 : (W.alloc (.cells #[.func (.yield l') #[] #[]] 103)).alloc (.cells #[.slice A (ksI l a).length c] 31) = W2 at hsz hb2 hyb hsb ⊢
    clear hW2 hyo c2' ca' ck' old
    have hkl : (ksI l a).length ≤ 100000 := by
      rw [ksI, List.length_map, (hw.kids hg.fine).2.2]
      have := M_lt hg hal
      omega
    have hbt2 := (hb2.block bt (lt_of hbt)).trans hbt
    have hba2 := (hb2.block ba (lt_of hba)).trans hba
    have hK2 := hK.below (hb2.mono hnW)
    have hBs2 : ∀ b, Bs b → b < W2.heap.size := fun b h => by have := hBsW b h; omega
    obtain ⟨off, hoff⟩ : ∃ off : Nat → Nat, ∀ i, off i = (((backs (ksI l a)).take i).flatMap fun x => ordI l x.2.toNat).length := ⟨_, fun _ => rfl⟩
    have off0 : off 0 = 0 := by rw [hoff]; simp
    refine rf_out (gf := 113) (lb := #[.pointer (some ⟨W.heap.size + 1, 0, none⟩)]) (xs := backs (ksI l a)) (n₀ := n₀) (Bs := Bs) (Fr := FrI) rfl (enters_of Tryz.func113 (by kernel_rfl) rfl)
      (backs_gives (W.heap.size + 1) A c (ksI l a) hkl W2 (by omega) hsb (fun h => by have := hBsW _ h; omega) (FrI_ne (by decide)) (fun hz => ?row)) (Below.refl _ _) (by omega) hBs2 FrI_cells (fun _ => rfl)
      (fun i W' => J (off i) W' ∧ Kr n₀ Bs FrI l' W2 W') ?abid ?start
      (fun x => { tmps := #[.func (.yield l') #[] #[], .pointer (some ⟨bt, 0, none⟩), .pointer (some ⟨ba, 0, none⟩), .pointer (some ⟨W.heap.size, 0, none⟩), undef, .int .i64 x.2, undef, .pointer (some ⟨bt, 2, none⟩),
          .slice (some ⟨b, o, none⟩) l.length cK, .int .i64 a, .pointer (some ⟨b, o + a, none⟩), .slice A (ksI l a).length c, .func (.func 113) #[] #[.pointer (some ⟨W.heap.size + 1, 0, none⟩)], .int .i64 x.1, .int .i64 x.2,
          undef, undef, undef, undef, undef, undef, undef, undef, undef, undef, undef], defers := [] }) ?assign ?body ?done
    case row =>
      obtain ⟨A', c', h1, h2⟩ := hK2.2 a hal
      obtain ⟨A'', c'', h3, h4⟩ := hK.2 a hal
      rw [hk1] at h3
      have e3 := (hb2.cell (p := ⟨b, o + a, none⟩) (Nat.lt_of_lt_of_le hK.1 hnW)).trans hk1
      rw [e3] at h1
      cases h1
      exact h2 hz
    case abid =>
      rintro i A B ⟨hj, hk⟩ hs
      exact ⟨hJ _ A B hj (hs.down (by omega)), hk.st hs (by omega) (by omega)⟩
    case start =>
      intro W1 hb1
      have hbw := hb2.trans (hb1.mono hb2.size)
      exact ⟨by rw [off0]; exact hJ 0 W W1 h0 (St.of_below hbw (by omega)), Kr.of_below hb1 (by omega)⟩
    case assign =>
      rintro m x W' K hK
      gi_wp2
      exact hK
    case body =>
      rintro i ⟨x1, x2⟩ hx m W3 ⟨hj, hk⟩ ⟨r, hr⟩
      obtain ⟨p, hp, hap, hwp⟩ := backs_kid hg hw hx
      obtain rfl : x2 = (p : Int) := hp
      have hstep := flat_step (f := fun x : Int × Int => ordI l x.2.toNat) hx
      rw [← hoff, ← hoff] at hstep
      have hbt3 := hk.same bt _ hbt2 nbt (FrI_ne (by decide)) (fun r e => by cases e)
      have hba3 := hk.same ba _ hba2 nba (FrI_box _) (fun r e => by cases e)
      have hyb3 := hk.same W.heap.size _ hyb (fun h => by have := hBsW _ h; omega) (FrI_ne (by decide)) (fun r e => by cases e)
      have c0 : W3.cell? ⟨bt, 0, none⟩ = some e := cell_blk hbt3 rfl
      have c1 : W3.cell? ⟨bt, 1, none⟩ = some d := cell_blk hbt3 rfl
      have c2 : W3.cell? ⟨bt, 2, none⟩ = some (.slice (some ⟨b, o, none⟩) l.length cK) := cell_blk hbt3 rfl
      have c3 : W3.cell? ⟨bt, 3, none⟩ = some nn := cell_blk hbt3 rfl
      rw [hsz] at hr ⊢
      gi_wp2_with (refine ⟨trivial, fun h => (by cases h), ?_⟩; gi_at_call 57; refine (CallsIn.inRound _ (evaluated_any _ #[e, d, .slice (some ⟨b, o, none⟩) l.length cK, nn] rfl _ _)).mono ?_; rintro e w' ⟨rfl, rfl⟩)
      have hsW3 : W.heap.size ≤ W3.heap.size := Nat.le_trans (Nat.le_trans hb2.size hk.below.size) (Nat.le_refl _)
      have hsz4 : ((W3.alloc (.cells #[e, d, .slice (some ⟨b, o, none⟩) l.length cK, nn] 55)).alloc (.cells #[.int .i64 (p : Int)] 3)).heap.size = W3.heap.size + 2 := by simp
      have hb4 : Below W3.heap.size W3 ((W3.alloc (.cells #[e, d, .slice (some ⟨b, o, none⟩) l.length cK, nn] 55)).alloc (.cells #[.int .i64 (p : Int)] 3)) := ((Below.refl _ W3).alloc (Nat.le_refl _) _).alloc (by simp) _
      have hbt4 : ((W3.alloc (.cells #[e, d, .slice (some ⟨b, o, none⟩) l.length cK, nn] 55)).alloc (.cells #[.int .i64 (p : Int)] 3)).heap[W3.heap.size]? = some (.cells #[e, d, .slice (some ⟨b, o, none⟩) l.length cK, nn] 55 (0, 0)) := alloc_old _ (World.alloc_heap_new W3 _)
      have hba4 : ((W3.alloc (.cells #[e, d, .slice (some ⟨b, o, none⟩) l.length cK, nn] 55)).alloc (.cells #[.int .i64 (p : Int)] 3)).heap[W3.heap.size + 1]? = some (.cells #[.int .i64 (p : Int)] 3 (0, 0)) := by
        have := World.alloc_heap_new (W3.alloc (.cells #[e, d, .slice (some ⟨b, o, none⟩) l.length cK, nn] 55)) (.cells #[.int .i64 (p : Int)] 3 (0, 0))
        rwa [World.size_alloc] at this
      generalize hW4 : (W3.alloc (.cells #[e, d, .slice (some ⟨b, o, none⟩) l.length cK, nn] 55)).alloc (.cells #[.int .i64 (p : Int)] 3) = W4 at hsz4 hb4 hbt4 hba4 ⊢
      clear hW4 c0 c1 c2 c3
      have hr4 := (hb4.block _ (lt_of hr)).trans hr
      have hyb4 := (hb4.block _ (lt_of hyb3)).trans hyb3
      have hK4 := hK2.below (hk.below.trans (hb4.mono (by omega)))
      refine rf_in (l₀ := W.heap.size + 2 + 1) (r₀ := r) (gf := 80) (lb := #[.pointer (some ⟨W3.heap.size, 0, none⟩), .pointer (some ⟨W3.heap.size + 1, 0, none⟩)]) (xs := ordI l p) (n₀ := n₀) (Bs := Bs) (Fr := FrI) hr4 rfl (enters_of Tryz.func80 (by kernel_rfl) rfl)
        (ih p (by omega) hwp W3.heap.size (W3.heap.size + 1) W4 hbt4 hba4 (fun h => by have := hBsW _ h; omega) (fun h => by have := hBsW _ h; omega) (fun b h => by have := hBsW _ h; omega) (by omega) hK4) (Below.refl _ _) (by omega) FrI_cells (fun _ => rfl)
        (fun j W' => J (off i + j) W' ∧ Kr n₀ Bs FrI l' W3 W') ?abid2 ?start2
        (fun x => { tmps := #[.func (.yield l') #[] #[], .pointer (some ⟨bt, 0, none⟩), .pointer (some ⟨ba, 0, none⟩), .pointer (some ⟨W.heap.size, 0, none⟩), undef, .int .i64 p, .int .i64 x, .pointer (some ⟨bt, 2, none⟩),
          .slice (some ⟨b, o, none⟩) l.length cK, .int .i64 a, .pointer (some ⟨b, o + a, none⟩), .slice A (ksI l a).length c, .func (.func 113) #[] #[.pointer (some ⟨W.heap.size + 1, 0, none⟩)], .int .i64 x1, .int .i64 p,
          .agg #[e, d, .slice (some ⟨b, o, none⟩) l.length cK, nn], .int .i64 p, .func (.func 80) #[] #[.pointer (some ⟨W3.heap.size, 0, none⟩), .pointer (some ⟨W3.heap.size + 1, 0, none⟩)], .int .i64 x, undef, undef, undef, undef, undef, undef, undef], defers := [] }) ?assign2 ?body2 ?done2
      case abid2 =>
        rintro j A B ⟨hj2, hk2'⟩ hs
        exact ⟨hJ _ A B hj2 (hs.down (by omega)), hk2'.st hs (by omega) (by omega)⟩
      case start2 =>
        intro W5 hb5 _ _
        have hbw := hb4.trans (hb5.mono hb4.size)
        exact ⟨hJ _ W3 W5 hj (St.of_below hbw (by omega)), Kr.of_below hbw (by omega)⟩
      case assign2 =>
        rintro m x W' K hK
        gi_wp2
        exact hK
      case body2 =>
        rintro j x hxj m W5 ⟨hj5, hk5⟩ ⟨r5, hr5⟩
        have hfl := flat_at (f := fun x : Int × Int => ordI l x.2.toNat) hx (j := j) (y := x) hxj
        rw [← hoff] at hfl
        obtain ⟨fn, tmps, assign, body, hy, hR⟩ := hY (off i + j) x (by rw [ordI_rec hg hal, List.getElem?_append_left (List.getElem?_eq_some_iff.1 hfl).1]; exact hfl) (m - 1) W5 hj5
        have cy := cell_blk (hk5.same W.heap.size _ hyb3 (fun h => by have := hBsW _ h; omega) (FrI_ne (by decide)) (fun r e => by cases e)) (j := 0) rfl
        gi_wp2
        refine ⟨fun h => (by cases h), RoundIn.mono (show RoundIn (Fence.wide.inRound _) _ _ _ _ _ _ _ _ _ from hR) ?_⟩
        rintro e W6 ⟨rfl, hj6, hk6⟩
        gi_wp2
        exact ⟨hk6.up (by omega), (hk6.loop_kept (fun h => by have := hBsW _ h; omega) (fun r h => by have := FrI_cells _ h; cases this) (by omega) hr5).trans hr5.symm, hj6, hk5.trans hk6⟩
      case done2 =>
        rintro W5 ⟨hj5, hk5⟩
        gi_wp2
        refine ⟨hk5.up (by omega), (hk5.loop_kept (fun h => by have := hBsW _ h; omega) (fun r h => by have := FrI_cells _ h; cases this) (by omega) hr).trans hr.symm, ?_, hk.trans hk5⟩
        rw [hstep]
        exact hj5
    case done =>
      rintro W3 ⟨hj, hk⟩ hd
      have hba3 := hk.same ba _ hba2 nba (FrI_box _) (fun r e => by cases e)
      have hyb3 := hk.same W.heap.size _ hyb (fun h => by have := hBsW _ h; omega) (FrI_ne (by decide)) (fun r e => by cases e)
      have ca3 := cell_blk hba3 (j := 0) rfl
      have cy3 := cell_blk hyb3 (j := 0) rfl
      have hend : (ordI l a)[off (backs (ksI l a)).length]? = some (a : Int) := by
        rw [ordI_rec hg hal, hoff, List.take_length, List.getElem?_append_right (Nat.le_refl _), Nat.sub_self]; rfl
      have hlen : (ordI l a).length = off (backs (ksI l a)).length + 1 := by
        rw [ordI_rec hg hal, List.length_append, hoff, List.take_length]; rfl
      obtain ⟨fn, tmps, assign, body, hy, hR⟩ := hY _ _ hend 4 W3 hj
      gi_wp2
      refine RoundIn.mono hR ?_
      rintro e W6 ⟨rfl, hj6, hk6⟩
      have hd6 := hk6.def_kept (fun h => by have := hBsW _ h; omega) (fun r h => by have := FrI_cells _ h; cases this) hd
      gi_wp2
      rw [hsz] at hd6
      refine ⟨by simp, .inl ⟨_, _, rfl, run_takeDeferred hd6, ?_⟩⟩
      rw [hlen]
      exact ⟨_, results_none rfl _ _ _, ⟨_, rfl⟩, hJ _ _ _ hj6 (St.close (by omega) hd6)⟩
end Pr
end Go.Proofs.YtpkldfkmokeamaaGreatDoor
/-
slices.Collect and slices.AppendSeq over ints, over whatever iterator gives a known list (for every seat that has them).
-/
set_option linter.unusedSimpArgs false
set_option linter.unusedVariables false
namespace Go.Proofs.YtpkldfkmokeamaaGreatDoor
namespace Pr
open Go Go.RowKit Go.Shelf En Ex Rf
attribute [local go_sem] Oper.semAt_some
theorem append_full {F : Fence} {n : Nat} {P : Program} (w : World) {ops : Array Oper} {rest : List Oper} {o : Oper} {a : Act} {Q : Exit → Act → World → Prop}
    (hg : o.guard = none) (s x : Operand) (t : TypeId) (hop : o.op = Op.call { callee := Callee.builtin Builtin.append, args := #[s, x], argTypes := #[t, t] })
    (base : Nat) (e : TypeId) (i : TypeInfo) (z : Value) (size bytes : Nat) (h1 : P.underlying t = some (.slice e)) (h2 : P.info? e = some i) (h3 : i.zero = some z) (h4 : i.size = size) (h5 : i.bytes = bytes) (h6 : z.cells.size = size) (h7 : 0 < size)
    (v : Value) (k : Nat) (xs : List Value) (hs : a.eval s = v) (hown : w.ownsRow base e size v k xs) (ad : Addr) (m c : Nat) (news : List Value) (hx : a.eval x = .slice (some ad) m c) (hn : news.length = m * size)
    (hc : ∀ j u, news[j]? = some u → w.cell? (ad.add j) = some u) (h1c : ∀ u ∈ news, u.oneCell' = true) (b1 : k + m ≤ maxLen) (b2 : (k + m) * bytes ≤ 140737488355328) (b3 : base ≤ w.heap.size)
    (hK : ∀ v' w', w'.ownsRow base e size v' (k + m) (xs ++ news) → w.grownBy w' v.ownBlock → (∀ g cap, v = .slice (some ⟨g, 0, none⟩) k cap → cap < k + m → w.grownBy w' none) → wpListIn F n P ops Q rest (a.put o.dst v') w') :
    wpListIn F n P ops Q (o :: rest) a w := by
  refine wpListIn_plain hg fun K hK' => ?_
  obtain ⟨v', w', hrun, r1, r2, r3⟩ := run_append_own (P := P) w base t o.type e i z size bytes h1 h2 h3 h4 h5 h6 h7 v k xs hown ad m c news hn hc h1c b1 b2 b3
  have r4 : ∀ g cap, v = .slice (some ⟨g, 0, none⟩) k cap → cap < k + m → w.grownBy w' none := by
    rintro g cap rfl hcap
    subst h4; subst h5
    have hr := run_append_grow (P := P) w t o.type e i z h1 h2 h3 ⟨g, 0, none⟩ k cap xs hown.1 (hown.cells (g := g) rfl) ad m c news hn hc hcap (by simp only [maxLen] at b1; omega) (growslice_fits (by omega) b2)
    rw [hrun] at hr
    cases hr
    exact ⟨rfl, rfl, rfl, by simp, fun j hj _ => heap_alloc_old w.drew _ j hj⟩
  unfold Oper.wpIn
  refine ⟨?_, ?_⟩
  · simp [Oper.about, hop, resolve, Target.leads, Sem.run_pure]
  · rw [Oper.semAt_plain F _ _ (by rw [hop]; intro c hc'; cases hc')]
    simp [execOp, hop, resolve, invoke, builtin, hs, hx, hrun, Result.andThen]
    exact hK' _ _ (hK v' w' r1 r2 r4)
theorem kr_append {W w1 : World} {n₀ B l k : Nat} {v v' : Value} {xs ys : List Value} {tmp : Obj} (hv : Boxed W B 31 v) (hrow : W.ownsRow n₀ 3 1 v k xs) (hnil : k = 0 → v = .slice none 0 0) (hn : n₀ ≤ W.heap.size) (hB : n₀ ≤ B)
    (hown' : w1.ownsRow n₀ 3 1 v' (k + 1) ys) (hgrow : (W.alloc tmp).grownBy w1 v.ownBlock) (hful : ∀ g cap, v = .slice (some ⟨g, 0, none⟩) k cap → cap < k + 1 → (W.alloc tmp).grownBy w1 none) :
    Kr n₀ (fun b => b = B) FrI l W (w1.setCell ⟨B, 0, none⟩ v') := by
  obtain ⟨_, _, _, hk, hb⟩ := hv.appended (by decide) hrow hn hB hown' hgrow
  refine ⟨hb, fun b o hbo h1 h2 h3 => ?_⟩
  have hlt := lt_of hbo
  have e1 : (w1.setCell ⟨B, 0, none⟩ v').heap[b]? = w1.heap[b]? := Below.heap_setCell _ _ _ _ h1
  have e2 : (W.alloc tmp).heap[b]? = some o := alloc_old _ hbo
  rw [e1]
  by_cases hvb : some b = v.ownBlock
  · rcases hrow.2 with ⟨rfl, _⟩ | ⟨g, cap, cur, rfl, _, hg, hkc, _, hcs, _⟩
    · simp [Value.ownBlock] at hvb
    · obtain rfl : b = g := by simpa [Value.ownBlock] using hvb
      rw [hg] at hbo
      cases hbo
      have hcap : cap = 1 := by
        by_cases hc : cap = 1
        · exact hc
        · exact absurd ⟨cur, rfl, by omega⟩ h2
      have hk0 : k ≠ 0 := fun h => by cases hnil h
      exact ((hful b cap rfl (by omega)).block b (by simp; omega) (by simp)).trans e2
  · exact (hgrow.block b (by simp; omega) hvb).trans e2
theorem info_int : (Tryz.prog.info? 3).map (fun i => (i.zero, i.size, i.bytes)) = some (some (.int .i64 0), 1, 8) := by kernel_rfl
set_option maxRecDepth 100000 in
set_option maxHeartbeats 4000000 in
theorem appendSeq_any (gf : Nat) (lb : Array Value) (xs : List Int) (hlen : xs.length ≤ 1000000) (eg : ∀ args w, (callFunc gf args).run Tryz.prog w = .ok (.enter gf args) w) (w : World)
    (hG : Gives Tryz.prog gf lb (fun x : Int => #[.int .i64 x]) w.heap.size (fun b => b = w.heap.size) FrI xs (w.alloc (.cells #[.slice none 0 0] 31))) :
    Calls Tryz.prog 79 #[.slice none 0 0, .func (.func gf) #[] lb] w fun e w' => ∃ v, e = .returned v ∧ w'.ownsRow w.heap.size 3 1 v xs.length (xs.map (.int .i64)) ∧ Below w.heap.size w w' := by
  obtain ⟨i0, hi, hz0, hz1, hz2⟩ := info_parts info_int
  refine (callsIn_wide (n := 5)).1 (callsIn_of_wp_marks Tryz.func79 rfl trivial ?_ rfl)
  simp only [Tryz.ntmps79, List.size_toArray, List.length_cons, List.length_nil, Nat.reduceAdd, Nat.reduceSub, Array.replicate_succ, Array.replicate_zero, List.push_toArray, List.append_toArray, List.nil_append, List.cons_append]
  gi_wp2
  have hsz : (w.alloc (.cells #[.slice none 0 0] 31)).heap.size = w.heap.size + 1 := by simp
  have hbx : Boxed (w.alloc (.cells #[.slice none 0 0] 31)) w.heap.size 31 (.slice none 0 0) := Boxed.new w 31 _
  have hb1 : Below w.heap.size w (w.alloc (.cells #[.slice none 0 0] 31)) := (Below.refl _ w).alloc (Nat.le_refl _) _
  generalize hW1 : w.alloc (.cells #[.slice none 0 0] 31) = W1 at hG hsz hbx hb1 ⊢
  clear hW1
  refine rf_out (gf := gf) (lb := lb) (xs := xs) (n₀ := w.heap.size) (Bs := fun b => b = w.heap.size) (Fr := FrI) rfl eg hG (Below.refl _ _) (by omega) (fun b h => by omega) FrI_cells (fun _ => rfl)
    (fun i W' => (∃ v, Boxed W' w.heap.size 31 v ∧ W'.ownsRow w.heap.size 3 1 v i ((xs.take i).map (.int .i64)) ∧ (i = 0 → v = .slice none 0 0)) ∧ Below w.heap.size w W') ?abid ?start
    (fun x => { tmps := #[.slice none 0 0, .func (.func gf) #[] lb, .pointer (some ⟨w.heap.size, 0, none⟩), undef, .slice none 0 0, .int .i64 x, .func (.func gf) #[] lb, .int .i64 x, undef, undef, undef, undef, undef], defers := [] }) ?assign ?body ?done
  case abid =>
    rintro i A B ⟨⟨v, h1, h2, h3⟩, h4⟩ hs
    refine ⟨⟨v, hs.same _ _ h1 (fun r e => by cases e) (fun r e => by cases e), ?_, h3⟩, h4.trans (hs.below.mono (by omega))⟩
    rcases h2 with ⟨q1, q2 | ⟨g, cap, cur, rfl, q3, q4, q5⟩⟩
    · exact ⟨q1, .inl q2⟩
    · exact ⟨q1, .inr ⟨g, cap, cur, rfl, q3, hs.same _ _ q4 (fun r e => by cases e) (fun r e => by cases e), q5⟩⟩
  case start =>
    intro W2 hb2
    exact ⟨⟨_, (hb2.block _ (by omega)).trans hbx, World.ownsRow_nil _ _ _ _, fun _ => rfl⟩, hb1.trans (hb2.mono (by omega))⟩
  case assign =>
    rintro m x W' K hK
    gi_wp2
    exact hK
  case body =>
    rintro i x hx m W ⟨⟨v, hv, hrow, hnil⟩, hB⟩ ⟨r, hr⟩
    have hi' := (List.getElem?_eq_some_iff.1 hx).1
    have hvc := hv.cell
    have hle := hB.size
    gi_wp2_with (gi_at_builtin; refine append_full _ rfl _ _ 31 rfl w.heap.size 3 i0 (.int .i64 0) 1 8 Tryz.underlying31 hi hz0 hz1 hz2 rfl (by decide) _ _ _ rfl (hrow.alloc _) ⟨W.heap.size, 0, none⟩ 1 1 [.int .i64 x] rfl rfl (cell_one_new _ _ _) (by simp [Value.oneCell']) (by simp only [maxLen]; omega) (by omega) (by simp; omega) ?_; intro v' w1 hown' hgrow hful; obtain ⟨g', cap', rfl⟩ := ownsRow_succ hown'; obtain ⟨hv1, hv2, hr2, hk2, hb2⟩ := hv.appended (by decide) hrow hle (Nat.le_refl _) hown' hgrow; have hkr := kr_append (l := W1.heap.size + 1) hv hrow hnil hle (Nat.le_refl _) hown' hgrow hful; have hc1 := hv1.cell; have hf1 := hv1.frozen)
    refine ⟨hkr, (hk2.same _ _ hr rfl).trans hr.symm, ⟨_, hv2, ?_, fun h => by omega⟩, hB.trans hb2⟩
    rw [List.take_succ_eq_append_getElem hi', List.map_append]
    rw [(List.getElem?_eq_some_iff.1 hx).2]
    exact hr2
  case done =>
    rintro W ⟨⟨v, hv, hrow, hnil⟩, hB⟩ hd
    have hvc := hv.cell
    gi_wp2
    refine ⟨by simp, .inl ⟨_, _, rfl, run_takeDeferred hd, ?_⟩⟩
    refine ⟨_, results_tmp rfl _ _ _, v, rfl, ?_, hB.trans ?_⟩
    · rw [List.take_length] at hrow
      exact ownsRow_putObj hrow _ hd rfl
    · exact belowK_b (w := w) (Nat.le_refl _) W _ _ _ (by omega) hd rfl rfl
theorem collect_any (gf : Nat) (lb : Array Value) (xs : List Int) (hlen : xs.length ≤ 1000000) (eg : ∀ args w, (callFunc gf args).run Tryz.prog w = .ok (.enter gf args) w) (w : World)
    (hG : Gives Tryz.prog gf lb (fun x : Int => #[.int .i64 x]) w.heap.size (fun b => b = w.heap.size) FrI xs (w.alloc (.cells #[.slice none 0 0] 31))) :
    Calls Tryz.prog 56 #[.func (.func gf) #[] lb] w fun e w' => ∃ v, e = .returned v ∧ w'.ownsRow w.heap.size 3 1 v xs.length (xs.map (.int .i64)) ∧ Below w.heap.size w w' := by
  refine (callsIn_wide (n := 5)).1 (callsIn_of_wp Tryz.func56 rfl trivial ?_ rfl)
  simp only [Tryz.ntmps56, List.size_toArray, List.length_cons, List.length_nil, Nat.reduceAdd, Nat.reduceSub, Array.replicate_succ, Array.replicate_zero, List.push_toArray, List.append_toArray, List.nil_append, List.cons_append]
  gi_wp2_with (refine ⟨trivial, ?_⟩; gi_at_call 79; refine ((callsIn_wide (n := 4)).2 (appendSeq_any gf lb xs hlen eg _ hG)).mono ?_; rintro e w' ⟨v, rfl, hrow, hb⟩)
  go_ret
  exact ⟨v, rfl, hrow, hb⟩
end Pr
end Go.Proofs.YtpkldfkmokeamaaGreatDoor
/-
expr.Order (chapter 15).
-/
set_option linter.unusedSimpArgs false
set_option linter.unusedVariables false
namespace Go.Proofs.YtpkldfkmokeamaaGreatDoor
namespace Pr
open Go Go.RowKit En
open Ex Rf
def spEval : Spc
  | [.agg ts, .v (.int .i64 a)], _, nx => .many (lenS ts = 4) fun M => (.fn (.func 80) [] [.p nx (M 0).2 0, .p (nx + 1) (M 1).2 0], [(nx, .blk (M 0).2 ts 55), (nx + 1, .blk (M 1).2 [.v (.int .i64 a)] 3)])
  | _, _, _ => .bad
theorem spEval_q {ts : List SV} {a : Int} {H : Nat → Ch} {nx : Nat} : spEval [.agg ts, .v (.int .i64 a)] H nx = .many (lenS ts = 4) fun M => (.fn (.func 80) [] [.p nx (M 0).2 0, .p (nx + 1) (M 1).2 0], [(nx, .blk (M 0).2 ts 55), (nx + 1, .blk (M 1).2 [.v (.int .i64 a)] 3)]) := rfl
theorem look2 {k j : Nat} {c d : Ch} : lookH [(k, c), (k + 1, d)] j = if j = k then c else if j = k + 1 then d else .no := by
  simp only [lookH]
  by_cases h1 : j = k
  · subst h1; simp
  · have : (k == j) = false := by simpa using fun h => h1 h.symm
    rw [this, if_neg h1]
    by_cases h2 : j = k + 1
    · subst h2; simp
    · have : (k + 1 == j) = false := by simpa using fun h => h2 h.symm
      rw [this, if_neg h2]; rfl
theorem has2 {k j : Nat} {c d : Ch} (h : has [(k, c), (k + 1, d)] j = true) : j = k ∨ j = k + 1 := by
  simp only [has] at h
  by_cases h1 : j = k
  · exact .inl h1
  · have : (k == j) = false := by simpa using fun h => h1 h.symm
    rw [this] at h
    by_cases h2 : j = k + 1
    · exact .inr h2
    · have : (k + 1 == j) = false := by simpa using fun h => h2 h.symm
      rw [this] at h; cases h
theorem spEval_ok : SpecOk Tryz.prog 57 spEval := by
  intro args hp nx w0 O w H hv
  unfold spEval at hv ⊢
  split at hv
  · next ts a =>
    have hv : lenS ts = 4 := hv
    rw [lenS_eq] at hv
    refine (callsIn_wide.1 (evaluated_any 5 (dens ts).toArray (by simp [dens_len, hv]) a w)).mono ?_
    rintro e w' ⟨rfl, rfl⟩
    refine ⟨⟨0, none, 0, none, 0, fun j => (none, w.heap.size + j)⟩, rfl, ?_⟩
    simp only [Res.out, Res.wr]
    have hb : Below w.heap.size w ((w.alloc (.cells (dens ts).toArray 55)).alloc (.cells #[.int .i64 a] 3)) := ((Below.refl _ w).alloc (Nat.le_refl _) _).alloc (by simp) _
    have h1 : ((w.alloc (.cells (dens ts).toArray 55)).alloc (.cells #[.int .i64 a] 3)).heap[w.heap.size]? = some (.cells (dens ts).toArray 55 (0, 0)) := alloc_old _ (World.alloc_heap_new w _)
    have h2 : ((w.alloc (.cells (dens ts).toArray 55)).alloc (.cells #[.int .i64 a] 3)).heap[w.heap.size + 1]? = some (.cells #[.int .i64 a] 3 (0, 0)) := by
      have := World.alloc_heap_new (w.alloc (.cells (dens ts).toArray 55)) (.cells #[.int .i64 a] 3 (0, 0))
      rwa [World.size_alloc] at this
    have hs := H.below.size
    refine ⟨hb.os, hb.tape, hb.output, hb.size, fun b hl _ => hb.block b hl, (by intro k hk; cases hk), fun k hk => ?_, fun k hk b hbf => .inl ?_, fun i j hne hi hj _ b hbi hbj => ?_⟩
    · rcases has2 hk with rfl | rfl
      · rw [look2, if_pos rfl]; exact ⟨hs, h1⟩
      · rw [look2, if_neg (by omega), if_pos rfl]; exact ⟨by omega, h2⟩
    · rcases has2 hk with rfl | rfl
      · rw [look2, if_pos rfl] at hbf
        have : b = w.heap.size + 0 := hbf
        omega
      · rw [look2, if_neg (by omega), if_pos rfl] at hbf
        have : b = w.heap.size + 1 := hbf
        omega
    · rcases has2 hi with rfl | rfl <;> rcases has2 hj with rfl | rfl
      · exact hne rfl
      · rw [look2, if_pos rfl] at hbi
        rw [look2, if_neg (by omega), if_pos rfl] at hbj
        have q1 : b = w.heap.size + 0 := hbi
        have q2 : b = w.heap.size + 1 := hbj
        omega
      · rw [look2, if_neg (by omega), if_pos rfl] at hbi
        rw [look2, if_pos rfl] at hbj
        have q1 : b = w.heap.size + 1 := hbi
        have q2 : b = w.heap.size + 0 := hbj
        omega
      · exact hne rfl
  · exact hv.elim
def tabR (l : List Nd) (A : Option Addr) (c : Nat) : Ch → Ch → Prop
  | .recs A' c' z n f, .deep _ n' z' B cp m f' => A' = A ∧ c' = c ∧ z = 1 ∧ n = l.length ∧ n' = l.length ∧ z' = 1 ∧ m = mN l 0 ∧ f' = kF l ∧ ∀ j, f j = [kV l 0 B cp j]
  | _, _ => False
def colR (l : List Nd) (H : Nat → Ch) (b1 b2 : Nat) : Ch → Ch → Prop
  | .blk c1 [_, _, .g kK A n c, _] t1, .blk c2 [.v (.int .i64 a)] t2 => c1 = b1 ∧ c2 = b2 ∧ t1 = 55 ∧ t2 = 3 ∧ a = 0 ∧ n = l.length ∧ tabR l A c (H kK) (H (kK + 2))
  | _, _ => False
theorem tabR_q {l : List Nd} {A : Option Addr} {c : Nat} {own : Bool} {B : Nat → Option Addr} {cp : Nat → Nat} : tabR l A c (.recs A c 1 l.length fun j => [kV l 0 B cp j]) (.deep own l.length 1 B cp (mN l 0) (kF l)) = True := by simp [tabR]
theorem colR_q {l : List Nd} {H : Nat → Ch} {b1 b2 kK n c t1 t2 : Nat} {x y z : SV} {A : Option Addr} {a : Int} : colR l H b1 b2 (.blk b1 [x, y, .g kK A n c, z] t1) (.blk b2 [.v (.int .i64 a)] t2) = (t1 = 55 ∧ t2 = 3 ∧ a = 0 ∧ n = l.length ∧ tabR l A c (H kK) (H (kK + 2))) := by simp [colR]
theorem kF_at {l : List Nd} {i r : Nat} (hr : r < (ksI l i).length) : (dens (kF l i r)).getD 0 undef = .int .i64 ((ksI l i)[r]?.getD 0) := by
  have h1 : r < (kidsP l.length (Ms l) (Ks l) i).length := by simpa [ksI] using hr
  rw [kF, cut_eq, ksI]
  simp [dens_eq, den, h1]
theorem tab_of {l : List Nd} {A : Option Addr} {c B0 : Nat} {x y : Ch} {w : World} (h : tabR l A c x y) (hx : Hold B0 w x) (hy : Hold B0 w y) (h0 : l.length ≠ 0) : ∃ b o, A = some ⟨b, o, none⟩ ∧ KTab l w.heap.size b o w := by
  unfold tabR at h
  split at h
  · next A' c' z n f own n' z' B cp m f' =>
    obtain ⟨rfl, rfl, rfl, rfl, rfl, rfl, rfl, rfl, hf⟩ := h
    obtain ⟨b, o, rfl, hb, hc⟩ := hx.1.2 h0
    refine ⟨b, o, rfl, hb, fun i hi => ?_⟩
    have h1 := hc i hi 0 (by omega)
    simp only [hf] at h1
    have hm : mN l 0 i = (ksI l i).length := by simp [mN, ksI, hi]
    have hd := (hy i hi).1.1
    rw [hm] at hd
    by_cases hz : (ksI l i).length = 0
    · refine ⟨none, 0, ?_, fun hn => absurd hz hn⟩
      rw [hz]
      have : kV l 0 B cp i = .v (.slice none 0 0) := by rw [kV, if_pos (by rw [hm]; exact hz)]
      rw [this] at h1
      simpa [dens, den] using h1
    · have : kV l 0 B cp i = .v (.slice (B i) (ksI l i).length (cp i)) := by rw [kV, if_neg (by rw [hm]; exact hz), hm]
      rw [this] at h1
      refine ⟨B i, cp i, by simpa [dens, den] using h1, fun hn => ?_⟩
      obtain ⟨b', o', e, hb', hcs⟩ := hd.2 hn
      refine ⟨b', o', e, hb', fun j hj => ?_⟩
      have h5 := hcs j hj 0 (by omega)
      dsimp only at h5
      rw [kF_at hj] at h5
      simpa using h5
  · exact h.elim
def spColl (l : List Nd) : Spc
  | [.fn (.func g) [] [.p k1 b1 0, .p k2 b2 0]], H, nx => .val (g = 80 ∧ colR l H b1 b2 (H k1) (H k2)) fun B d => (.g nx B (ordI l 0).length d, [(nx, .ints B d .i64 (ordI l 0))])
  | _, _, _ => .bad
theorem spColl_q {l : List Nd} {g k1 b1 k2 b2 : Nat} {H : Nat → Ch} {nx : Nat} : spColl l [.fn (.func g) [] [.p k1 b1 0, .p k2 b2 0]] H nx = .val (g = 80 ∧ colR l H b1 b2 (H k1) (H k2)) fun B d => (.g nx B (ordI l 0).length d, [(nx, .ints B d .i64 (ordI l 0))]) := rfl
theorem spColl_ok {l : List Nd} (hg : Good l) (hw : Whole l.length (Ms l) (Ks l) 0) : SpecOk Tryz.prog 56 (spColl l) := by
  intro args hp nx w0 O w H hv
  unfold spColl at hv ⊢
  split at hv
  · next g k1 b1 k2 b2 =>
    obtain ⟨rfl, h1⟩ := hv
    have e1 := H.hold k1
    have e2 := H.hold k2
    generalize lookH hp k1 = x1 at h1 e1
    generalize lookH hp k2 = x2 at h1 e2
    unfold colR at h1
    split at h1
    · next c1 v1 v2 kK A n c v4 t1 c2 a t2 =>
      obtain ⟨rfl, rfl, rfl, rfl, rfl, rfl, ht⟩ := h1
      have hl0 := hw.lt
      obtain ⟨b, o, rfl, hK⟩ := tab_of ht (H.hold _) (H.hold _) (by omega)
      have hlen := ordI_len hg hw
      have hcap := hg.len
      have hbt : (w.alloc (.cells #[.slice none 0 0] 31)).heap[c1]? = some (.cells #[den v1, den v2, .slice (some ⟨b, o, none⟩) l.length c, den v4] 55 (0, 0)) := alloc_old _ e1.2
      have hba : (w.alloc (.cells #[.slice none 0 0] 31)).heap[c2]? = some (.cells #[.int .i64 ((0 : Nat) : Int)] 3 (0, 0)) := alloc_old _ e2.2
      have q1 := lt_of e1.2
      have q2 := lt_of e2.2
      have hs1 : (w.alloc (.cells #[.slice none 0 0] 31)).heap.size = w.heap.size + 1 := by simp
      have hG := evs l hg w.heap.size b o c (den v1) (den v2) (den v4) (fun b => b = w.heap.size) l.length 0 (by omega) hw c1 c2 _ hbt hba (by omega) (by omega) (fun b h => by omega) (by omega) (hK.below ((Below.refl _ w).alloc (Nat.le_refl _) _))
      refine (collect_any 80 #[.pointer (some ⟨c1, 0, none⟩), .pointer (some ⟨c2, 0, none⟩)] (ordI l 0) (by omega) (enters_of Tryz.func80 (by kernel_rfl) rfl) w hG).mono ?_
      rintro e w' ⟨v, rfl, hr, hb⟩
      have hne : (ordI l 0).length ≠ 0 := by
        rw [ordI_rec hg hl0, List.length_append]; simp
      obtain ⟨gb, cp, cur, rfl, hgb, _⟩ := hr.2.resolve_left (fun h => hne h.2)
      refine ⟨⟨0, some ⟨gb, 0, none⟩, cp, none, 0, mz⟩, rfl, Stp.rd hb ⟨⟨?_, rfl⟩, trivial⟩ fun k b' hx => .inl ?_⟩
      · refine (row_sl hr).congr fun i hi j hj => ?_
        obtain rfl : j = 0 := by omega
        simp [List.getD_eq_getElem?_getD, hi]
      · refine foot_look (Q := fun b => w.heap.size ≤ b) (l := [(_, _)]) ⟨?_, trivial⟩ hx
        rintro b ⟨_, a, h, rfl⟩
        cases h
        exact hgb
    · exact h1.elim
  · exact hv.elim
def glOd (l : List Nd) : List (FuncId × Spc) := [(39, spChk), (57, spEval), (56, spColl l)]
theorem glOd_ok {l : List Nd} (hg : Good l) (hw : Whole l.length (Ms l) (Ks l) 0) : GOk Tryz.prog (lookG (glOd l)) := lG_cons (by kernel_rfl) spChk_ok <| lG_cons (by kernel_rfl) spEval_ok <| lG_cons (by kernel_rfl) (spColl_ok hg hw) lG_nil
theorem ck_old {O : Nat → Prop} {w0 w : World} {A : Option Addr} {n c k : Nat} {hp : Hp} (H : HH w0 O hp w) (h : ckR A n c k (lookH hp)) {l : List Nd} (hl : l = chL n (lookH hp k)) : ∃ bn on cn ba oa ca, 4 ≤ cn ∧ 3 ≤ ca ∧ l.length = n ∧
    allRd w.heap.size w ((1000, .recs A c 7 l.length (fun i => ndC (ndAt l i))) :: gHu bn on cn ba oa ca) ∧
    ∀ b, oldOf ((1000, .recs A c 7 l.length (fun i => ndC (ndAt l i))) :: gHu bn on cn ba oa ca) b → ∃ j, foot (lookH hp j) b ∧ mutb (lookH hp j) = false := by
  obtain ⟨h1, hn, hz, hG, hU⟩ := h
  obtain ⟨hll, hh⟩ := NdR_hold h1 (H.hold k)
  obtain ⟨bn, on, cn, ba, oa, ca, hr, h4, h3, hk⟩ := globR_ok H hG
  obtain ⟨u1, u2⟩ := globU_ok H hU
  obtain ⟨q4, q5⟩ := globU_eq hU
  obtain ⟨nf, nm⟩ := NdR_foot h1 (g := fun i => ndC (ndAt l i))
  rw [← hl] at hll hh
  refine ⟨bn, on, cn, ba, oa, ca, h4, h3, hll, ⟨⟨hh _, rfl⟩, ⟨u1, rfl⟩, ⟨u2, rfl⟩, hr⟩, ?_⟩
  rintro b ⟨k2, h2⟩
  have e : ∀ k, k < 4 → ∀ c, lookH (gHp bn on cn ba oa ca) k = c → mutb c = false → ∀ b, foot c b → ∃ j, foot (lookH hp j) b ∧ mutb (lookH hp j) = false := fun k hk4 c hc hm b hf => ⟨k, by rw [hk k hk4, hc]; exact hf, by rw [hk k hk4, hc]; exact hm⟩
  refine foot_look (l := (1000, .recs A c 7 l.length (fun i => ndC (ndAt l i))) :: gHu bn on cn ba oa ca) (Q := fun b => ∃ j, foot (lookH hp j) b ∧ mutb (lookH hp j) = false) ⟨fun b h => ⟨k, nf b (by rw [← hll]; exact h), nm⟩, fun b h => ⟨4, by rw [q4]; exact h, by rw [q4]; rfl⟩, fun b h => ⟨5, by rw [q5]; exact h, by rw [q5]; rfl⟩,
    e 0 (by decide) _ rfl rfl, e 1 (by decide) _ rfl rfl, e 2 (by decide) _ rfl rfl, e 3 (by decide) _ rfl rfl, trivial⟩ h2
theorem okL_ok {l : List Nd} (h : (chkV l).2 = 0) : okL l = l := by
  have h1 := chk_ok h
  obtain ⟨_, h2, h3⟩ := chk_tree h
  have e1 : EndR l.length (Ms l) (Ks l) 0 = l.length := h2
  have e2 : Dep l.length (Ms l) (Ks l) 0 ≤ 24 := h3
  rw [okL, if_pos]
  rw [h1.2.2.2, lastV, last_same h1.2.2.1.fine (by have := h1.1; omega), lastR, if_neg (by omega), if_neg (by omega), if_neg (by omega)]
  rfl
def odHp (l : List Nd) (A : Option Addr) (c bn on cn ba oa ca : Nat) : Hp := (1000, .recs A c 7 l.length (fun i => ndC (ndAt l i))) :: gHu bn on cn ba oa ca
def gOdE : List (FuncId × Spc) := [(39, spChk)]
theorem gOdE_ok : GOk Tryz.prog (lookG gOdE) := lG_cons (by kernel_rfl) spChk_ok lG_nil
set_option maxRecDepth 100000 in
set_option maxHeartbeats 4000000 in
theorem order_fine (l : List Nd) (h0 : (chkV l).2 = 0) (hlen : l.length ≤ 100000) (hz : zsN l) (A : Option Addr) (c : Nat) (bn on cn ba oa ca : Nat) (h4 : 4 ≤ cn) (h3 : 3 ≤ ca) (w : World) (h : allRd w.heap.size w (odHp l A c bn on cn ba oa ca)) :
    Calls Tryz.prog 24 #[.slice A l.length c] w (LsQ2 (oldOf (odHp l A c bn on cn ba oa ca)) (ordI l 0) 0 w) := by
  have d0 : ((chkV l).2 != 0) = false := by rw [h0]; rfl
  have hg := (chk_ok h0).2.2.1
  have hw := (chk_tree h0).1
  have hok := okL_ok h0
  have glx_ok := glOd_ok hg hw
  refine calls_go (args := [.g 1000 A l.length c]) (hp := odHp l A c bn on cn ba oa ca) (nx := 1001) (n := 1000) (U := []) (V := []) (tl := tlCk) (gl := glOd l) (post := LsP2 (ordI l 0) 0)
    followP tlCk_ok glx_ok Tryz.func24 rfl (by kernel_rfl) (Nat.le_of_ble_eq_true (by kernel_rfl)) (by kernel_rfl) (by kernel_rfl) (hh_list h) (free_list (by simp [allLt, odHp, gHu, gHp])) ?_ ?_
  · exact fun s ys w' hp H => LsP2_Q hp H
  intro L F T G nd va hE
  obtain ⟨hL, hF, hs, hv, hT, hG, hR, hI, hJ, hW⟩ := hE
  rw [Tryz.results24] at hF
  simp (maxSteps := 1000000) only [En.nN, En.E, En.evsC, List.map_cons, List.map_nil, Nat.reduceBEq, Nat.reduceAdd, Nat.reduceMul, Nat.reduceEqDiff, Nat.reduceLeDiff, Nat.reduceLT, ne_eq, reduceCtorEq, Int.reduceBEq, Int.reduceBNe, Int.reduceAdd, Int.reduceSub, Int.reduceMul, Int.reduceNeg, Nat.reduceBNe, Int.reduceToNat, Nat.reduceSub, Int.reduceLE, Int.reduceLT] at hv
  simp only [En.at_nil, En.at_cons, En.ag_nil, En.ag_cons, and_true, tlCk, glOd, tyInt, tyI64, tyBool, tyStr, tyErr, tyNode, tyNodes, tyInts, tyRows, tyBools, tyTree] at hT hG
  simp (maxSteps := 10000000) only [En.E, En.evsC, List.map_cons, List.map_nil, Nat.reduceBEq, Nat.reduceAdd, Nat.reduceMul, Nat.reduceEqDiff, Nat.reduceLeDiff, Nat.reduceLT, ne_eq, reduceCtorEq, Int.reduceBEq, Int.reduceBNe, Int.reduceAdd, Int.reduceSub, Int.reduceMul, Int.reduceNeg, Nat.reduceBNe, Int.reduceToNat, Nat.reduceSub, Int.reduceLE, Int.reduceLT, En.vV, hs, hv, hT, hG, hF, odHp, gHu, gHp, d0, h0, spChk_q, ckR, NdR_q, chL_q, globR_q, globU_q, hlen, hz, h4, h3, hok, grV, grUps, spEval_q, spColl_q, colR_q, tabR_q, En.lenS]
  exact fun M b M1 B d => .inr ⟨rfl, 3049, B, d, rfl, rfl⟩
set_option maxRecDepth 100000 in
set_option maxHeartbeats 4000000 in
theorem order_bad (l : List Nd) (h0 : (chkV l).2 ≠ 0) (hlen : l.length ≤ 100000) (hz : zsN l) (A : Option Addr) (c : Nat) (bn on cn ba oa ca : Nat) (h4 : 4 ≤ cn) (h3 : 3 ≤ ca) (w : World) (h : allRd w.heap.size w (odHp l A c bn on cn ba oa ca)) :
    Calls Tryz.prog 24 #[.slice A l.length c] w (LsQ2 (oldOf (odHp l A c bn on cn ba oa ca)) (ordI l 0) (chkV l).2 w) := by
  have d0 : ((chkV l).2 != 0) = true := by simpa using h0
  obtain ⟨q, hq⟩ : ∃ q, q = (chkV l).2 := ⟨_, rfl⟩
  rw [← hq]
  refine calls_go (args := [.g 1000 A l.length c]) (hp := odHp l A c bn on cn ba oa ca) (nx := 1001) (n := 1000) (U := []) (V := []) (tl := tlCk) (gl := gOdE) (post := LsP2 (ordI l 0) q)
    followP tlCk_ok gOdE_ok Tryz.func24 rfl (by kernel_rfl) (Nat.le_of_ble_eq_true (by kernel_rfl)) (by kernel_rfl) (by kernel_rfl) (hh_list h) (free_list (by simp [allLt, odHp, gHu, gHp])) ?_ ?_
  · exact fun s ys w' hp H => LsP2_Q hp H
  intro L F T G nd va hE
  obtain ⟨hL, hF, hs, hv, hT, hG, hR, hI, hJ, hW⟩ := hE
  rw [Tryz.results24] at hF
  simp (maxSteps := 1000000) only [En.nN, En.E, En.evsC, List.map_cons, List.map_nil, Nat.reduceBEq, Nat.reduceAdd, Nat.reduceMul, Nat.reduceEqDiff, Nat.reduceLeDiff, Nat.reduceLT, ne_eq, reduceCtorEq, Int.reduceBEq, Int.reduceBNe, Int.reduceAdd, Int.reduceSub, Int.reduceMul, Int.reduceNeg, Nat.reduceBNe, Int.reduceToNat, Nat.reduceSub, Int.reduceLE, Int.reduceLT] at hv
  simp only [En.at_nil, En.at_cons, En.ag_nil, En.ag_cons, and_true, tlCk, gOdE, tyInt, tyI64, tyBool, tyStr, tyErr, tyNode, tyNodes, tyInts, tyRows, tyBools, tyTree] at hT hG
  simp (maxSteps := 10000000) only [En.E, En.evsC, List.map_cons, List.map_nil, Nat.reduceBEq, Nat.reduceAdd, Nat.reduceMul, Nat.reduceEqDiff, Nat.reduceLeDiff, Nat.reduceLT, ne_eq, reduceCtorEq, Int.reduceBEq, Int.reduceBNe, Int.reduceAdd, Int.reduceSub, Int.reduceMul, Int.reduceNeg, Nat.reduceBNe, Int.reduceToNat, Nat.reduceSub, Int.reduceLE, Int.reduceLT, En.vV, hs, hv, hT, hG, hF, odHp, gHu, gHp, d0, spChk_q, ckR, NdR_q, chL_q, globR_q, globU_q, hlen, hz, h4, h3, grV, grUps]
  exact fun M b => .inl ⟨by rw [hq]; exact h0, by rw [hq]⟩
def spOrder : Spc
  | [.g k A n c], H, nx => lsR (ckR A n c k H) (ordI (chL n (H k)) 0) (chkV (chL n (H k))).2 nx
  | _, _, _ => .bad
theorem spOrder_q {k n c : Nat} {A : Option Addr} {H : Nat → Ch} {nx : Nat} : spOrder [.g k A n c] H nx = lsR (ckR A n c k H) (ordI (chL n (H k)) 0) (chkV (chL n (H k))).2 nx := rfl
theorem spOrder_ok : SpecOk Tryz.prog 24 spOrder := by
  intro args hp nx w0 O w H hv
  unfold spOrder at hv ⊢
  split at hv
  · next k A n c =>
    have hc := lsR_vc hv
    obtain ⟨bn, on, cn, ba, oa, ca, h4, h3, hl, hr, ho⟩ := ck_old H hc rfl
    obtain ⟨_, hn, hz, _⟩ := hc
    generalize chL n (lookH hp k) = l at hl hz hr ho hv ⊢
    subst hl
    by_cases h0 : (chkV l).2 = 0
    · rw [h0]
      exact (order_fine l h0 hn hz A c bn on cn ba oa ca h4 h3 w hr).mono fun e w' hq => lsR_ok H ho hq
    · exact (order_bad l h0 hn hz A c bn on cn ba oa ca h4 h3 w hr).mono fun e w' hq => lsR_ok H ho hq
  · exact hv.elim
end Pr
end Go.Proofs.YtpkldfkmokeamaaGreatDoor
