/-
append of a slice of numbers that reads as a list; vectors and scalars of the reference (chapter 7).
-/
import Derived.Test.YtfpnafeildigaaaArAc
import Derived.OwnWalk
import Derived.Deep.RegionHeld3
set_option linter.unusedSimpArgs false
set_option linter.unusedVariables false
namespace Go.Proofs.Ytfpnafeildigaaa
namespace Ar
open Go.RowKit Sc

theorem run_app_nil {P : Program} (w : World) (base : Nat) (t ty e : TypeId) (i : TypeInfo) (size : Nat) (ht : P.underlying t = some (.slice e)) (hi : P.info? e = some i)
    (v : Value) (n : Nat) (xs : List Value) (hown : w.ownsRow base e size v n xs) (c : Nat) : (Builtin.append_ #[t, t] ty #[v, .slice none 0 c]).run P w = .ok v w := by
  rcases hown.2 with ⟨rfl, rfl⟩ | ⟨g, cap, cur, rfl, _, _, hnc, _⟩
  · simp [Builtin.append_, run_underlying ht, sizeOf, typeInfo, hi, Builtin.lenOf, Builtin.firstCells]
  · simp [Builtin.append_, run_underlying ht, sizeOf, typeInfo, hi, Builtin.lenOf, Builtin.firstCells, hnc, storeCells]
set_option maxRecDepth 100000 in
theorem wpList_app64 {w : World} {ops : Array Oper} {rest : List Oper} {o : Oper} {a : Act} {Q : Exit → Act → World → Prop} (hgd : o.guard = none) (s x : Operand)
    (ho : o.op = .call { callee := .builtin .append, args := #[s, x], argTypes := #[23, 23] }) (base : Nat) (v : Value) (ys : List Int) (hs : a.eval s = v) (hown : Acc w base v ys)
    (A : Option Addr) (c n : Nat) (news : List Int) (hn : n = news.length) (hx : a.eval x = .slice A n c) (hsl : Sl w A news) (hlen : ys.length + news.length ≤ 1000000) (hbase : base ≤ w.heap.size)
    (h : ∀ v' w', Acc w' base v' (ys ++ news) → w.grownBy w' v.ownBlock → wpList Try.prog ops Q rest (a.put o.dst v') w') : wpList Try.prog ops Q (o :: rest) a w := by
  subst hn
  obtain ⟨i0, hi0, hz0, hz1, hz2⟩ := info_parts info_i64
  cases A with
  | none =>
    have hn : news = [] := by
      by_cases e : news = []
      · exact e
      · obtain ⟨_, _, h, _⟩ := hsl e; cases h
    subst hn
    refine wpList_plain hgd fun K hK => ?_
    have hrun := run_app_nil w base 23 o.type 2 i0 1 Try.underlying23 hi0 v ys.length (ys.map (Value.int .i64)) hown c
    unfold Oper.wp
    simp [execOp, ho, resolve, invoke, builtin, hs, hx, hrun, Result.andThen]
    exact hK _ _ (h v w (by simpa using hown) (World.grownBy.refl w _))
  | some ad =>
    refine wpList_append_own _ hgd s x _ ho base 2 i0 (.int .i64 0) 1 8 Try.underlying23 hi0 hz0 hz1 hz2 rfl (by decide) v ys.length (ys.map (Value.int .i64)) hs hown ad news.length c (news.map (Value.int .i64)) hx (by simp) ?_ ?_ (by unfold maxLen; omega) (by omega) hbase ?_
    · intro j u hu
      have hj : j < news.length := by
        rcases Nat.lt_or_ge j news.length with hj | hj
        · exact hj
        · rw [List.getElem?_eq_none (by simpa using hj)] at hu; cases hu
      obtain ⟨b, o', e, hl, hc⟩ := hsl (by rintro rfl; simp at hj)
      injection e with e
      subst e
      have := hc j hj
      rw [List.getElem?_map, List.getElem?_eq_getElem hj] at hu
      have hu' : Value.int .i64 news[j] = u := by simpa using hu
      rw [← hu', show news[j] = news.getD j 0 by rw [List.getD_eq_getElem?_getD, List.getElem?_eq_getElem hj]; rfl]
      rw [show (⟨b, o', none⟩ : Addr).add j = ⟨b, o' + j, none⟩ by unfold Addr.add; split <;> simp_all]; exact this
    · intro u hu
      obtain ⟨z, _, rfl⟩ := List.mem_map.1 hu
      rfl
    · intro v' w' h1 h2 _
      exact h v' w' (by unfold Acc; rw [List.length_append, List.map_append]; exact h1) h2
/-- an array that is handed back alone: its cells lie in a new block -/
def ArrOne (w : World) (r : Arr) (e : Ending) (w' : World) : Prop :=
  Below w.heap.size w w' ∧ ∃ (A : Option Addr) (c : Nat), e = .returned (.agg #[.int .i64 r.k, .int .i64 r.r, .int .i64 r.l0, .int .i64 r.l1, .slice A r.xs.length c]) ∧ Sl w' A r.xs ∧ ∀ g o, A = some ⟨g, o, none⟩ → w.heap.size ≤ g
theorem scalar_any (k x : Int) (w : World) : Calls Try.prog 32 #[.int .i64 k, .int .i64 x] w (ArrOne w ⟨k, 0, 0, 0, [x]⟩) := by
  go_enter Try.func32, Try.ntmps32
  go_wp2
  refine bodyPost_ret (v := .agg #[.int .i64 k, .int .i64 0, .int .i64 0, .int .i64 0, .slice (some ⟨w.heap.size + 1, 0, none⟩) 1 1]) (by simp [results, Try.results32, go_sem]) rfl ⟨by (repeat (first | with_reducible exact Below.refl _ _ | with_reducible assumption | (with_reducible refine bl_set ?_ (by simp; try omega) _) | (with_reducible refine bl_alloc ?_ _) | (with_reducible refine bl_dn ?_ _) | (with_reducible refine bl_drew ?_) | (with_reducible refine bl_then ?_ (by with_reducible assumption)))), some ⟨w.heap.size + 1, 0, none⟩, 1, rfl, ?_, ?_⟩
  · refine fun _ => ⟨w.heap.size + 1, 0, rfl, by simp, fun j hj => ?_⟩
    obtain rfl : j = 0 := by simpa using hj
    simp [go_sem]
  · intro g o e; injection e with e; injection e with e; omega
theorem acc_empty (w : World) (t : TypeId) (h : t = 2) : Acc (w.alloc (.cells #[] t)) w.heap.size (.slice (some ⟨w.heap.size, 0, none⟩) 0 0) [] := by
  subst h
  exact ⟨rfl, .inr ⟨w.heap.size, 0, #[], rfl, Nat.le_refl _, heap_alloc_new w _, Nat.le_refl _, by unfold maxLen; omega, rfl, rfl⟩⟩
theorem vector_any (k : Int) (A : Option Addr) (c : Nat) (xs : List Int) (hl : xs.length ≤ 100000) (w : World) (hs : Sl w A xs) : Calls Try.prog 36 #[.int .i64 k, .slice A xs.length c] w (ArrOne w ⟨k, 1, xs.length, 0, xs⟩) := by
  go_enter Try.func36, Try.ntmps36
  go_wp2_with (at_builtin; refine wpList_app64 rfl (.tmp 9) (.tmp 10) rfl (w.heap.size + 1) (.slice (some ⟨w.heap.size + 1, 0, none⟩) 0 0) [] rfl (by have := acc_empty (w.alloc (.cells #[.int .i64 0, .int .i64 0, .int .i64 0, .int .i64 0, .slice none 0 0] 25)) 2 rfl; simpa using this) A c xs.length xs rfl rfl (hs.below (by (repeat (first | with_reducible exact Below.refl _ _ | with_reducible assumption | (with_reducible refine bl_set ?_ (by simp; try omega) _) | (with_reducible refine bl_alloc ?_ _) | (with_reducible refine bl_dn ?_ _) | (with_reducible refine bl_drew ?_) | (with_reducible refine bl_then ?_ (by with_reducible assumption)))))) (by simp; omega) (by simp) ?_; intro v' w1 hacc hg; (have hb := hide (below_gb (w := (w.alloc (.cells #[.int .i64 0, .int .i64 0, .int .i64 0, .int .i64 0, .slice none 0 0] 25)).alloc (.cells #[] 2)) (B := w.heap.size + 1) (Below.refl _ _) hg (by simp) (by intro k hk; simp [Value.ownBlock] at hk; omega))); (obtain ⟨hc, hf⟩ : (∀ b o, b < w.heap.size + 1 → w1.cell? ⟨b, o, none⟩ = ((w.alloc (.cells #[.int .i64 0, .int .i64 0, .int .i64 0, .int .i64 0, .slice none 0 0] 25)).alloc (.cells #[] 2)).cell? ⟨b, o, none⟩) ∧ (∀ b o, b < w.heap.size + 1 → w1.frozen? ⟨b, o, none⟩ = ((w.alloc (.cells #[.int .i64 0, .int .i64 0, .int .i64 0, .int .i64 0, .slice none 0 0] 25)).alloc (.cells #[] 2)).frozen? ⟨b, o, none⟩) := ⟨fun b o h => hb.out.cell (p := ⟨b, o, none⟩) h, fun b o h => hb.out.frozen (p := ⟨b, o, none⟩) h⟩); (have hz := hb.out.size); (obtain ⟨V, cv, rfl, hsl, hge⟩ := hacc.sl); (have hsl := hide hsl); clear hacc hg)
  have hbw : Below w.heap.size w w1 := Below.trans (by (repeat (first | with_reducible exact Below.refl _ _ | with_reducible assumption | (with_reducible refine bl_set ?_ (by simp; try omega) _) | (with_reducible refine bl_alloc ?_ _) | (with_reducible refine bl_dn ?_ _) | (with_reducible refine bl_drew ?_) | (with_reducible refine bl_then ?_ (by with_reducible assumption))))) (hb.out.mono (by omega))
  have hl1 : w.heap.size < w1.heap.size := by simp at hz; omega
  refine bodyPost_ret (v := .agg #[.int .i64 k, .int .i64 1, .int .i64 xs.length, .int .i64 0, .slice V xs.length cv]) (by simp [results, Try.results36, go_sem, hc]) rfl ⟨by (repeat (first | with_reducible exact Below.refl _ _ | with_reducible assumption | (with_reducible refine bl_set ?_ (by simp; try omega) _) | (with_reducible refine bl_alloc ?_ _) | (with_reducible refine bl_dn ?_ _) | (with_reducible refine bl_drew ?_) | (with_reducible refine bl_then ?_ (by with_reducible assumption)))), V, cv, rfl, ?_, fun g o e => by have := hge g o e; omega⟩
  repeat (refine Sl.set ?_ hge (by simp) _)
  exact hsl.out
end Ar
end Go.Proofs.Ytfpnafeildigaaa
