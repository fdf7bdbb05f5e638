/-
Parts of slices of numbers; append at a step of a region that draws its order; matrices of the reference (for every seat).
-/
import Derived.Test.YtfpnafeildigaaaBa7
import Derived.Test.YtfpnafeildigaaaBb3
import Derived.Laws.Slices
set_option linter.unusedSimpArgs false
set_option linter.unusedVariables false
namespace Go.Proofs.Ytfpnafeildigaaa
namespace Ar
open Go.RowKit Sc
/-- where a part of a slice begins -/
def part (A : Option Addr) (l m : Nat) : Option Addr := if m = l then A else A.map (fun p => p.add l)
theorem add_plain (b o n : Nat) : (⟨b, o, none⟩ : Addr).add n = ⟨b, o + n, none⟩ := by unfold Addr.add; split <;> simp_all
theorem Sl.part {w : World} {A : Option Addr} {xs : List Int} (h : Sl w A xs) {l n m : Nat} (hn : l + n ≤ xs.length) (hm : xs.length ≤ m) : Sl w (Ar.part A l m) ((xs.drop l).take n) := fun hne => by
  have h0 : 0 < n := by
    rcases Nat.eq_zero_or_pos n with e | e
    · exact absurd (by rw [e]; simp) hne
    · exact e
  obtain ⟨b, o, e, hl, hc⟩ := h (by rintro rfl; simp at hn; omega)
  subst e
  refine ⟨b, o + l, by unfold Ar.part; rw [if_neg (by omega)]; simp [add_plain], hl, fun j hj => ?_⟩
  rw [List.length_take, List.length_drop] at hj
  rw [Nat.add_assoc, hc (l + j) (by omega)]
  simp [List.getD_eq_getElem?_getD, List.getElem?_take, show j < n by omega, List.getElem?_drop]
theorem part_len {xs : List Int} {l n : Nat} (hn : l + n ≤ xs.length) : ((xs.drop l).take n).length = n := by rw [List.length_take, List.length_drop]; omega
theorem run_part (A : Option Addr) (len cap l h : Nat) (hl : l ≤ h) (hh : h ≤ cap) (w : World) :
    (Instr.slice 23 (.slice A len cap) (some (.int .i64 l)) (some (.int .i64 h)) none).run Try.prog w = .ok (.slice (part A l cap) (h - l) (cap - l)) w := by
  rw [run_slice_lh w 23 A len cap (by kernel_rfl) .i64 .i64 l h (by omega) (by omega) (by omega)]
  have e : (Try.prog.elem 23) = 2 := by kernel_rfl
  obtain ⟨i0, hi0, hz0, hz1, hz2⟩ := info_parts info_i64
  rw [e]
  simp [sizeOf, typeInfo, hi0, hz1, sliced, part]
theorem run_part3 (A : Option Addr) (len cap l h m : Nat) (hl : l ≤ h) (hm : h ≤ m) (hh : m ≤ cap) (w : World) :
    (Instr.slice 23 (.slice A len cap) (some (.int .i64 l)) (some (.int .i64 h)) (some (.int .i64 m))).run Try.prog w = .ok (.slice (part A l m) (h - l) (m - l)) w := by
  rw [run_slice_lhm w 23 A len cap (by kernel_rfl) .i64 .i64 .i64 l h m (by omega) (by omega) (by omega) (by omega)]
  have e : (Try.prog.elem 23) = 2 := by kernel_rfl
  obtain ⟨i0, hi0, hz0, hz1, hz2⟩ := info_parts info_i64
  rw [e]
  simp [sizeOf, typeInfo, hi0, hz1, sliced, part]
theorem run_partTo (A : Option Addr) (len cap h : Nat) (hh : h ≤ cap) (w : World) :
    (Instr.slice 23 (.slice A len cap) none (some (.int .i64 h)) none).run Try.prog w = .ok (.slice (part A 0 cap) h cap) w := by
  rw [run_slice_h w 23 A len cap (by kernel_rfl) .i64 h (by omega) (by omega)]
  have e : (Try.prog.elem 23) = 2 := by kernel_rfl
  obtain ⟨i0, hi0, hz0, hz1, hz2⟩ := info_parts info_i64
  rw [e]
  simp [sizeOf, typeInfo, hi0, hz1, sliced, part]
theorem run_partFrom (A : Option Addr) (len cap l : Nat) (hl : l ≤ len) (w : World) :
    (Instr.slice 23 (.slice A len cap) (some (.int .i64 l)) none none).run Try.prog w = .ok (.slice (part A l cap) (len - l) (cap - l)) w := by
  rw [run_slice_l w 23 A len cap (by kernel_rfl) .i64 l (by omega) (by omega)]
  have e : (Try.prog.elem 23) = 2 := by kernel_rfl
  obtain ⟨i0, hi0, hz0, hz1, hz2⟩ := info_parts info_i64
  rw [e]
  simp [sizeOf, typeInfo, hi0, hz1, sliced, part]
set_option maxRecDepth 100000 in
theorem run_app64 {w : World} (ty : TypeId) (base : Nat) (v : Value) (ys : List Int) (hown : Acc w base v ys) (A : Option Addr) (c n : Nat) (news : List Int) (hn : n = news.length) (hsl : Sl w A news)
    (hlen : ys.length + news.length ≤ 1000000) (hbase : base ≤ w.heap.size) :
    ∃ v' w', (Builtin.append_ #[23, 23] ty #[v, .slice A n c]).run Try.prog w = .ok v' w' ∧ Acc w' base v' (ys ++ news) ∧ w.grownBy w' v.ownBlock ∧ (v'.ownBlock = v.ownBlock ∨ v'.ownBlock = some w.heap.size) := by
  subst hn
  obtain ⟨i0, hi0, hz0, hz1, hz2⟩ := info_parts info_i64
  cases A with
  | none =>
    have hn : news = [] := by
      by_cases e : news = []
      · exact e
      · obtain ⟨_, _, h, _⟩ := hsl e; cases h
    subst hn
    exact ⟨v, w, run_app_nil w base 23 ty 2 i0 1 Try.underlying23 hi0 v ys.length (ys.map (Value.int .i64)) hown c, by simpa using hown, World.grownBy.refl w _, .inl rfl⟩
  | some ad =>
    obtain ⟨v', w', hr, h2, h3, _, h5⟩ := run_append_own_at (P := Try.prog) w base 23 ty 2 i0 (.int .i64 0) 1 8 Try.underlying23 hi0 hz0 hz1 hz2 rfl (by decide) v ys.length (ys.map (Value.int .i64)) hown ad news.length c (news.map (Value.int .i64)) (by simp) (by
      intro j u hu
      have hj : j < news.length := by
        rcases Nat.lt_or_ge j news.length with hj | hj
        · exact hj
        · rw [List.getElem?_eq_none (by simpa using hj)] at hu; cases hu
      obtain ⟨b, o', e, hl, hc⟩ := hsl (by rintro rfl; simp at hj)
      injection e with e
      subst e
      have := hc j hj
      rw [List.getElem?_map, List.getElem?_eq_getElem hj] at hu
      have hu' : Value.int .i64 news[j] = u := by simpa using hu
      rw [← hu', show news[j] = news.getD j 0 by rw [List.getD_eq_getElem?_getD, List.getElem?_eq_getElem hj]; rfl, add_plain]
      exact this) (by
      intro u hu
      obtain ⟨z, _, rfl⟩ := List.mem_map.1 hu
      rfl) (by unfold maxLen; omega) (by omega) hbase
    exact ⟨v', w', hr, by unfold Acc; rw [List.length_append, List.map_append]; exact h2, h3, h5⟩
set_option maxRecDepth 100000 in
theorem step_app64 {w : World} {ops : Array Oper} {o : Oper} {a : Act} {K : Act → World → Prop} {Q : Exit → Act → World → Prop} {E : Prop} (hgd : o.guard = none) (s x : Operand)
    (ho : o.op = .call { callee := .builtin .append, args := #[s, x], argTypes := #[23, 23] }) (base : Nat) (v : Value) (ys : List Int) (hs : a.eval s = v) (hown : Acc w base v ys)
    (A : Option Addr) (c n : Nat) (news : List Int) (hn : n = news.length) (hx : a.eval x = .slice A n c) (hsl : Sl w A news) (hlen : ys.length + news.length ≤ 1000000) (hbase : base ≤ w.heap.size)
    (h : ∀ v' w', Acc w' base v' (ys ++ news) → w.grownBy w' v.ownBlock → K (a.put o.dst v') w') : if Region.wanted o (yielded ops a.tmps) = true then Oper.wp Try.prog o a w K Q else E := by
  have hw : Region.wanted o (yielded ops a.tmps) = true := by simp [Region.wanted, hgd]
  rw [if_pos hw]
  obtain ⟨v', w', hr, h2, h3, _⟩ := run_app64 (w := w) o.type base v ys hown A c n news hn hsl hlen hbase
  unfold Oper.wp execOp
  simp only [ho, resolve, invoke, builtin, Sem.run_bind, Sem.run_pure, Result.andThen_ok, List.map_toArray, List.map_cons, List.map_nil, hs, hx, hr]
  exact h v' w' h2 h3
theorem matrix_any (k m n : Int) (A : Option Addr) (c : Nat) (xs : List Int) (hl : xs.length ≤ 100000) (w : World) (hs : Sl w A xs) : Calls Try.prog 78 #[.int .i64 k, .int .i64 m, .int .i64 n, .slice A xs.length c] w (ArrOne w ⟨k, 2, m, n, xs⟩) := by
  go_enter Try.func78, Try.ntmps78
  go_wp2_with (at_builtin; refine wpList_app64 rfl (.tmp 13) (.tmp 14) rfl (w.heap.size + 1) (.slice (some ⟨w.heap.size + 1, 0, none⟩) 0 0) [] rfl (by have := acc_empty (w.alloc (.cells #[.int .i64 0, .int .i64 0, .int .i64 0, .int .i64 0, .slice none 0 0] 25)) 2 rfl; simpa using this) A c xs.length xs rfl rfl (hs.below (by (repeat (first | with_reducible exact Below.refl _ _ | with_reducible assumption | (with_reducible refine bl_set ?_ (by simp; try omega) _) | (with_reducible refine bl_alloc ?_ _) | (with_reducible refine bl_dn ?_ _) | (with_reducible refine bl_drew ?_) | (with_reducible refine bl_then ?_ (by with_reducible assumption)))))) (by simp; omega) (by simp) ?_; intro v' w1 hacc hg; (have hb := hide (below_gb (w := (w.alloc (.cells #[.int .i64 0, .int .i64 0, .int .i64 0, .int .i64 0, .slice none 0 0] 25)).alloc (.cells #[] 2)) (B := w.heap.size + 1) (Below.refl _ _) hg (by simp) (by intro k hk; simp [Value.ownBlock] at hk; omega))); (obtain ⟨hc, hf⟩ : (∀ b o, b < w.heap.size + 1 → w1.cell? ⟨b, o, none⟩ = ((w.alloc (.cells #[.int .i64 0, .int .i64 0, .int .i64 0, .int .i64 0, .slice none 0 0] 25)).alloc (.cells #[] 2)).cell? ⟨b, o, none⟩) ∧ (∀ b o, b < w.heap.size + 1 → w1.frozen? ⟨b, o, none⟩ = ((w.alloc (.cells #[.int .i64 0, .int .i64 0, .int .i64 0, .int .i64 0, .slice none 0 0] 25)).alloc (.cells #[] 2)).frozen? ⟨b, o, none⟩) := ⟨fun b o h => hb.out.cell (p := ⟨b, o, none⟩) h, fun b o h => hb.out.frozen (p := ⟨b, o, none⟩) h⟩); (have hz := hb.out.size); (obtain ⟨V, cv, rfl, hsl, hge, hcp⟩ := hacc.sl); (have hsl := hide hsl); clear hacc hg)
  have hbw : Below w.heap.size w w1 := Below.trans (by (repeat (first | with_reducible exact Below.refl _ _ | with_reducible assumption | (with_reducible refine bl_set ?_ (by simp; try omega) _) | (with_reducible refine bl_alloc ?_ _) | (with_reducible refine bl_dn ?_ _) | (with_reducible refine bl_drew ?_) | (with_reducible refine bl_then ?_ (by with_reducible assumption))))) (hb.out.mono (by omega))
  have hl1 : w.heap.size < w1.heap.size := by simp at hz; omega
  refine bodyPost_ret (v := .agg #[.int .i64 k, .int .i64 2, .int .i64 m, .int .i64 n, .slice V xs.length cv]) (by simp [results, Try.results78, go_sem, hc]) rfl ⟨by (repeat (first | with_reducible exact Below.refl _ _ | with_reducible assumption | (with_reducible refine bl_set ?_ (by simp; try omega) _) | (with_reducible refine bl_alloc ?_ _) | (with_reducible refine bl_dn ?_ _) | (with_reducible refine bl_drew ?_) | (with_reducible refine bl_then ?_ (by with_reducible assumption)))), V, cv, rfl, ?_, (fun g o e => by have := hge g o e; omega), hcp⟩
  repeat (refine Sl.set ?_ hge (by simp) _)
  exact hsl.out
end Ar
end Go.Proofs.Ytfpnafeildigaaa
