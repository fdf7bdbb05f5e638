/-
Parts of slices of numbers; append at a step of a region that draws its order; matrices of the reference (for every seat).
-/
import Derived.Test.YtfpnafeildigaaaBa7
import Derived.Test.YtfpnafeildigaaaBb3
import Derived.Laws.Slices
import Derived.Test.YtfpnafeildigaaaBb4
import Derived.Deep.RegionHeld3
set_option linter.unusedSimpArgs false
set_option linter.unusedVariables false
namespace Go.Proofs.Ytfpnafeildigaaa
namespace Ar
open Go.RowKit Sc
/-- where a part of a slice begins -/
def part (A : Option Addr) (l m : Nat) : Option Addr := if m = l then A else A.map (fun p => p.add l)
theorem add_plain (b o n : Nat) : (⟨b, o, none⟩ : Addr).add n = ⟨b, o + n, none⟩ := by unfold Addr.add; split <;> simp_all
theorem Sl.part {w : World} {A : Option Addr} {xs : List Int} (h : Sl w A xs) {l n m : Nat} (hn : l + n ≤ xs.length) (hm : xs.length ≤ m) : Sl w (Ar.part A l m) ((xs.drop l).take n) := fun hne => by
  have h0 : 0 < n := by
    rcases Nat.eq_zero_or_pos n with e | e
    · exact absurd (by rw [e]; simp) hne
    · exact e
  obtain ⟨b, o, e, hl, hc⟩ := h (by rintro rfl; simp at hn; omega)
  subst e
  refine ⟨b, o + l, by unfold Ar.part; rw [if_neg (by omega)]; simp [add_plain], hl, fun j hj => ?_⟩
  rw [List.length_take, List.length_drop] at hj
  rw [Nat.add_assoc, hc (l + j) (by omega)]
  simp [List.getD_eq_getElem?_getD, List.getElem?_take, show j < n by omega, List.getElem?_drop]
theorem part_len {xs : List Int} {l n : Nat} (hn : l + n ≤ xs.length) : ((xs.drop l).take n).length = n := by rw [List.length_take, List.length_drop]; omega
theorem run_part (A : Option Addr) (len cap l h : Nat) (hl : l ≤ h) (hh : h ≤ cap) (w : World) :
    (Instr.slice 23 (.slice A len cap) (some (.int .i64 l)) (some (.int .i64 h)) none).run Try.prog w = .ok (.slice (part A l cap) (h - l) (cap - l)) w := by
  rw [run_slice_lh w 23 A len cap (by kernel_rfl) .i64 .i64 l h (by omega) (by omega) (by omega)]
  have e : (Try.prog.elem 23) = 2 := by kernel_rfl
  obtain ⟨i0, hi0, hz0, hz1, hz2⟩ := info_parts info_i64
  rw [e]
  simp [sizeOf, typeInfo, hi0, hz1, sliced, part]
theorem run_part3 (A : Option Addr) (len cap l h m : Nat) (hl : l ≤ h) (hm : h ≤ m) (hh : m ≤ cap) (w : World) :
    (Instr.slice 23 (.slice A len cap) (some (.int .i64 l)) (some (.int .i64 h)) (some (.int .i64 m))).run Try.prog w = .ok (.slice (part A l m) (h - l) (m - l)) w := by
  rw [run_slice_lhm w 23 A len cap (by kernel_rfl) .i64 .i64 .i64 l h m (by omega) (by omega) (by omega) (by omega)]
  have e : (Try.prog.elem 23) = 2 := by kernel_rfl
  obtain ⟨i0, hi0, hz0, hz1, hz2⟩ := info_parts info_i64
  rw [e]
  simp [sizeOf, typeInfo, hi0, hz1, sliced, part]
theorem run_partTo (A : Option Addr) (len cap h : Nat) (hh : h ≤ cap) (w : World) :
    (Instr.slice 23 (.slice A len cap) none (some (.int .i64 h)) none).run Try.prog w = .ok (.slice (part A 0 cap) h cap) w := by
  rw [run_slice_h w 23 A len cap (by kernel_rfl) .i64 h (by omega) (by omega)]
  have e : (Try.prog.elem 23) = 2 := by kernel_rfl
  obtain ⟨i0, hi0, hz0, hz1, hz2⟩ := info_parts info_i64
  rw [e]
  simp [sizeOf, typeInfo, hi0, hz1, sliced, part]
set_option maxRecDepth 100000 in
theorem run_app64 {w : World} (ty : TypeId) (base : Nat) (v : Value) (ys : List Int) (hown : Acc w base v ys) (A : Option Addr) (c n : Nat) (news : List Int) (hn : n = news.length) (hsl : Sl w A news)
    (hlen : ys.length + news.length ≤ 1000000) (hbase : base ≤ w.heap.size) :
    ∃ v' w', (Builtin.append_ #[23, 23] ty #[v, .slice A n c]).run Try.prog w = .ok v' w' ∧ Acc w' base v' (ys ++ news) ∧ w.grownBy w' v.ownBlock ∧ (v'.ownBlock = v.ownBlock ∨ v'.ownBlock = some w.heap.size) := by
  subst hn
  obtain ⟨i0, hi0, hz0, hz1, hz2⟩ := info_parts info_i64
  cases A with
  | none =>
    have hn : news = [] := by
      by_cases e : news = []
      · exact e
      · obtain ⟨_, _, h, _⟩ := hsl e; cases h
    subst hn
    exact ⟨v, w, run_app_nil w base 23 ty 2 i0 1 Try.underlying23 hi0 v ys.length (ys.map (Value.int .i64)) hown c, by simpa using hown, World.grownBy.refl w _, .inl rfl⟩
  | some ad =>
    obtain ⟨v', w', hr, h2, h3, _, h5⟩ := run_append_own_at (P := Try.prog) w base 23 ty 2 i0 (.int .i64 0) 1 8 Try.underlying23 hi0 hz0 hz1 hz2 rfl (by decide) v ys.length (ys.map (Value.int .i64)) hown ad news.length c (news.map (Value.int .i64)) (by simp) (by
      intro j u hu
      have hj : j < news.length := by
        rcases Nat.lt_or_ge j news.length with hj | hj
        · exact hj
        · rw [List.getElem?_eq_none (by simpa using hj)] at hu; cases hu
      obtain ⟨b, o', e, hl, hc⟩ := hsl (by rintro rfl; simp at hj)
      injection e with e
      subst e
      have := hc j hj
      rw [List.getElem?_map, List.getElem?_eq_getElem hj] at hu
      have hu' : Value.int .i64 news[j] = u := by simpa using hu
      rw [← hu', show news[j] = news.getD j 0 by rw [List.getD_eq_getElem?_getD, List.getElem?_eq_getElem hj]; rfl, add_plain]
      exact this) (by
      intro u hu
      obtain ⟨z, _, rfl⟩ := List.mem_map.1 hu
      rfl) (by unfold maxLen; omega) (by omega) hbase
    exact ⟨v', w', hr, by unfold Acc; rw [List.length_append, List.map_append]; exact h2, h3, h5⟩
set_option maxRecDepth 100000 in
theorem step_app64 {w : World} {ops : Array Oper} {o : Oper} {a : Act} {K : Act → World → Prop} {Q : Exit → Act → World → Prop} {E : Prop} (hgd : o.guard = none) (s x : Operand)
    (ho : o.op = .call { callee := .builtin .append, args := #[s, x], argTypes := #[23, 23] }) (base : Nat) (v : Value) (ys : List Int) (hs : a.eval s = v) (hown : Acc w base v ys)
    (A : Option Addr) (c n : Nat) (news : List Int) (hn : n = news.length) (hx : a.eval x = .slice A n c) (hsl : Sl w A news) (hlen : ys.length + news.length ≤ 1000000) (hbase : base ≤ w.heap.size)
    (h : ∀ v' w', Acc w' base v' (ys ++ news) → w.grownBy w' v.ownBlock → K (a.put o.dst v') w') : if Region.wanted o (yielded ops a.tmps) = true then Oper.wp Try.prog o a w K Q else E := by
  have hw : Region.wanted o (yielded ops a.tmps) = true := by simp [Region.wanted, hgd]
  rw [if_pos hw]
  obtain ⟨v', w', hr, h2, h3, _⟩ := run_app64 (w := w) o.type base v ys hown A c n news hn hsl hlen hbase
  unfold Oper.wp execOp
  simp only [ho, resolve, invoke, builtin, Sem.run_bind, Sem.run_pure, Result.andThen_ok, List.map_toArray, List.map_cons, List.map_nil, hs, hx, hr]
  exact h v' w' h2 h3
theorem matrix_any (k m n : Int) (A : Option Addr) (c : Nat) (xs : List Int) (hl : xs.length ≤ 100000) (w : World) (hs : Sl w A xs) : Calls Try.prog 78 #[.int .i64 k, .int .i64 m, .int .i64 n, .slice A xs.length c] w (ArrOne w ⟨k, 2, m, n, xs⟩) := by
  go_enter Try.func78, Try.ntmps78
  go_wp2_with (at_builtin; refine wpList_app64 rfl (.tmp 13) (.tmp 14) rfl (w.heap.size + 1) (.slice (some ⟨w.heap.size + 1, 0, none⟩) 0 0) [] rfl (by have := acc_empty (w.alloc (.cells #[.int .i64 0, .int .i64 0, .int .i64 0, .int .i64 0, .slice none 0 0] 25)) 2 rfl; simpa using this) A c xs.length xs rfl rfl (hs.below (by (repeat (first | with_reducible exact Below.refl _ _ | with_reducible assumption | (with_reducible refine bl_set ?_ (by simp; try omega) _) | (with_reducible refine bl_alloc ?_ _) | (with_reducible refine bl_dn ?_ _) | (with_reducible refine bl_drew ?_) | (with_reducible refine bl_then ?_ (by with_reducible assumption)))))) (by simp; omega) (by simp) ?_; intro v' w1 hacc hg; (have hb := hide (below_gb (w := (w.alloc (.cells #[.int .i64 0, .int .i64 0, .int .i64 0, .int .i64 0, .slice none 0 0] 25)).alloc (.cells #[] 2)) (B := w.heap.size + 1) (Below.refl _ _) hg (by simp) (by intro k hk; simp [Value.ownBlock] at hk; omega))); (obtain ⟨hc, hf⟩ : (∀ b o, b < w.heap.size + 1 → w1.cell? ⟨b, o, none⟩ = ((w.alloc (.cells #[.int .i64 0, .int .i64 0, .int .i64 0, .int .i64 0, .slice none 0 0] 25)).alloc (.cells #[] 2)).cell? ⟨b, o, none⟩) ∧ (∀ b o, b < w.heap.size + 1 → w1.frozen? ⟨b, o, none⟩ = ((w.alloc (.cells #[.int .i64 0, .int .i64 0, .int .i64 0, .int .i64 0, .slice none 0 0] 25)).alloc (.cells #[] 2)).frozen? ⟨b, o, none⟩) := ⟨fun b o h => hb.out.cell (p := ⟨b, o, none⟩) h, fun b o h => hb.out.frozen (p := ⟨b, o, none⟩) h⟩); (have hz := hb.out.size); (obtain ⟨V, cv, rfl, hsl, hge, hcp⟩ := hacc.sl); (have hsl := hide hsl); clear hacc hg)
  have hbw : Below w.heap.size w w1 := Below.trans (by (repeat (first | with_reducible exact Below.refl _ _ | with_reducible assumption | (with_reducible refine bl_set ?_ (by simp; try omega) _) | (with_reducible refine bl_alloc ?_ _) | (with_reducible refine bl_dn ?_ _) | (with_reducible refine bl_drew ?_) | (with_reducible refine bl_then ?_ (by with_reducible assumption))))) (hb.out.mono (by omega))
  have hl1 : w.heap.size < w1.heap.size := by simp at hz; omega
  refine bodyPost_ret (v := .agg #[.int .i64 k, .int .i64 2, .int .i64 m, .int .i64 n, .slice V xs.length cv]) (by simp [results, Try.results78, go_sem, hc]) rfl ⟨by (repeat (first | with_reducible exact Below.refl _ _ | with_reducible assumption | (with_reducible refine bl_set ?_ (by simp; try omega) _) | (with_reducible refine bl_alloc ?_ _) | (with_reducible refine bl_dn ?_ _) | (with_reducible refine bl_drew ?_) | (with_reducible refine bl_then ?_ (by with_reducible assumption)))), V, cv, rfl, ?_, (fun g o e => by have := hge g o e; omega), hcp⟩
  repeat (refine Sl.set ?_ hge (by simp) _)
  exact hsl.out
end Ar
end Go.Proofs.Ytfpnafeildigaaa
/-
invigilatorref07.Cat, Ravel: their contracts (chapter 7's reference, for every seat).
-/
set_option linter.unusedSimpArgs false
set_option linter.unusedVariables false
namespace Go.Proofs.Ytfpnafeildigaaa
namespace Ar
open Go.RowKit Sc
theorem catRows_succ (m n k : Nat) (xs ys : List Int) : catRows (m + 1) n k xs ys = catRows m n k xs ys ++ ((xs.drop (m * n)).take n ++ (ys.drop (m * k)).take k) := by
  unfold catRows; rw [List.range_succ, List.flatMap_append, List.flatMap_singleton]
theorem catRows_len {n k : Nat} {xs ys : List Int} : ∀ m : Nat, m * n ≤ xs.length → m * k ≤ ys.length → (catRows m n k xs ys).length = m * (n + k)
  | 0, _, _ => by simp [catRows]
  | m + 1, h1, h2 => by
    rw [Nat.succ_mul] at h1 h2
    rw [catRows_succ, List.length_append, List.length_append, part_len h1, part_len h2, catRows_len m (by omega) (by omega), Nat.succ_mul]
theorem catRows_one (xs ys : List Int) : catRows 1 xs.length ys.length xs ys = xs ++ ys := by
  rw [catRows_succ]; simp [catRows]
theorem cat_bad_a (a : Arr) (A : Option Addr) (c : Nat) (hla : a.xs.length ≤ 9223372036854775807) (f0a : Fits a.l0) (f1a : Fits a.l1) (b : Arr) (B : Option Addr) (d : Nat) (hlb : b.xs.length ≤ 9223372036854775807) (f0b : Fits b.l0) (f1b : Fits b.l1) (w : World) (hsa : Sl w A a.xs) (hsb : Sl w B b.xs) (h : chk a ≠ 0) : Calls Try.prog 37 #[.agg #[.int .i64 a.k, .int .i64 a.r, .int .i64 a.l0, .int .i64 a.l1, .slice A a.xs.length c], .agg #[.int .i64 b.k, .int .i64 b.r, .int .i64 b.l0, .int .i64 b.l1, .slice B b.xs.length d]] w (ArrRet w (chk a, .zero)) := by
  have n1 : (chk a == 0) = false := by simpa using h
  have n2 : (chk a != 0) = true := by simpa using h
  clear h
  go_enter Try.func37, Try.ntmps37
  go_wp2_with fail
  refine (Ref.ac_any a A c hla f0a f1a _ (hsa.below (by (repeat (first | with_reducible exact Below.refl _ _ | with_reducible assumption | (with_reducible refine bl_set ?_ (by simp; try omega) _) | (with_reducible refine bl_alloc ?_ _) | (with_reducible refine bl_dn ?_ _) | (with_reducible refine bl_drew ?_) | (with_reducible refine bl_then ?_ (by with_reducible assumption))))))).mono ?_
  rintro e w1 ⟨rfl, hg⟩
  obtain ⟨hc, hf, hz⟩ := bcell hg
  (have zw0 : w.heap.size < w1.heap.size := by have := hg.size; simp at this; omega); (have zw1 : w.heap.size + 1 < w1.heap.size := by have := hg.size; simp at this; omega); (have zw2 : w.heap.size + 1 + 1 < w1.heap.size := by have := hg.size; simp at this; omega)
  go_wp2
  refine bodyPost_ret (v := .tuple #[.agg #[.int .i64 0, .int .i64 0, .int .i64 0, .int .i64 0, .slice none 0 0], .int .i64 (chk a)]) (by simp [results, Try.results37, go_sem, *]) rfl (arr_zero _ (by (repeat (first | with_reducible exact Below.refl _ _ | with_reducible assumption | (with_reducible refine bl_set ?_ (by simp; try omega) _) | (with_reducible refine bl_alloc ?_ _) | (with_reducible refine bl_dn ?_ _) | (with_reducible refine bl_drew ?_) | (with_reducible refine bl_then ?_ (by with_reducible assumption))))))
theorem cat_bad_b (a : Arr) (A : Option Addr) (c : Nat) (hla : a.xs.length ≤ 9223372036854775807) (f0a : Fits a.l0) (f1a : Fits a.l1) (b : Arr) (B : Option Addr) (d : Nat) (hlb : b.xs.length ≤ 9223372036854775807) (f0b : Fits b.l0) (f1b : Fits b.l1) (w : World) (hsa : Sl w A a.xs) (hsb : Sl w B b.xs) (h : chk a = 0) (h2 : chk b ≠ 0) : Calls Try.prog 37 #[.agg #[.int .i64 a.k, .int .i64 a.r, .int .i64 a.l0, .int .i64 a.l1, .slice A a.xs.length c], .agg #[.int .i64 b.k, .int .i64 b.r, .int .i64 b.l0, .int .i64 b.l1, .slice B b.xs.length d]] w (ArrRet w (chk b, .zero)) := by
  have H := hide h
  have n1 : (chk b == 0) = false := by simpa using h2
  have n2 : (chk b != 0) = true := by simpa using h2
  clear h h2
  go_enter Try.func37, Try.ntmps37
  go_wp2_with fail
  refine (Ref.ac_any a A c hla f0a f1a _ (hsa.below (by (repeat (first | with_reducible exact Below.refl _ _ | with_reducible assumption | (with_reducible refine bl_set ?_ (by simp; try omega) _) | (with_reducible refine bl_alloc ?_ _) | (with_reducible refine bl_dn ?_ _) | (with_reducible refine bl_drew ?_) | (with_reducible refine bl_then ?_ (by with_reducible assumption))))))).mono ?_
  rw [H.out]
  rintro e w1 ⟨rfl, hg⟩
  obtain ⟨hc, hf, hz⟩ := bcell hg
  (have zw0 : w.heap.size < w1.heap.size := by have := hg.size; simp at this; omega); (have zw1 : w.heap.size + 1 < w1.heap.size := by have := hg.size; simp at this; omega); (have zw2 : w.heap.size + 1 + 1 < w1.heap.size := by have := hg.size; simp at this; omega)
  go_wp2_with fail
  refine (Ref.ac_any b B d hlb f0b f1b _ (hsb.below (by (repeat (first | with_reducible exact Below.refl _ _ | with_reducible assumption | (with_reducible refine bl_set ?_ (by simp; try omega) _) | (with_reducible refine bl_alloc ?_ _) | (with_reducible refine bl_dn ?_ _) | (with_reducible refine bl_drew ?_) | (with_reducible refine bl_then ?_ (by with_reducible assumption))))))).mono ?_
  rintro e w2 ⟨rfl, hg2⟩
  obtain ⟨hc2, hf2, hz2⟩ := bcell hg2
  (have zx0 : w.heap.size < w2.heap.size := by omega); (have zx1 : w.heap.size + 1 < w2.heap.size := by omega); (have zx2 : w.heap.size + 1 + 1 < w2.heap.size := by omega)
  go_wp2
  refine bodyPost_ret (v := .tuple #[.agg #[.int .i64 0, .int .i64 0, .int .i64 0, .int .i64 0, .slice none 0 0], .int .i64 (chk b)]) (by simp [results, Try.results37, go_sem, *]) rfl (arr_zero _ (by (repeat (first | with_reducible exact Below.refl _ _ | with_reducible assumption | (with_reducible refine bl_set ?_ (by simp; try omega) _) | (with_reducible refine bl_alloc ?_ _) | (with_reducible refine bl_dn ?_ _) | (with_reducible refine bl_drew ?_) | (with_reducible refine bl_then ?_ (by with_reducible assumption))))))
set_option maxRecDepth 100000 in
set_option maxHeartbeats 1000000 in
theorem cat_kind (a : Arr) (A : Option Addr) (c : Nat) (hla : a.xs.length ≤ 9223372036854775807) (f0a : Fits a.l0) (f1a : Fits a.l1) (b : Arr) (B : Option Addr) (d : Nat) (hlb : b.xs.length ≤ 9223372036854775807) (f0b : Fits b.l0) (f1b : Fits b.l1) (w : World) (hsa : Sl w A a.xs) (hsb : Sl w B b.xs) (h : chk a = 0) (h2 : chk b = 0) (h3 : a.k ≠ b.k) : Calls Try.prog 37 #[.agg #[.int .i64 a.k, .int .i64 a.r, .int .i64 a.l0, .int .i64 a.l1, .slice A a.xs.length c], .agg #[.int .i64 b.k, .int .i64 b.r, .int .i64 b.l0, .int .i64 b.l1, .slice B b.xs.length d]] w (ArrRet w (21, .zero)) := by
  have H := hide h; have H2 := hide h2
  (have n3 : (a.k != b.k) = true := by simpa using h3); clear h3
  clear h h2
  go_enter Try.func37, Try.ntmps37
  go_wp2_with fail
  refine (Ref.ac_any a A c hla f0a f1a _ (hsa.below (by (repeat (first | with_reducible exact Below.refl _ _ | with_reducible assumption | (with_reducible refine bl_set ?_ (by simp; try omega) _) | (with_reducible refine bl_alloc ?_ _) | (with_reducible refine bl_dn ?_ _) | (with_reducible refine bl_drew ?_) | (with_reducible refine bl_then ?_ (by with_reducible assumption))))))).mono ?_
  rw [H.out]
  rintro e w1 ⟨rfl, hg⟩
  obtain ⟨hc, hf, hz⟩ := bcell hg
  (have zw0 : w.heap.size < w1.heap.size := by have := hg.size; simp at this; omega); (have zw1 : w.heap.size + 1 < w1.heap.size := by have := hg.size; simp at this; omega); (have zw2 : w.heap.size + 1 + 1 < w1.heap.size := by have := hg.size; simp at this; omega)
  go_wp2_with fail
  refine (Ref.ac_any b B d hlb f0b f1b _ (hsb.below (by (repeat (first | with_reducible exact Below.refl _ _ | with_reducible assumption | (with_reducible refine bl_set ?_ (by simp; try omega) _) | (with_reducible refine bl_alloc ?_ _) | (with_reducible refine bl_dn ?_ _) | (with_reducible refine bl_drew ?_) | (with_reducible refine bl_then ?_ (by with_reducible assumption))))))).mono ?_
  rw [H2.out]
  rintro e w2 ⟨rfl, hg2⟩
  obtain ⟨hc2, hf2, hz2⟩ := bcell hg2
  (have zx0 : w.heap.size < w2.heap.size := by omega); (have zx1 : w.heap.size + 1 < w2.heap.size := by omega); (have zx2 : w.heap.size + 1 + 1 < w2.heap.size := by omega)
  go_wp2
  refine bodyPost_ret (v := .tuple #[.agg #[.int .i64 0, .int .i64 0, .int .i64 0, .int .i64 0, .slice none 0 0], .int .i64 21]) (by simp [results, Try.results37, go_sem, *]) rfl (arr_zero _ (by (repeat (first | with_reducible exact Below.refl _ _ | with_reducible assumption | (with_reducible refine bl_set ?_ (by simp; try omega) _) | (with_reducible refine bl_alloc ?_ _) | (with_reducible refine bl_dn ?_ _) | (with_reducible refine bl_drew ?_) | (with_reducible refine bl_then ?_ (by with_reducible assumption))))))
set_option maxRecDepth 100000 in
set_option maxHeartbeats 1000000 in
theorem cat_rank (a : Arr) (A : Option Addr) (c : Nat) (hla : a.xs.length ≤ 9223372036854775807) (f0a : Fits a.l0) (f1a : Fits a.l1) (b : Arr) (B : Option Addr) (d : Nat) (hlb : b.xs.length ≤ 9223372036854775807) (f0b : Fits b.l0) (f1b : Fits b.l1) (w : World) (hsa : Sl w A a.xs) (hsb : Sl w B b.xs) (h : chk a = 0) (h2 : chk b = 0) (h3 : a.k = b.k) (h4 : a.r ≠ b.r) : Calls Try.prog 37 #[.agg #[.int .i64 a.k, .int .i64 a.r, .int .i64 a.l0, .int .i64 a.l1, .slice A a.xs.length c], .agg #[.int .i64 b.k, .int .i64 b.r, .int .i64 b.l0, .int .i64 b.l1, .slice B b.xs.length d]] w (ArrRet w (22, .zero)) := by
  have H := hide h; have H2 := hide h2
  (have n3 : (a.k != b.k) = false := by simpa using h3); (have n4 : (a.r != b.r) = true := by simpa using h4); clear h3 h4
  clear h h2
  go_enter Try.func37, Try.ntmps37
  go_wp2_with fail
  refine (Ref.ac_any a A c hla f0a f1a _ (hsa.below (by (repeat (first | with_reducible exact Below.refl _ _ | with_reducible assumption | (with_reducible refine bl_set ?_ (by simp; try omega) _) | (with_reducible refine bl_alloc ?_ _) | (with_reducible refine bl_dn ?_ _) | (with_reducible refine bl_drew ?_) | (with_reducible refine bl_then ?_ (by with_reducible assumption))))))).mono ?_
  rw [H.out]
  rintro e w1 ⟨rfl, hg⟩
  obtain ⟨hc, hf, hz⟩ := bcell hg
  (have zw0 : w.heap.size < w1.heap.size := by have := hg.size; simp at this; omega); (have zw1 : w.heap.size + 1 < w1.heap.size := by have := hg.size; simp at this; omega); (have zw2 : w.heap.size + 1 + 1 < w1.heap.size := by have := hg.size; simp at this; omega)
  go_wp2_with fail
  refine (Ref.ac_any b B d hlb f0b f1b _ (hsb.below (by (repeat (first | with_reducible exact Below.refl _ _ | with_reducible assumption | (with_reducible refine bl_set ?_ (by simp; try omega) _) | (with_reducible refine bl_alloc ?_ _) | (with_reducible refine bl_dn ?_ _) | (with_reducible refine bl_drew ?_) | (with_reducible refine bl_then ?_ (by with_reducible assumption))))))).mono ?_
  rw [H2.out]
  rintro e w2 ⟨rfl, hg2⟩
  obtain ⟨hc2, hf2, hz2⟩ := bcell hg2
  (have zx0 : w.heap.size < w2.heap.size := by omega); (have zx1 : w.heap.size + 1 < w2.heap.size := by omega); (have zx2 : w.heap.size + 1 + 1 < w2.heap.size := by omega)
  go_wp2
  refine bodyPost_ret (v := .tuple #[.agg #[.int .i64 0, .int .i64 0, .int .i64 0, .int .i64 0, .slice none 0 0], .int .i64 22]) (by simp [results, Try.results37, go_sem, *]) rfl (arr_zero _ (by (repeat (first | with_reducible exact Below.refl _ _ | with_reducible assumption | (with_reducible refine bl_set ?_ (by simp; try omega) _) | (with_reducible refine bl_alloc ?_ _) | (with_reducible refine bl_dn ?_ _) | (with_reducible refine bl_drew ?_) | (with_reducible refine bl_then ?_ (by with_reducible assumption))))))
set_option maxRecDepth 100000 in
set_option maxHeartbeats 1000000 in
theorem cat_flat (a : Arr) (A : Option Addr) (c : Nat) (hla : a.xs.length ≤ 9223372036854775807) (f0a : Fits a.l0) (f1a : Fits a.l1) (b : Arr) (B : Option Addr) (d : Nat) (hlb : b.xs.length ≤ 9223372036854775807) (f0b : Fits b.l0) (f1b : Fits b.l1) (w : World) (hsa : Sl w A a.xs) (hsb : Sl w B b.xs) (h : chk a = 0) (h2 : chk b = 0) (h3 : a.k = b.k) (h4 : a.r = b.r) (h5 : a.r = 0) : Calls Try.prog 37 #[.agg #[.int .i64 a.k, .int .i64 a.r, .int .i64 a.l0, .int .i64 a.l1, .slice A a.xs.length c], .agg #[.int .i64 b.k, .int .i64 b.r, .int .i64 b.l0, .int .i64 b.l1, .slice B b.xs.length d]] w (ArrRet w (22, .zero)) := by
  have H := hide h; have H2 := hide h2
  (have n3 : (a.k != b.k) = false := by simpa using h3); (have n4 : (a.r != b.r) = false := by simpa using h4); (have n5 : (a.r == 0) = true := by simpa using h5); clear h3 h4 h5
  clear h h2
  go_enter Try.func37, Try.ntmps37
  go_wp2_with fail
  refine (Ref.ac_any a A c hla f0a f1a _ (hsa.below (by (repeat (first | with_reducible exact Below.refl _ _ | with_reducible assumption | (with_reducible refine bl_set ?_ (by simp; try omega) _) | (with_reducible refine bl_alloc ?_ _) | (with_reducible refine bl_dn ?_ _) | (with_reducible refine bl_drew ?_) | (with_reducible refine bl_then ?_ (by with_reducible assumption))))))).mono ?_
  rw [H.out]
  rintro e w1 ⟨rfl, hg⟩
  obtain ⟨hc, hf, hz⟩ := bcell hg
  (have zw0 : w.heap.size < w1.heap.size := by have := hg.size; simp at this; omega); (have zw1 : w.heap.size + 1 < w1.heap.size := by have := hg.size; simp at this; omega); (have zw2 : w.heap.size + 1 + 1 < w1.heap.size := by have := hg.size; simp at this; omega)
  go_wp2_with fail
  refine (Ref.ac_any b B d hlb f0b f1b _ (hsb.below (by (repeat (first | with_reducible exact Below.refl _ _ | with_reducible assumption | (with_reducible refine bl_set ?_ (by simp; try omega) _) | (with_reducible refine bl_alloc ?_ _) | (with_reducible refine bl_dn ?_ _) | (with_reducible refine bl_drew ?_) | (with_reducible refine bl_then ?_ (by with_reducible assumption))))))).mono ?_
  rw [H2.out]
  rintro e w2 ⟨rfl, hg2⟩
  obtain ⟨hc2, hf2, hz2⟩ := bcell hg2
  (have zx0 : w.heap.size < w2.heap.size := by omega); (have zx1 : w.heap.size + 1 < w2.heap.size := by omega); (have zx2 : w.heap.size + 1 + 1 < w2.heap.size := by omega)
  go_wp2
  refine bodyPost_ret (v := .tuple #[.agg #[.int .i64 0, .int .i64 0, .int .i64 0, .int .i64 0, .slice none 0 0], .int .i64 22]) (by simp [results, Try.results37, go_sem, *]) rfl (arr_zero _ (by (repeat (first | with_reducible exact Below.refl _ _ | with_reducible assumption | (with_reducible refine bl_set ?_ (by simp; try omega) _) | (with_reducible refine bl_alloc ?_ _) | (with_reducible refine bl_dn ?_ _) | (with_reducible refine bl_drew ?_) | (with_reducible refine bl_then ?_ (by with_reducible assumption))))))
set_option maxRecDepth 100000 in
set_option maxHeartbeats 1000000 in
theorem cat_len (a : Arr) (A : Option Addr) (c : Nat) (hla : a.xs.length ≤ 9223372036854775807) (f0a : Fits a.l0) (f1a : Fits a.l1) (b : Arr) (B : Option Addr) (d : Nat) (hlb : b.xs.length ≤ 9223372036854775807) (f0b : Fits b.l0) (f1b : Fits b.l1) (w : World) (hsa : Sl w A a.xs) (hsb : Sl w B b.xs) (h : chk a = 0) (h2 : chk b = 0) (h3 : a.k = b.k) (h4 : a.r = b.r) (h5 : a.r = 2) (h6 : a.l0 ≠ b.l0) : Calls Try.prog 37 #[.agg #[.int .i64 a.k, .int .i64 a.r, .int .i64 a.l0, .int .i64 a.l1, .slice A a.xs.length c], .agg #[.int .i64 b.k, .int .i64 b.r, .int .i64 b.l0, .int .i64 b.l1, .slice B b.xs.length d]] w (ArrRet w (11, .zero)) := by
  have H := hide h; have H2 := hide h2
  (have n3 : (a.k != b.k) = false := by simpa using h3); (have n4 : (a.r != b.r) = false := by simpa using h4); (have n5 : (a.r == 0) = false := by rw [h5]; rfl); (have n6 : (a.r == 2) = true := by simpa using h5); (have n7 : (a.l0 != b.l0) = true := by simpa using h6); clear h3 h4 h5 h6
  clear h h2
  go_enter Try.func37, Try.ntmps37
  go_wp2_with fail
  refine (Ref.ac_any a A c hla f0a f1a _ (hsa.below (by (repeat (first | with_reducible exact Below.refl _ _ | with_reducible assumption | (with_reducible refine bl_set ?_ (by simp; try omega) _) | (with_reducible refine bl_alloc ?_ _) | (with_reducible refine bl_dn ?_ _) | (with_reducible refine bl_drew ?_) | (with_reducible refine bl_then ?_ (by with_reducible assumption))))))).mono ?_
  rw [H.out]
  rintro e w1 ⟨rfl, hg⟩
  obtain ⟨hc, hf, hz⟩ := bcell hg
  (have zw0 : w.heap.size < w1.heap.size := by have := hg.size; simp at this; omega); (have zw1 : w.heap.size + 1 < w1.heap.size := by have := hg.size; simp at this; omega); (have zw2 : w.heap.size + 1 + 1 < w1.heap.size := by have := hg.size; simp at this; omega)
  go_wp2_with fail
  refine (Ref.ac_any b B d hlb f0b f1b _ (hsb.below (by (repeat (first | with_reducible exact Below.refl _ _ | with_reducible assumption | (with_reducible refine bl_set ?_ (by simp; try omega) _) | (with_reducible refine bl_alloc ?_ _) | (with_reducible refine bl_dn ?_ _) | (with_reducible refine bl_drew ?_) | (with_reducible refine bl_then ?_ (by with_reducible assumption))))))).mono ?_
  rw [H2.out]
  rintro e w2 ⟨rfl, hg2⟩
  obtain ⟨hc2, hf2, hz2⟩ := bcell hg2
  (have zx0 : w.heap.size < w2.heap.size := by omega); (have zx1 : w.heap.size + 1 < w2.heap.size := by omega); (have zx2 : w.heap.size + 1 + 1 < w2.heap.size := by omega)
  go_wp2
  refine bodyPost_ret (v := .tuple #[.agg #[.int .i64 0, .int .i64 0, .int .i64 0, .int .i64 0, .slice none 0 0], .int .i64 11]) (by simp [results, Try.results37, go_sem, *]) rfl (arr_zero _ (by (repeat (first | with_reducible exact Below.refl _ _ | with_reducible assumption | (with_reducible refine bl_set ?_ (by simp; try omega) _) | (with_reducible refine bl_alloc ?_ _) | (with_reducible refine bl_dn ?_ _) | (with_reducible refine bl_drew ?_) | (with_reducible refine bl_then ?_ (by with_reducible assumption))))))
theorem chk_l {a : Arr} (ca : chk a = 0) : 0 ≤ a.l0 ∧ a.l0 ≤ 400 ∧ 0 ≤ a.l1 ∧ a.l1 ≤ 400 ∧ (a.xs.length : Int) ≤ 400 := by
  obtain ⟨h, n⟩ := chk_sh ca
  have h4 := sh_ok h
  unfold shCheck at h
  by_cases a1 : a.r < 0 ∨ 2 < a.r
  · rw [if_pos a1] at h; cases h
  rw [if_neg a1] at h
  by_cases b : (1 ≤ a.r ∧ a.l0 < 0) ∨ (2 ≤ a.r ∧ a.l1 < 0)
  · rw [if_pos b] at h; cases h
  rw [if_neg b] at h
  by_cases c : (a.r < 1 ∧ a.l0 ≠ 0) ∨ (a.r < 2 ∧ a.l1 ≠ 0)
  · rw [if_pos c] at h; cases h
  rw [if_neg c] at h
  by_cases d : 400 < a.l0 ∨ 400 < a.l1 ∨ 400 < prod a.r a.l0 a.l1
  · rw [if_pos d] at h; cases h
  omega
theorem wrap_add {x y : Int} (h0 : 0 ≤ x) (h1 : x ≤ 400) (h2 : 0 ≤ y) (h3 : y ≤ 400) : IntKind.i64.wrap (x + y) = x + y := IntWalk.i64_in _ (by omega)
set_option maxRecDepth 100000 in
set_option maxHeartbeats 1000000 in
theorem cat_many (a : Arr) (A : Option Addr) (c : Nat) (hla : a.xs.length ≤ 9223372036854775807) (f0a : Fits a.l0) (f1a : Fits a.l1) (b : Arr) (B : Option Addr) (d : Nat) (hlb : b.xs.length ≤ 9223372036854775807) (f0b : Fits b.l0) (f1b : Fits b.l1) (w : World) (hsa : Sl w A a.xs) (hsb : Sl w B b.xs) (h : chk a = 0) (h2 : chk b = 0) (h3 : a.k = b.k) (h4 : a.r = b.r) (h5 : a.r ≠ 0) (h6 : a.r ≠ 2 ∨ a.l0 = b.l0) (h7 : 400 < (a.xs.length : Int) + b.xs.length ∨ 400 < a.l1 + b.l1) : Calls Try.prog 37 #[.agg #[.int .i64 a.k, .int .i64 a.r, .int .i64 a.l0, .int .i64 a.l1, .slice A a.xs.length c], .agg #[.int .i64 b.k, .int .i64 b.r, .int .i64 b.l0, .int .i64 b.l1, .slice B b.xs.length d]] w (ArrRet w (15, .zero)) := by
  have H := hide h; have H2 := hide h2
  (have n3 : (a.k != b.k) = false := by simpa using h3); (have n4 : (a.r != b.r) = false := by simpa using h4); (have n5 : (a.r == 0) = false := by simpa using h5)
  have ea := chk_l h
  have eb := chk_l h2
  have ew := wrap_add (x := (a.xs.length : Int)) (y := (b.xs.length : Int)) (by omega) (by omega) (by omega) (by omega)
  have ew2 := wrap_add (x := a.l1) (y := b.l1) (by omega) (by omega) (by omega) (by omega)
  have n8 : decide (400 < (a.xs.length : Int) + b.xs.length) = true ∨ (decide (400 < (a.xs.length : Int) + b.xs.length) = false ∧ decide (400 < a.l1 + b.l1) = true) := by
    by_cases e : 400 < (a.xs.length : Int) + b.xs.length
    · left; simpa using e
    · right; exact ⟨by simpa using e, by simp; omega⟩
  have n6 : (a.r == 2) = false ∨ ((a.r == 2) = true ∧ (a.l0 != b.l0) = false) := by
    by_cases e : a.r = 2
    · right; exact ⟨by simpa using e, by simp; omega⟩
    · left; simpa using e
  clear h3 h4 h5 h6 h7 ea eb
  clear h h2
  go_enter Try.func37, Try.ntmps37
  go_wp2_with fail
  refine (Ref.ac_any a A c hla f0a f1a _ (hsa.below (by (repeat (first | with_reducible exact Below.refl _ _ | with_reducible assumption | (with_reducible refine bl_set ?_ (by simp; try omega) _) | (with_reducible refine bl_alloc ?_ _) | (with_reducible refine bl_dn ?_ _) | (with_reducible refine bl_drew ?_) | (with_reducible refine bl_then ?_ (by with_reducible assumption))))))).mono ?_
  rw [H.out]
  rintro e w1 ⟨rfl, hg⟩
  obtain ⟨hc, hf, hz⟩ := bcell hg
  (have zw0 : w.heap.size < w1.heap.size := by have := hg.size; simp at this; omega); (have zw1 : w.heap.size + 1 < w1.heap.size := by have := hg.size; simp at this; omega); (have zw2 : w.heap.size + 1 + 1 < w1.heap.size := by have := hg.size; simp at this; omega)
  go_wp2_with fail
  refine (Ref.ac_any b B d hlb f0b f1b _ (hsb.below (by (repeat (first | with_reducible exact Below.refl _ _ | with_reducible assumption | (with_reducible refine bl_set ?_ (by simp; try omega) _) | (with_reducible refine bl_alloc ?_ _) | (with_reducible refine bl_dn ?_ _) | (with_reducible refine bl_drew ?_) | (with_reducible refine bl_then ?_ (by with_reducible assumption))))))).mono ?_
  rw [H2.out]
  rintro e w2 ⟨rfl, hg2⟩
  obtain ⟨hc2, hf2, hz2⟩ := bcell hg2
  (have zx0 : w.heap.size < w2.heap.size := by omega); (have zx1 : w.heap.size + 1 < w2.heap.size := by omega); (have zx2 : w.heap.size + 1 + 1 < w2.heap.size := by omega)
  rcases n8 with n8 | ⟨n8, n9⟩ <;> rcases n6 with n6 | ⟨n6, n7⟩ <;> go_wp2
  all_goals skip
  all_goals
  refine bodyPost_ret (v := .tuple #[.agg #[.int .i64 0, .int .i64 0, .int .i64 0, .int .i64 0, .slice none 0 0], .int .i64 15]) (by simp [results, Try.results37, go_sem, *]) rfl (arr_zero _ (by (repeat (first | with_reducible exact Below.refl _ _ | with_reducible assumption | (with_reducible refine bl_set ?_ (by simp; try omega) _) | (with_reducible refine bl_alloc ?_ _) | (with_reducible refine bl_dn ?_ _) | (with_reducible refine bl_drew ?_) | (with_reducible refine bl_then ?_ (by with_reducible assumption))))))
end Ar
end Go.Proofs.Ytfpnafeildigaaa
/-
invigilatorref07.Cat whole, Ravel (chapter 7's reference, for every seat).
-/
set_option linter.unusedSimpArgs false
set_option linter.unusedVariables false
namespace Go.Proofs.Ytfpnafeildigaaa
namespace Ar
open Go.RowKit Sc
def catGood (a b : Arr) : Int × Arr := if a.r = 1 then (0, vec' a.k (a.xs ++ b.xs)) else (0, ⟨a.k, 2, a.l0, a.l1 + b.l1, catRows a.l0.toNat a.l1.toNat b.l1.toNat a.xs b.xs⟩)
theorem cat_shape {a b : Arr} (h : chk a = 0) (h2 : chk b = 0) (h4 : a.r = b.r) (h5 : a.r ≠ 0) (h6 : a.r ≠ 2 ∨ a.l0 = b.l0) :
    ∃ m n k : Nat, rowsOf a = ((m : Int), (n : Int)) ∧ rowsOf b = ((m : Int), (k : Int)) ∧ m * n = a.xs.length ∧ m * k = b.xs.length ∧ m ≤ 400 ∧ n ≤ 400 ∧ k ≤ 400 ∧
      ((a.r == 1) = true → catGood a b = (0, ⟨a.k, 1, (catRows m n k a.xs b.xs).length, 0, catRows m n k a.xs b.xs⟩)) ∧ ((a.r == 1) = false → catGood a b = (0, ⟨a.k, 2, m, (n : Int) + k, catRows m n k a.xs b.xs⟩)) := by
  obtain ⟨m, n, e1, e2, e3, e4⟩ := rows_nat h h5
  obtain ⟨m', k, f1, f2, f3, f4⟩ := rows_nat h2 (by omega)
  by_cases hr : a.r = 2
  · have r1 := rows_two h hr
    have r2 := rows_two h2 (by omega)
    unfold rowsOf at e1 f1
    rw [if_pos hr] at e1
    rw [if_pos (by omega)] at f1
    injection e1 with x1 x2
    injection f1 with y1 y2
    have hm : m' = m := by omega
    subst hm
    refine ⟨m', n, k, by unfold rowsOf; rw [if_pos hr, x1, x2], by unfold rowsOf; rw [if_pos (by omega), y1, y2], e2, f2, e3, e4, f4, fun e => ?_, fun _ => ?_⟩
    · rw [hr] at e; cases e
    · unfold catGood
      rw [if_neg (by omega), x1, x2, y2]; simp
  · have hr1 : a.r = 1 := by have := (sh_ok (chk_sh h).1).1; omega
    unfold rowsOf at e1 f1
    rw [if_neg hr] at e1
    rw [if_neg (by omega)] at f1
    injection e1 with x1 x2
    injection f1 with y1 y2
    have hm : m = 1 := by omega
    have hm' : m' = 1 := by omega
    have hn : n = a.xs.length := by omega
    have hk : k = b.xs.length := by omega
    subst hm hm' hn hk
    refine ⟨1, a.xs.length, b.xs.length, by unfold rowsOf; rw [if_neg hr]; rfl, by unfold rowsOf; rw [if_neg (by omega)]; rfl, e2, f2, e3, e4, f4, fun _ => ?_, fun e => ?_⟩
    · unfold catGood
      rw [if_pos hr1, catRows_one]; rfl
    · rw [hr1] at e; cases e
theorem wrap_nat {x : Int} {n : Nat} (h : x = (n : Int)) (hn : n ≤ 1000000) : IntKind.i64.wrap x = (n : Int) := by rw [h]; exact IntWalk.i64_in _ (by omega)
set_option maxRecDepth 100000 in
set_option maxHeartbeats 4000000 in
theorem cat_main (a : Arr) (A : Option Addr) (c : Nat) (hla : a.xs.length ≤ 9223372036854775807) (f0a : Fits a.l0) (f1a : Fits a.l1) (b : Arr) (B : Option Addr) (d : Nat) (hlb : b.xs.length ≤ 9223372036854775807) (f0b : Fits b.l0) (f1b : Fits b.l1) (hcA : a.xs.length ≤ c) (hcB : b.xs.length ≤ d) (w : World) (hsa : Sl w A a.xs) (hsb : Sl w B b.xs) (h : chk a = 0) (h2 : chk b = 0) (h3 : a.k = b.k) (h4 : a.r = b.r) (h5 : a.r ≠ 0)
    (h6 : a.r ≠ 2 ∨ a.l0 = b.l0) (h7 : (a.xs.length : Int) + b.xs.length ≤ 400) (h8 : a.l1 + b.l1 ≤ 400) : Calls Try.prog 37 #[.agg #[.int .i64 a.k, .int .i64 a.r, .int .i64 a.l0, .int .i64 a.l1, .slice A a.xs.length c], .agg #[.int .i64 b.k, .int .i64 b.r, .int .i64 b.l0, .int .i64 b.l1, .slice B b.xs.length d]] w (ArrRet w (catGood a b)) := by
  obtain ⟨m, n, k, em, en, hmn, hmk, hm4, hn4, hk4, hR1, hR2⟩ := cat_shape h h2 h4 h5 h6
  have H := hide h; have H2 := hide h2; have HM := hide em; have HN := hide en; have HX := hide hmn; have HY := hide hmk; have HR1 := hide hR1; have HR2 := hide hR2; have H7 := hide h7
  have hcA := hide hcA; have hcB := hide hcB
  have n3 : (a.k != b.k) = false := by simpa using h3
  have n4 : (a.r != b.r) = false := by simpa using h4
  have n5 : (a.r == 0) = false := by simpa using h5
  have ea := chk_l h
  have eb := chk_l h2
  have ew := wrap_add (x := (a.xs.length : Int)) (y := (b.xs.length : Int)) (by omega) (by omega) (by omega) (by omega)
  have ew2 := wrap_add (x := a.l1) (y := b.l1) (by omega) (by omega) (by omega) (by omega)
  have n8 : decide (400 < (a.xs.length : Int) + b.xs.length) = false := by simp; omega
  have n9 : decide (400 < a.l1 + b.l1) = false := by simp; omega
  have n6 : (a.r == 2) = false ∨ ((a.r == 2) = true ∧ (a.l0 != b.l0) = false) := by
    by_cases e : a.r = 2
    · right; exact ⟨by simpa using e, by simp; omega⟩
    · left; simpa using e
  have n6 := hide n6
  obtain ⟨v1, hv1⟩ : ∃ v, (a.r == 1) = v := ⟨_, rfl⟩
  rw [hv1] at HR1 HR2
  clear h h2 h3 h4 h5 h6 h7 h8 ea eb em en hmn hmk hR1 hR2
  go_enter Try.func37, Try.ntmps37
  go_wp2_with fail
  refine (Ref.ac_any a A c hla f0a f1a _ (hsa.below (by (repeat (first | with_reducible exact Below.refl _ _ | with_reducible assumption | (with_reducible refine bl_set ?_ (by simp; try omega) _) | (with_reducible refine bl_alloc ?_ _) | (with_reducible refine bl_dn ?_ _) | (with_reducible refine bl_drew ?_) | (with_reducible refine bl_then ?_ (by with_reducible assumption))))))).mono ?_
  rw [H.out]
  rintro e w1 ⟨rfl, hg1⟩
  have st1 := hide (((((St.init w).box c hsa).box d (hsb.below (bl_new _ _))).alloc _).below hg1)
  have rb1 := hide ((RBox.new _ _).below hg1)
  simp only [World.size_alloc] at st1 rb1
  clear hg1
  obtain ⟨hbw, ⟨⟨b0, b1, b2, b3, b4⟩, sb, zb⟩, ⟨⟨a0, a1, a2, a3, a4⟩, sa, za⟩, _⟩ := st1.out
  go_wp2_with fail
  refine (Ref.ac_any b B d hlb f0b f1b _ (sb.below (by (repeat (first | with_reducible exact Below.refl _ _ | with_reducible assumption | (with_reducible refine bl_set ?_ (by simp; try omega) _) | (with_reducible refine bl_alloc ?_ _) | (with_reducible refine bl_dn ?_ _) | (with_reducible refine bl_drew ?_) | (with_reducible refine bl_then ?_ (by with_reducible assumption))))))).mono ?_
  rw [H2.out]
  rintro e w2 ⟨rfl, hg2⟩
  have st2 := hide (st1.out.below hg2)
  have rb2 := hide (rb1.out.below hg2)
  clear hbw st1 rb1 hg2; clear a0 a1 a2 a3 a4 sa za; clear b0 b1 b2 b3 b4 sb zb
  obtain ⟨hbw, ⟨⟨b0, b1, b2, b3, b4⟩, sb, zb⟩, ⟨⟨a0, a1, a2, a3, a4⟩, sa, za⟩, _⟩ := st2.out
  go_upto_region 8 with fail
  go_cut [57] from 13 (fun s57 wx => s57 = .bool false ∧ w2 = wx)
  case first =>
    rcases n6.out with n6' | ⟨n6', n7⟩
    all_goals
      go_wp2_with fail
      go_meet
      exact ⟨rfl, rfl⟩
  case rest =>
    obtain ⟨rfl, rfl⟩ := hcut
    go_wp2_with fail
    refine (rows_any a A c _).mono ?_
    rw [HM.out]
    rintro e w3 ⟨rfl, hg3⟩
    have st3 := hide (st2.out.below hg3)
    have rb3 := hide (rb2.out.below hg3)
    clear hbw st2 rb2 hg3; clear a0 a1 a2 a3 a4 sa za; clear b0 b1 b2 b3 b4 sb zb
    obtain ⟨hbw, ⟨⟨b0, b1, b2, b3, b4⟩, sb, zb⟩, ⟨⟨a0, a1, a2, a3, a4⟩, sa, za⟩, _⟩ := st3.out
    go_wp2_with fail
    refine (rows_any b B d _).mono ?_
    rw [HN.out]
    rintro e w4 ⟨rfl, hg4⟩
    have st4 := hide (st3.out.below hg4)
    have rb4 := hide (rb3.out.below hg4)
    clear hbw st3 rb3 hg4 n3 n4 n5 n8 n9 ew ew2; clear a0 a1 a2 a3 a4 sa za; clear b0 b1 b2 b3 b4 sb zb
    obtain ⟨hbw, ⟨⟨b0, b1, b2, b3, b4⟩, sb, zb⟩, ⟨⟨a0, a1, a2, a3, a4⟩, sa, za⟩, _⟩ := st4.out
    go_wp2
    go_loopw [7, 12] (fun s7 i wr => ∃ (j : Nat) (ys : List Int) (v : Value), j ≤ m ∧ v = s7 ∧ i = .int .i64 j ∧ Hid (ys = catRows j n k a.xs b.xs) ∧ Hid (Acc wr w4.heap.size v ys) ∧ Hid (Below w4.heap.size w4 wr)) (fun _ i _ => m - (intOf i).toNat)
    case atStart => exact ⟨0, [], _, Nat.zero_le _, rfl, rfl, rfl, Acc.nil _ _, Below.refl _ _⟩
    case round =>
      obtain ⟨j, ys, v, hj, rfl, rfl, hy, hac, hbl⟩ := hrel
      clear hbw; clear a0 a1 a2 a3 a4 sa za; clear b0 b1 b2 b3 b4 sb zb
      have st5 := hide (st4.out.below hbl.out)
      obtain ⟨hbw, ⟨⟨b0, b1, b2, b3, b4⟩, sb, zb⟩, ⟨⟨a0, a1, a2, a3, a4⟩, sa, za⟩, _⟩ := st5.out
      by_cases hlt : j < m
      · obtain ⟨q, hq⟩ : ∃ q, j * n = q := ⟨_, rfl⟩
        obtain ⟨s, hs⟩ : ∃ s, j * k = s := ⟨_, rfl⟩
        have q1 : q + n ≤ a.xs.length := by rw [← hq, ← HX.out, ← Nat.succ_mul]; exact Nat.mul_le_mul_right _ hlt
        have s1 : s + k ≤ b.xs.length := by rw [← hs, ← HY.out, ← Nat.succ_mul]; exact Nat.mul_le_mul_right _ hlt
        have hl7 := H7.out
        have yl : ys.length = q + s := by rw [hy.out, catRows_len j (by rw [hq]; omega) (by rw [hs]; omega), Nat.mul_add, hq, hs]
        have e1 : IntKind.i64.wrap ((j : Int) * (n : Int)) = (q : Int) := wrap_nat (by rw [← hq, Int.natCast_mul]) (by omega)
        have e2 : IntKind.i64.wrap ((q : Int) + (n : Int)) = (q : Int) + (n : Int) := IntWalk.i64_in _ (by omega)
        have e3 : IntKind.i64.wrap ((j : Int) * (k : Int)) = (s : Int) := wrap_nat (by rw [← hs, Int.natCast_mul]) (by omega)
        have e4 : IntKind.i64.wrap ((s : Int) + (k : Int)) = (s : Int) + (k : Int) := IntWalk.i64_in _ (by omega)
        have p1 : ∀ W, (Instr.slice 23 (.slice A a.xs.length c) (some (.int .i64 (q : Int))) (some (.int .i64 ((q : Int) + (n : Int)))) none).run Try.prog W = .ok (.slice (part A q c) n (c - q)) W := fun W => by
          rw [show (q : Int) + (n : Int) = ((q + n : Nat) : Int) by omega, run_part A a.xs.length c q (q + n) (by omega) (by have := hcA.out; omega) W, Nat.add_sub_cancel_left]
        have p2 : ∀ W, (Instr.slice 23 (.slice B b.xs.length d) (some (.int .i64 (s : Int))) (some (.int .i64 ((s : Int) + (k : Int)))) none).run Try.prog W = .ok (.slice (part B s d) k (d - s)) W := fun W => by
          rw [show (s : Int) + (k : Int) = ((s + k : Nat) : Int) by omega, run_part B b.xs.length d s (s + k) (by omega) (by have := hcB.out; omega) W, Nat.add_sub_cancel_left]
        have hY : Hid (ys ++ (a.xs.drop q).take n ++ (b.xs.drop s).take k = catRows (j + 1) n k a.xs b.xs) := by show _ = _; rw [catRows_succ, hq, hs, ← hy.out, List.append_assoc]
        have hl1 : ys.length + ((a.xs.drop q).take n).length ≤ 1000000 := by rw [part_len q1]; omega
        have hl2 : (ys ++ (a.xs.drop q).take n).length + ((b.xs.drop s).take k).length ≤ 1000000 := by rw [List.length_append, part_len q1, part_len s1]; omega
        have hpa := hide (sa.part (m := c) q1 hcA.out)
        have hpb := hide (sb.part (m := d) s1 hcB.out)
        have hla' := hide (part_len q1).symm
        have hlb' := hide (part_len s1).symm
        have hz4 : w4.heap.size ≤ wr.heap.size := hbl.out.size
        have zaw : w.heap.size < w4.heap.size := by have := st4.out.2.2.1.2.2; exact this
        have zbw : w.heap.size + 1 < w4.heap.size := by have := st4.out.2.1.2.2; exact this
        clear hq hs yl
        go_upto_region 20 with fail
        have hbl4 : Below w4.heap.size w4 wr := hbl.out
        have ca4 := st4.out.2.2.1.1.2.2.2.2
        have cb4 := st4.out.2.1.1.2.2.2.2
        go_region_held3 (fun w' => Below w4.heap.size w4 w' ∧ ∀ b o, b < w4.heap.size → w'.cell? ⟨b, o, none⟩ = w4.cell? ⟨b, o, none⟩) (first | assumption | (refine same_of ?_; (repeat (first | with_reducible exact Below.refl _ _ | with_reducible assumption | (with_reducible refine bl_set ?_ (by simp; try omega) _) | (with_reducible refine bl_alloc ?_ _) | (with_reducible refine bl_dn ?_ _) | (with_reducible refine bl_drew ?_) | (with_reducible refine bl_then ?_ (by with_reducible assumption)))))) (first
            | (refine step_app64 rfl (.tmp 99) (.tmp 110) rfl w4.heap.size v ys rfl (by exact hac.out) (part A q c) (c - q) n ((a.xs.drop q).take n) hla'.out rfl (by exact hpa.out) hl1 (by exact hz4) ?_; intro v1 wa hacA hgA; (obtain ⟨hbb, _⟩ := (by assumption : Below w4.heap.size w4 _ ∧ _)); have hba := below_gb hbb hgA hbb.size (fun k hk => hac.out.own_ge k hk); have hS := same_of hba; have hba := hide hba; have hacA := hide hacA; clear hbb hgA)
            | (refine step_app64 rfl (.tmp 111) (.tmp 122) rfl w4.heap.size v1 (ys ++ (a.xs.drop q).take n) rfl (by exact hacA.out) (part B s d) (d - s) k ((b.xs.drop s).take k) hlb'.out rfl (by exact ((st4.out.2.1.2.1.below hba.out).part (m := d) s1 hcB.out)) hl2 (by exact hba.out.size) ?_; intro v2 wb hacB hgB; (obtain ⟨hbb, _⟩ := (by assumption : Below w4.heap.size w4 _ ∧ _)); have hbc := below_gb hbb hgB hbb.size (fun k hk => hacA.out.own_ge k hk); have hS := same_of hbc; have hbc := hide hbc; have hacB := hide hacB; clear hbb hgB))
        clear ca4 cb4 hbl4 hbw p1 p2 e1 e2 e3 e4; clear a0 a1 a2 a3 a4 sa za; clear b0 b1 b2 b3 b4 sb zb
        go_wp2
        go_roundw
        case rel => exact ⟨j + 1, _, _, by omega, rfl, by go_num, hY, hacB, hbc⟩
        case measure => simp [intOf]; omega
      · have hjm : j = m := by omega
        subst hjm
        obtain ⟨⟨r0, r1, r2, r3, r4⟩, rf, zr⟩ := rb4.out.below (bl_then (Below.refl _ _) hbl.out)
        have hyl : ys.length ≤ 100000 := by have := H7.out; rw [hy.out, catRows_len j (by rw [HX.out]; omega) (by rw [HY.out]; omega), Nat.mul_add, HX.out, HY.out]; omega
        have hz4 : w4.heap.size ≤ wr.heap.size := hbl.out.size
        have e5 : IntKind.i64.wrap ((n : Int) + (k : Int)) = (n : Int) + (k : Int) := wrap_add (by omega) (by omega) (by omega) (by omega)
        obtain ⟨V, cv, rfl, hsl, hge, hcp⟩ := hac.out.sl
        have hsl := hide hsl
        cases v1
        · have HR := hide (HR2.out rfl)
          go_wp2_with fail
          refine (matrix_any a.k j ((n : Int) + (k : Int)) V cv ys hyl _ (hsl.out.below (by (repeat (first | with_reducible exact Below.refl _ _ | with_reducible assumption | (with_reducible refine bl_set ?_ (by simp; try omega) _) | (with_reducible refine bl_alloc ?_ _) | (with_reducible refine bl_dn ?_ _) | (with_reducible refine bl_drew ?_) | (with_reducible refine bl_then ?_ (by with_reducible assumption))))))).mono ?_
          rintro e w9 ⟨hg9, C, cc, rfl, hsC, hgeC, hcpC⟩
          have rb9 := hide (RBox.below (w := wr) ⟨⟨r0, r1, r2, r3, r4⟩, rf, zr⟩ hg9)
          have hb9 := bl_then hbw hg9
          have zw9 : w.heap.size + 1 + 1 < wr.heap.size := zr
          clear r0 r1 r2 r3 r4 rf zr hbw; clear a0 a1 a2 a3 a4 sa za; clear b0 b1 b2 b3 b4 sb zb
          obtain ⟨⟨r0, r1, r2, r3, r4⟩, rf, zr⟩ := rb9.out
          go_wp2
          rw [HR.out, ← hy.out]
          refine bodyPost_ret (v := .tuple #[.agg #[.int .i64 a.k, .int .i64 2, .int .i64 j, .int .i64 ((n : Int) + k), .slice C ys.length cc], .int .i64 0]) (by simp [results, Try.results37, go_sem, *]) rfl ⟨by (repeat (first | with_reducible exact Below.refl _ _ | with_reducible assumption | (with_reducible refine bl_set ?_ (by simp; try omega) _) | (with_reducible refine bl_alloc ?_ _) | (with_reducible refine bl_dn ?_ _) | (with_reducible refine bl_drew ?_) | (with_reducible refine bl_then ?_ (by with_reducible assumption)))), C, cc, rfl, ?_, ?_, hcpC⟩
          · repeat (refine Sl.set (B := wr.heap.size) ?_ hgeC (by simp; omega) _)
            exact hsC
          · intro g o e; have := hgeC g o e; omega
        · have HR := hide (HR1.out rfl)
          go_wp2_with fail
          refine (vector_any a.k V cv ys hyl _ (hsl.out.below (by (repeat (first | with_reducible exact Below.refl _ _ | with_reducible assumption | (with_reducible refine bl_set ?_ (by simp; try omega) _) | (with_reducible refine bl_alloc ?_ _) | (with_reducible refine bl_dn ?_ _) | (with_reducible refine bl_drew ?_) | (with_reducible refine bl_then ?_ (by with_reducible assumption))))))).mono ?_
          rintro e w9 ⟨hg9, C, cc, rfl, hsC, hgeC, hcpC⟩
          have rb9 := hide (RBox.below (w := wr) ⟨⟨r0, r1, r2, r3, r4⟩, rf, zr⟩ hg9)
          have hb9 := bl_then hbw hg9
          have zw9 : w.heap.size + 1 + 1 < wr.heap.size := zr
          clear r0 r1 r2 r3 r4 rf zr hbw; clear a0 a1 a2 a3 a4 sa za; clear b0 b1 b2 b3 b4 sb zb
          obtain ⟨⟨r0, r1, r2, r3, r4⟩, rf, zr⟩ := rb9.out
          go_wp2
          rw [HR.out, ← hy.out]
          refine bodyPost_ret (v := .tuple #[.agg #[.int .i64 a.k, .int .i64 1, .int .i64 ys.length, .int .i64 0, .slice C ys.length cc], .int .i64 0]) (by simp [results, Try.results37, go_sem, *]) rfl ⟨by (repeat (first | with_reducible exact Below.refl _ _ | with_reducible assumption | (with_reducible refine bl_set ?_ (by simp; try omega) _) | (with_reducible refine bl_alloc ?_ _) | (with_reducible refine bl_dn ?_ _) | (with_reducible refine bl_drew ?_) | (with_reducible refine bl_then ?_ (by with_reducible assumption)))), C, cc, rfl, ?_, ?_, hcpC⟩
          · repeat (refine Sl.set (B := wr.heap.size) ?_ hgeC (by simp; omega) _)
            exact hsC
          · intro g o e; have := hgeC g o e; omega
/-- Cat: what it hands back; the slices' capacities are at least their lengths -/
theorem cat_any (a : Arr) (A : Option Addr) (c : Nat) (hla : a.xs.length ≤ 9223372036854775807) (f0a : Fits a.l0) (f1a : Fits a.l1) (b : Arr) (B : Option Addr) (d : Nat) (hlb : b.xs.length ≤ 9223372036854775807) (f0b : Fits b.l0) (f1b : Fits b.l1) (hcA : a.xs.length ≤ c) (hcB : b.xs.length ≤ d) (w : World) (hsa : Sl w A a.xs) (hsb : Sl w B b.xs) : Calls Try.prog 37 #[.agg #[.int .i64 a.k, .int .i64 a.r, .int .i64 a.l0, .int .i64 a.l1, .slice A a.xs.length c], .agg #[.int .i64 b.k, .int .i64 b.r, .int .i64 b.l0, .int .i64 b.l1, .slice B b.xs.length d]] w (ArrRet w (extCat a b)) := by
  unfold extCat
  by_cases h : chk a = 0
  · rw [if_neg (by simpa using h)]
    by_cases h2 : chk b = 0
    · rw [if_neg (by simpa using h2)]
      by_cases h3 : a.k = b.k
      · rw [if_neg (by simpa using h3)]
        by_cases h4 : a.r = b.r
        · by_cases h5 : a.r = 0
          · rw [if_pos (by omega)]; exact cat_flat a A c hla f0a f1a b B d hlb f0b f1b w hsa hsb h h2 h3 h4 h5
          · rw [if_neg (by omega)]
            by_cases h6 : a.r = 2 ∧ a.l0 ≠ b.l0
            · rw [if_pos h6]; exact cat_len a A c hla f0a f1a b B d hlb f0b f1b w hsa hsb h h2 h3 h4 h6.1 h6.2
            · rw [if_neg h6]
              by_cases h7 : 400 < (a.xs.length : Int) + b.xs.length ∨ 400 < a.l1 + b.l1
              · rw [if_pos h7]; exact cat_many a A c hla f0a f1a b B d hlb f0b f1b w hsa hsb h h2 h3 h4 h5 (by omega) h7
              · rw [if_neg h7]
                exact cat_main a A c hla f0a f1a b B d hlb f0b f1b hcA hcB w hsa hsb h h2 h3 h4 h5 (by omega) (by omega) (by omega)
        · rw [if_pos (.inl h4)]; exact cat_rank a A c hla f0a f1a b B d hlb f0b f1b w hsa hsb h h2 h3 h4
      · rw [if_pos h3]; exact cat_kind a A c hla f0a f1a b B d hlb f0b f1b w hsa hsb h h2 h3
    · rw [if_pos h2]; exact cat_bad_b a A c hla f0a f1a b B d hlb f0b f1b w hsa hsb h h2
  · rw [if_pos h]; exact cat_bad_a a A c hla f0a f1a b B d hlb f0b f1b w hsa hsb h
end Ar
end Go.Proofs.Ytfpnafeildigaaa
/-
invigilatorref07.Flip: its contract (chapter 7's reference, for every seat).
-/
set_option linter.unusedSimpArgs false
set_option linter.unusedVariables false
namespace Go.Proofs.Ytfpnafeildigaaa
namespace Ar
open Go.RowKit Sc
theorem sl_1 {w : World} {X : Nat} {x : Int} (h0 : w.cell? ⟨X, 0, none⟩ = some (.int .i64 x)) : Sl w (some ⟨X, 0, none⟩) [x] := fun _ =>
  ⟨X, 0, rfl, block_lt_of_cell h0, fun j hj => by
    obtain rfl : j = 0 := by simpa using hj
    exact h0⟩
end Ar
end Go.Proofs.Ytfpnafeildigaaa
