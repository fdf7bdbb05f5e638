/-
Parts of slices of numbers; append at a step of a region that draws its order; matrices of the reference (for every seat).
-/
import Derived.Test.YtfpnafeildigaaaBa7
import Derived.Test.YtfpnafeildigaaaBb3
import Derived.Laws.Slices
import Derived.Test.YtfpnafeildigaaaBb4
import Derived.Deep.RegionHeld3
set_option linter.unusedSimpArgs false
set_option linter.unusedVariables false
namespace Go.Proofs.Ytfpnafeildigaaa
namespace Ar
open Go.RowKit Sc
/-- where a part of a slice begins -/
def part (A : Option Addr) (l m : Nat) : Option Addr := if m = l then A else A.map (fun p => p.add l)
theorem add_plain (b o n : Nat) : (⟨b, o, none⟩ : Addr).add n = ⟨b, o + n, none⟩ := by unfold Addr.add; split <;> simp_all
theorem Sl.part {w : World} {A : Option Addr} {xs : List Int} (h : Sl w A xs) {l n m : Nat} (hn : l + n ≤ xs.length) (hm : xs.length ≤ m) : Sl w (Ar.part A l m) ((xs.drop l).take n) := fun hne => by
  have h0 : 0 < n := by
    rcases Nat.eq_zero_or_pos n with e | e
    · exact absurd (by rw [e]; simp) hne
    · exact e
  obtain ⟨b, o, e, hl, hc⟩ := h (by rintro rfl; simp at hn; omega)
  subst e
  refine ⟨b, o + l, by unfold Ar.part; rw [if_neg (by omega)]; simp [add_plain], hl, fun j hj => ?_⟩
  rw [List.length_take, List.length_drop] at hj
  rw [Nat.add_assoc, hc (l + j) (by omega)]
  simp [List.getD_eq_getElem?_getD, List.getElem?_take, show j < n by omega, List.getElem?_drop]
theorem part_len {xs : List Int} {l n : Nat} (hn : l + n ≤ xs.length) : ((xs.drop l).take n).length = n := by rw [List.length_take, List.length_drop]; omega
theorem run_part3 (A : Option Addr) (len cap l h m : Nat) (hl : l ≤ h) (hm : h ≤ m) (hh : m ≤ cap) (w : World) :
    (Instr.slice 23 (.slice A len cap) (some (.int .i64 l)) (some (.int .i64 h)) (some (.int .i64 m))).run Try.prog w = .ok (.slice (part A l m) (h - l) (m - l)) w := by
  rw [run_slice_lhm w 23 A len cap (by kernel_rfl) .i64 .i64 .i64 l h m (by omega) (by omega) (by omega) (by omega)]
  have e : (Try.prog.elem 23) = 2 := by kernel_rfl
  obtain ⟨i0, hi0, hz0, hz1, hz2⟩ := info_parts info_i64
  rw [e]
  simp [sizeOf, typeInfo, hi0, hz1, sliced, part]
theorem run_partTo (A : Option Addr) (len cap h : Nat) (hh : h ≤ cap) (w : World) :
    (Instr.slice 23 (.slice A len cap) none (some (.int .i64 h)) none).run Try.prog w = .ok (.slice (part A 0 cap) h cap) w := by
  rw [run_slice_h w 23 A len cap (by kernel_rfl) .i64 h (by omega) (by omega)]
  have e : (Try.prog.elem 23) = 2 := by kernel_rfl
  obtain ⟨i0, hi0, hz0, hz1, hz2⟩ := info_parts info_i64
  rw [e]
  simp [sizeOf, typeInfo, hi0, hz1, sliced, part]
theorem matrix_any (k m n : Int) (A : Option Addr) (c : Nat) (xs : List Int) (hl : xs.length ≤ 100000) (w : World) (hs : Sl w A xs) : Calls Try.prog 78 #[.int .i64 k, .int .i64 m, .int .i64 n, .slice A xs.length c] w (ArrOne w ⟨k, 2, m, n, xs⟩) := by
  go_enter Try.func78, Try.ntmps78
  go_wp2_with (at_builtin; refine wpList_app64 rfl (.tmp 13) (.tmp 14) rfl (w.heap.size + 1) (.slice (some ⟨w.heap.size + 1, 0, none⟩) 0 0) [] rfl (by have := acc_empty (w.alloc (.cells #[.int .i64 0, .int .i64 0, .int .i64 0, .int .i64 0, .slice none 0 0] 25)) 2 rfl; simpa using this) A c xs.length xs rfl rfl (hs.below (by (repeat (first | with_reducible exact Below.refl _ _ | with_reducible assumption | (with_reducible refine bl_set ?_ (by simp; try omega) _) | (with_reducible refine bl_alloc ?_ _) | (with_reducible refine bl_dn ?_ _) | (with_reducible refine bl_drew ?_) | (with_reducible refine bl_then ?_ (by with_reducible assumption)))))) (by simp; omega) (by simp) ?_; intro v' w1 hacc hg; (have hb := hide (below_gb (w := (w.alloc (.cells #[.int .i64 0, .int .i64 0, .int .i64 0, .int .i64 0, .slice none 0 0] 25)).alloc (.cells #[] 2)) (B := w.heap.size + 1) (Below.refl _ _) hg (by simp) (by intro k hk; simp [Value.ownBlock] at hk; omega))); (obtain ⟨hc, hf⟩ : (∀ b o, b < w.heap.size + 1 → w1.cell? ⟨b, o, none⟩ = ((w.alloc (.cells #[.int .i64 0, .int .i64 0, .int .i64 0, .int .i64 0, .slice none 0 0] 25)).alloc (.cells #[] 2)).cell? ⟨b, o, none⟩) ∧ (∀ b o, b < w.heap.size + 1 → w1.frozen? ⟨b, o, none⟩ = ((w.alloc (.cells #[.int .i64 0, .int .i64 0, .int .i64 0, .int .i64 0, .slice none 0 0] 25)).alloc (.cells #[] 2)).frozen? ⟨b, o, none⟩) := ⟨fun b o h => hb.out.cell (p := ⟨b, o, none⟩) h, fun b o h => hb.out.frozen (p := ⟨b, o, none⟩) h⟩); (have hz := hb.out.size); (obtain ⟨V, cv, rfl, hsl, hge, hcp⟩ := hacc.sl); (have hsl := hide hsl); clear hacc hg)
  have hbw : Below w.heap.size w w1 := Below.trans (by (repeat (first | with_reducible exact Below.refl _ _ | with_reducible assumption | (with_reducible refine bl_set ?_ (by simp; try omega) _) | (with_reducible refine bl_alloc ?_ _) | (with_reducible refine bl_dn ?_ _) | (with_reducible refine bl_drew ?_) | (with_reducible refine bl_then ?_ (by with_reducible assumption))))) (hb.out.mono (by omega))
  have hl1 : w.heap.size < w1.heap.size := by simp at hz; omega
  refine bodyPost_ret (v := .agg #[.int .i64 k, .int .i64 2, .int .i64 m, .int .i64 n, .slice V xs.length cv]) (by simp [results, Try.results78, go_sem, hc]) rfl ⟨by (repeat (first | with_reducible exact Below.refl _ _ | with_reducible assumption | (with_reducible refine bl_set ?_ (by simp; try omega) _) | (with_reducible refine bl_alloc ?_ _) | (with_reducible refine bl_dn ?_ _) | (with_reducible refine bl_drew ?_) | (with_reducible refine bl_then ?_ (by with_reducible assumption)))), V, cv, rfl, ?_, (fun g o e => by have := hge g o e; omega), hcp⟩
  repeat (refine Sl.set ?_ hge (by simp) _)
  exact hsl.out
end Ar
end Go.Proofs.Ytfpnafeildigaaa
/-
invigilatorref07.Cat, Ravel: their contracts (chapter 7's reference, for every seat).
-/
set_option linter.unusedSimpArgs false
set_option linter.unusedVariables false
namespace Go.Proofs.Ytfpnafeildigaaa
namespace Ar
open Go.RowKit Sc
end Ar
end Go.Proofs.Ytfpnafeildigaaa
/-
invigilatorref07.Cat whole, Ravel (chapter 7's reference, for every seat).
-/
set_option linter.unusedSimpArgs false
set_option linter.unusedVariables false
namespace Go.Proofs.Ytfpnafeildigaaa
namespace Ar
open Go.RowKit Sc
theorem wrap_nat {x : Int} {n : Nat} (h : x = (n : Int)) (hn : n ≤ 1000000) : IntKind.i64.wrap x = (n : Int) := by rw [h]; exact IntWalk.i64_in _ (by omega)
theorem ravel_any (a : Arr) (A : Option Addr) (c : Nat) (hla : a.xs.length ≤ 100000) (f0 : Fits a.l0) (f1 : Fits a.l1) (w : World) (hs : Sl w A a.xs) : Calls Try.prog 40 #[.agg #[.int .i64 a.k, .int .i64 a.r, .int .i64 a.l0, .int .i64 a.l1, .slice A a.xs.length c]] w (ArrRet w (extRavel a)) := by
  unfold extRavel
  by_cases h : chk a = 0
  · rw [if_neg (by simpa using h)]
    have H := hide h
    clear h
    go_enter Try.func40, Try.ntmps40
    go_wp2_with fail
    refine (Ref.ac_any a A c (by omega) f0 f1 _ (hs.below (by (repeat (first | with_reducible exact Below.refl _ _ | with_reducible assumption | (with_reducible refine bl_set ?_ (by simp; try omega) _) | (with_reducible refine bl_alloc ?_ _) | (with_reducible refine bl_dn ?_ _) | (with_reducible refine bl_drew ?_) | (with_reducible refine bl_then ?_ (by with_reducible assumption))))))).mono ?_
    rw [H.out]
    rintro e w1 ⟨rfl, hg1⟩
    have st1 := hide ((((St.init w).box c hs).alloc _).below hg1)
    have rb1 := hide ((RBox.new _ _).below hg1)
    simp only [World.size_alloc] at rb1
    clear hg1
    obtain ⟨hbw, ⟨⟨a0, a1, a2, a3, a4⟩, sa, za⟩, _⟩ := st1.out
    go_wp2_with fail
    refine (vector_any a.k A c a.xs hla _ (sa.below (by (repeat (first | with_reducible exact Below.refl _ _ | with_reducible assumption | (with_reducible refine bl_set ?_ (by simp; try omega) _) | (with_reducible refine bl_alloc ?_ _) | (with_reducible refine bl_dn ?_ _) | (with_reducible refine bl_drew ?_) | (with_reducible refine bl_then ?_ (by with_reducible assumption))))))).mono ?_
    rintro e w9 ⟨hg9, C, cc, rfl, hsC, hgeC, hcpC⟩
    have rb9 := hide (rb1.out.below hg9)
    have hb9 := bl_then hbw hg9
    have zw9 : w.heap.size + 1 < w1.heap.size := rb1.out.2.2
    clear hbw; clear a0 a1 a2 a3 a4 sa za
    obtain ⟨⟨r0, r1, r2, r3, r4⟩, rf, zr⟩ := rb9.out
    go_wp2
    refine bodyPost_ret (v := .tuple #[.agg #[.int .i64 a.k, .int .i64 1, .int .i64 a.xs.length, .int .i64 0, .slice C a.xs.length cc], .int .i64 0]) (by simp [results, Try.results40, go_sem, *]) rfl ⟨by (repeat (first | with_reducible exact Below.refl _ _ | with_reducible assumption | (with_reducible refine bl_set ?_ (by simp; try omega) _) | (with_reducible refine bl_alloc ?_ _) | (with_reducible refine bl_dn ?_ _) | (with_reducible refine bl_drew ?_) | (with_reducible refine bl_then ?_ (by with_reducible assumption)))), C, cc, rfl, ?_, ?_, hcpC⟩
    · repeat (refine Sl.set (B := w1.heap.size) ?_ hgeC (by simp; omega) _)
      exact hsC
    · intro g o e; have := hgeC g o e; omega
  · rw [if_pos h]
    have n2 : (chk a != 0) = true := by simpa using h
    clear h
    go_enter Try.func40, Try.ntmps40
    go_wp2_with fail
    refine (Ref.ac_any a A c (by omega) f0 f1 _ (hs.below (by (repeat (first | with_reducible exact Below.refl _ _ | with_reducible assumption | (with_reducible refine bl_set ?_ (by simp; try omega) _) | (with_reducible refine bl_alloc ?_ _) | (with_reducible refine bl_dn ?_ _) | (with_reducible refine bl_drew ?_) | (with_reducible refine bl_then ?_ (by with_reducible assumption))))))).mono ?_
    rintro e w1 ⟨rfl, hg1⟩
    obtain ⟨hc1, hf1, hz1⟩ := bcell hg1
    (have z0_w1 : w.heap.size < w1.heap.size := by have := hg1.size; simp at this; omega); (have z1_w1 : w.heap.size + 1 < w1.heap.size := by have := hg1.size; simp at this; omega)
    go_wp2
    refine bodyPost_ret (v := .tuple #[.agg #[.int .i64 0, .int .i64 0, .int .i64 0, .int .i64 0, .slice none 0 0], .int .i64 (chk a)]) (by simp [results, Try.results40, go_sem, *]) rfl (arr_zero _ (by (repeat (first | with_reducible exact Below.refl _ _ | with_reducible assumption | (with_reducible refine bl_set ?_ (by simp; try omega) _) | (with_reducible refine bl_alloc ?_ _) | (with_reducible refine bl_dn ?_ _) | (with_reducible refine bl_drew ?_) | (with_reducible refine bl_then ?_ (by with_reducible assumption))))))
end Ar
end Go.Proofs.Ytfpnafeildigaaa
/-
invigilatorref07.Flip: its contract (chapter 7's reference, for every seat).
-/
set_option linter.unusedSimpArgs false
set_option linter.unusedVariables false
namespace Go.Proofs.Ytfpnafeildigaaa
namespace Ar
open Go.RowKit Sc
theorem reix_succ (f : Nat → Nat) (j : Nat) (xs : List Int) : reix f (j + 1) xs = reix f j xs ++ [xs.getD (f j) 0] := by
  unfold reix; rw [List.range_succ, List.map_append]; rfl
theorem flip_place {m n i k : Nat} (h : i < m) : flipAt m n (k * m + i) = i * n + k := by
  have e1 : (k * m + i) / m = k := by rw [Nat.add_comm, Nat.add_mul_div_right _ _ (by omega), Nat.div_eq_of_lt h, Nat.zero_add]
  have e2 : (k * m + i) % m = i := by rw [Nat.add_comm, Nat.add_mul_mod_self_right, Nat.mod_eq_of_lt h]
  unfold flipAt
  rw [e1, e2]
theorem sl_1 {w : World} {X : Nat} {x : Int} (h0 : w.cell? ⟨X, 0, none⟩ = some (.int .i64 x)) : Sl w (some ⟨X, 0, none⟩) [x] := fun _ =>
  ⟨X, 0, rfl, block_lt_of_cell h0, fun j hj => by
    obtain rfl : j = 0 := by simpa using hj
    exact h0⟩
theorem flip_bad (a : Arr) (A : Option Addr) (c : Nat) (hla : a.xs.length ≤ 9223372036854775807) (f0 : Fits a.l0) (f1 : Fits a.l1) (w : World) (hs : Sl w A a.xs) (h : chk a ≠ 0) :
    Calls Try.prog 39 #[.agg #[.int .i64 a.k, .int .i64 a.r, .int .i64 a.l0, .int .i64 a.l1, .slice A a.xs.length c]] w (ArrRet w (chk a, .zero)) := by
  have n1 : (chk a == 0) = false := by simpa using h
  have n2 : (chk a != 0) = true := by simpa using h
  clear h
  go_enter Try.func39, Try.ntmps39
  go_wp2_with fail
  refine (Ref.ac_any a A c hla f0 f1 _ (hs.below (by (repeat (first | with_reducible exact Below.refl _ _ | with_reducible assumption | (with_reducible refine bl_set ?_ (by simp; try omega) _) | (with_reducible refine bl_alloc ?_ _) | (with_reducible refine bl_dn ?_ _) | (with_reducible refine bl_drew ?_) | (with_reducible refine bl_then ?_ (by with_reducible assumption))))))).mono ?_
  rintro e w1 ⟨rfl, hg1⟩
  obtain ⟨hc1, hf1, hz1⟩ := bcell hg1
  (have z0_w1 : w.heap.size < w1.heap.size := by have := hg1.size; simp at this; omega); (have z1_w1 : w.heap.size + 1 < w1.heap.size := by have := hg1.size; simp at this; omega)
  go_wp2
  refine bodyPost_ret (v := .tuple #[.agg #[.int .i64 0, .int .i64 0, .int .i64 0, .int .i64 0, .slice none 0 0], .int .i64 (chk a)]) (by simp [results, Try.results39, go_sem, *]) rfl (arr_zero _ (by (repeat (first | with_reducible exact Below.refl _ _ | with_reducible assumption | (with_reducible refine bl_set ?_ (by simp; try omega) _) | (with_reducible refine bl_alloc ?_ _) | (with_reducible refine bl_dn ?_ _) | (with_reducible refine bl_drew ?_) | (with_reducible refine bl_then ?_ (by with_reducible assumption))))))
theorem flip_flat (a : Arr) (A : Option Addr) (c : Nat) (hla : a.xs.length ≤ 9223372036854775807) (f0 : Fits a.l0) (f1 : Fits a.l1) (w : World) (hs : Sl w A a.xs) (h : chk a = 0) (hr : a.r ≠ 2) :
    Calls Try.prog 39 #[.agg #[.int .i64 a.k, .int .i64 a.r, .int .i64 a.l0, .int .i64 a.l1, .slice A a.xs.length c]] w (ArrRet w (22, .zero)) := by
  have n1 : (a.r != 2) = true := by simpa using hr
  have H := hide h
  clear h hr
  go_enter Try.func39, Try.ntmps39
  go_wp2_with fail
  refine (Ref.ac_any a A c hla f0 f1 _ (hs.below (by (repeat (first | with_reducible exact Below.refl _ _ | with_reducible assumption | (with_reducible refine bl_set ?_ (by simp; try omega) _) | (with_reducible refine bl_alloc ?_ _) | (with_reducible refine bl_dn ?_ _) | (with_reducible refine bl_drew ?_) | (with_reducible refine bl_then ?_ (by with_reducible assumption))))))).mono ?_
  rw [H.out]
  rintro e w1 ⟨rfl, hg1⟩
  obtain ⟨hc1, hf1, hz1⟩ := bcell hg1
  (have z0_w1 : w.heap.size < w1.heap.size := by have := hg1.size; simp at this; omega); (have z1_w1 : w.heap.size + 1 < w1.heap.size := by have := hg1.size; simp at this; omega)
  go_wp2
  refine bodyPost_ret (v := .tuple #[.agg #[.int .i64 0, .int .i64 0, .int .i64 0, .int .i64 0, .slice none 0 0], .int .i64 22]) (by simp [results, Try.results39, go_sem, *]) rfl (arr_zero _ (by (repeat (first | with_reducible exact Below.refl _ _ | with_reducible assumption | (with_reducible refine bl_set ?_ (by simp; try omega) _) | (with_reducible refine bl_alloc ?_ _) | (with_reducible refine bl_dn ?_ _) | (with_reducible refine bl_drew ?_) | (with_reducible refine bl_then ?_ (by with_reducible assumption))))))
set_option maxRecDepth 100000 in
set_option maxHeartbeats 4000000 in
theorem flip_main (a : Arr) (A : Option Addr) (c : Nat) (hla : a.xs.length ≤ 9223372036854775807) (f0 : Fits a.l0) (f1 : Fits a.l1) (w : World) (hs : Sl w A a.xs) (h : chk a = 0) (hr : a.r = 2) :
    Calls Try.prog 39 #[.agg #[.int .i64 a.k, .int .i64 a.r, .int .i64 a.l0, .int .i64 a.l1, .slice A a.xs.length c]] w (ArrRet w (0, flipped a)) := by
  obtain ⟨m, n, em, en, hmn, hm4, hn4, hF⟩ : ∃ m n : Nat, a.l0 = (m : Int) ∧ a.l1 = (n : Int) ∧ m * n = a.xs.length ∧ m ≤ 400 ∧ n ≤ 400 ∧ flipped a = ⟨a.k, 2, (n : Int), (m : Int), reix (flipAt m n) a.xs.length a.xs⟩ := by
    obtain ⟨x0, x1, x2, x3, x4⟩ := rows_two h hr
    refine ⟨a.l0.toNat, a.l1.toNat, x0.symm, x1.symm, x2, x3, x4, ?_⟩
    unfold flipped
    rw [x0, x1]
  have n1 : (a.r != 2) = false := by simpa using hr
  have hl4 := (chk_fit h).1
  have H := hide h; have HM := hide em; have HN := hide en; have HX := hide hmn; have HL := hide hl4; have HF := hide hF
  rw [HF.out]
  clear h hr em en hmn hl4 hF
  go_enter Try.func39, Try.ntmps39
  go_wp2_with fail
  refine (Ref.ac_any a A c hla f0 f1 _ (hs.below (by (repeat (first | with_reducible exact Below.refl _ _ | with_reducible assumption | (with_reducible refine bl_set ?_ (by simp; try omega) _) | (with_reducible refine bl_alloc ?_ _) | (with_reducible refine bl_dn ?_ _) | (with_reducible refine bl_drew ?_) | (with_reducible refine bl_then ?_ (by with_reducible assumption))))))).mono ?_
  rw [H.out]
  rintro e w1 ⟨rfl, hg1⟩
  have st1 := hide ((((St.init w).box c hs).alloc _).below hg1)
  have rb1 := hide ((RBox.new _ _).below hg1)
  simp only [World.size_alloc] at rb1
  clear hg1
  obtain ⟨hbw, ⟨⟨a0, a1, a2, a3, a4⟩, sa, za⟩, _⟩ := st1.out
  rw [HM.out] at a2
  rw [HN.out] at a3
  go_wp2
  go_loopw [5, 6] (fun s5 s6 wr => ∃ (k : Nat) (v : Value), k ≤ n ∧ v = s5 ∧ s6 = .int .i64 k ∧ Hid (Acc wr w1.heap.size v (reix (flipAt m n) (k * m) a.xs)) ∧ Hid (Below w1.heap.size w1 wr)) (fun _ s6 _ => n - (intOf s6).toNat)
  case atStart => exact ⟨0, _, Nat.zero_le _, rfl, rfl, by rw [Nat.zero_mul]; exact Acc.nil _ _, Below.refl _ _⟩
  case round =>
    obtain ⟨k, v, hk, rfl, rfl, hac, hbl⟩ := hrel
    clear hbw; clear a0 a1 a2 a3 a4 sa za
    have st5 := hide (st1.out.below hbl.out)
    obtain ⟨hbw, ⟨⟨a0, a1, a2, a3, a4⟩, sa, za⟩, _⟩ := st5.out
    rw [HM.out] at a2
    rw [HN.out] at a3
    by_cases hlt : k < n
    · obtain ⟨q, hq⟩ : ∃ q, k * m = q := ⟨_, rfl⟩
      rw [hq] at hac
      have HQ := hide hq
      clear hq
      go_wp2
      go_loopw [5, 7] (fun s5 s7 wr' => ∃ (i : Nat) (v' : Value), i ≤ m ∧ v' = s5 ∧ s7 = .int .i64 i ∧ Hid (Acc wr' w1.heap.size v' (reix (flipAt m n) (q + i) a.xs)) ∧ Hid (Below w1.heap.size w1 wr')) (fun _ s7 _ => m - (intOf s7).toNat)
      case atStart => exact ⟨0, _, Nat.zero_le _, rfl, rfl, hac, hbl⟩
      case round =>
        clear hac hbl hbw st5; clear a0 a1 a2 a3 a4 sa za
        obtain ⟨i, v', hi, rfl, rfl, hac, hbl⟩ := hrel
        have st5 := hide (st1.out.below hbl.out)
        obtain ⟨hbw, ⟨⟨a0, a1, a2, a3, a4⟩, sa, za⟩, _⟩ := st5.out
        rw [HM.out] at a2
        rw [HN.out] at a3
        by_cases hlt2 : i < m
        · obtain ⟨u, hu⟩ : ∃ u, i * n = u := ⟨_, rfl⟩
          have hl1 : u + n ≤ a.xs.length := by rw [← hu, ← HX.out, ← Nat.succ_mul]; exact Nat.mul_le_mul_right _ hlt2
          have hql : q + m ≤ a.xs.length := by rw [← HQ.out, ← HX.out, ← Nat.succ_mul, Nat.mul_comm m n]; exact Nat.mul_le_mul_right _ hlt
          have hll := HL.out
          have e1 : IntKind.i64.wrap ((i : Int) * (n : Int)) = (u : Int) := wrap_nat (by rw [← hu, Int.natCast_mul]) (by omega)
          obtain ⟨g, hg⟩ : ∃ g, u + k = g := ⟨_, rfl⟩
          have e2 : IntKind.i64.wrap ((u : Int) + (k : Int)) = (g : Int) := wrap_nat (by omega) (by omega)
          obtain ⟨b, o, x, rfl, hbk, hcx, hx⟩ := sa.at_ (k := g) (by omega)
          have hgl : (g : Int) < (a.xs.length : Int) := by omega
          have HS : Hid (reix (flipAt m n) (q + i) a.xs ++ [x] = reix (flipAt m n) (q + (i + 1)) a.xs) := by
            show _ = _
            rw [← Nat.add_assoc, reix_succ, ← HQ.out, flip_place hlt2, hu, hg, hx.out]
          have hlen : (reix (flipAt m n) (q + i) a.xs).length + [x].length ≤ 1000000 := by rw [reix_len]; simp; omega
          have hzr : w1.heap.size ≤ wr.heap.size := hbl.out.size
          clear hu hg hx sa hl1 hql hll
          go_wp2_with (at_builtin; refine wpList_app64 rfl (.tmp 35) (.tmp 47) rfl w1.heap.size v' (reix (flipAt m n) (q + i) a.xs) rfl (hac.out.alloc _) (some ⟨wr.heap.size, 0, none⟩) 1 1 [x] rfl rfl (sl_1 (by simp [go_sem])) hlen (by simp; omega) ?_; intro v2 w2 hac2 hg2; have hb2 := hide (below_gb (bl_alloc hbl.out _) hg2 (by simp; omega) (fun k hk => hac.out.own_ge k hk)); have hac2 := hide hac2; clear hg2)
          go_roundw
          case rel => exact ⟨i + 1, v2, by omega, rfl, by go_num, (by rw [← HS.out]; exact hac2.out), hb2⟩
          case measure => simp [intOf]; omega
        · have e : i = m := by omega
          subst e
          go_wp2
          go_roundw
          case rel => exact ⟨k + 1, v', by omega, rfl, by go_num, (by rw [Nat.succ_mul, HQ.out]; exact hac), hbl⟩
          case measure => simp [intOf]; omega
    · have e : k = n := by omega
      subst e
      have HE : Hid (reix (flipAt m k) (k * m) a.xs = reix (flipAt m k) a.xs.length a.xs) := by show _ = _; rw [Nat.mul_comm, HX.out]
      rw [HE.out] at hac
      obtain ⟨V, cv, rfl, hsl, hge, hcp⟩ := hac.out.sl
      have hsl := hide hsl
      have hyl : (reix (flipAt m k) a.xs.length a.xs).length ≤ 100000 := by rw [reix_len]; have := HL.out; omega
      have hz1 : w1.heap.size ≤ wr.heap.size := hbl.out.size
      have rb5 := hide (rb1.out.below (bl_then (Below.refl _ _) hbl.out))
      clear hac
      go_wp2_with fail
      refine (matrix_any a.k k m V cv _ hyl _ (hsl.out.below (by (repeat (first | with_reducible exact Below.refl _ _ | with_reducible assumption | (with_reducible refine bl_set ?_ (by simp; try omega) _) | (with_reducible refine bl_alloc ?_ _) | (with_reducible refine bl_dn ?_ _) | (with_reducible refine bl_drew ?_) | (with_reducible refine bl_then ?_ (by with_reducible assumption))))))).mono ?_
      rintro e w9 ⟨hg9, C, cc, rfl, hsC, hgeC, hcpC⟩
      have rb9 := hide (rb5.out.below hg9)
      have hb9 := bl_then hbw hg9
      have zw9 : w.heap.size + 1 < wr.heap.size := rb5.out.2.2
      clear hbw; clear a0 a1 a2 a3 a4 sa za
      obtain ⟨⟨r0, r1, r2, r3, r4⟩, rf, zr⟩ := rb9.out
      go_wp2
      refine bodyPost_ret (v := .tuple #[.agg #[.int .i64 a.k, .int .i64 2, .int .i64 k, .int .i64 m, .slice C (reix (flipAt m k) a.xs.length a.xs).length cc], .int .i64 0]) (by simp [results, Try.results39, go_sem, *]) rfl ⟨by (repeat (first | with_reducible exact Below.refl _ _ | with_reducible assumption | (with_reducible refine bl_set ?_ (by simp; try omega) _) | (with_reducible refine bl_alloc ?_ _) | (with_reducible refine bl_dn ?_ _) | (with_reducible refine bl_drew ?_) | (with_reducible refine bl_then ?_ (by with_reducible assumption)))), C, cc, rfl, ?_, ?_, hcpC⟩
      · repeat (refine Sl.set (B := wr.heap.size) ?_ hgeC (by simp; omega) _)
        exact hsC
      · intro g o e; have := hgeC g o e; omega
theorem flip_any (a : Arr) (A : Option Addr) (c : Nat) (hla : a.xs.length ≤ 9223372036854775807) (f0 : Fits a.l0) (f1 : Fits a.l1) (w : World) (hs : Sl w A a.xs) : Calls Try.prog 39 #[.agg #[.int .i64 a.k, .int .i64 a.r, .int .i64 a.l0, .int .i64 a.l1, .slice A a.xs.length c]] w (ArrRet w (extFlip a)) := by
  unfold extFlip
  by_cases h : chk a = 0
  · rw [if_neg (by simpa using h)]
    by_cases hr : a.r = 2
    · rw [if_neg (by simpa using hr)]; exact flip_main a A c hla f0 f1 w hs h hr
    · rw [if_pos hr]; exact flip_flat a A c hla f0 f1 w hs h hr
  · rw [if_pos h]; exact flip_bad a A c hla f0 f1 w hs h
end Ar
end Go.Proofs.Ytfpnafeildigaaa
