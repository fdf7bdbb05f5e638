/-
invigilatorref10.One: its contract (chapter 10).
-/
import Derived.Test.YtfpnafeildigaaaArV
import Derived.Test.YtfpnafeildigaaaArAc
import Derived.OwnWalk
import Derived.Deep.DeepCutAuto
set_option linter.unusedSimpArgs false
set_option linter.unusedVariables false
namespace Go.Proofs.Ytfpnafeildigaaa
namespace Ar
open Go.RowKit Sc
theorem rone_arity (p : Int) (a : Arr) (A : Option Addr) (c : Nat) (hla : a.xs.length ≤ 100000) (f0a : Fits a.l0) (f1a : Fits a.l1) (hxa : ∀ x ∈ a.xs, Fits x) (h : arity p ≠ (1, 0)) (w : World) (hsa : Sl w A a.xs) : Calls Try.prog 22 #[.int .i64 p, .agg #[.int .i64 a.k, .int .i64 a.r, .int .i64 a.l0, .int .i64 a.l1, .slice A a.xs.length c]] w fun e w' => ArrRet w (2, .zero) e w' := by
  obtain h1 | h1 : arity p = (2, 0) ∨ arity p = (0, 2) := by
    unfold arity at h ⊢
    by_cases a : 1 ≤ p ∧ p ≤ 3
    · rw [if_pos a] at h; exact absurd rfl h
    · by_cases b : 15 ≤ p ∧ p ≤ 32
      · left; rw [if_neg a, if_pos b]
      · right; rw [if_neg a, if_neg b]
  all_goals
    have H := hide h1
    clear h h1
    go_enter Try.func22, Try.ntmps22
    go_wp2_with fail
    refine (Sc.Ref.arity_any p _).mono ?_
    rw [H.out]
    rintro e w1 ⟨rfl, hg1⟩
    obtain ⟨hc1, hf1, hz1⟩ := bcell hg1
    (have z0_w1 : w.heap.size < w1.heap.size := by have := hg1.size; simp at this; omega); (have z1_w1 : w.heap.size + 1 < w1.heap.size := by have := hg1.size; simp at this; omega)
    go_wp2
    refine bodyPost_ret (v := .tuple #[.agg #[.int .i64 0, .int .i64 0, .int .i64 0, .int .i64 0, .slice none 0 0], .int .i64 2]) (by simp [results, Try.results22, go_sem, *]) rfl (arr_zero _ (by (repeat (first | with_reducible exact Below.refl _ _ | with_reducible assumption | (with_reducible refine bl_set ?_ (by simp; try omega) _) | (with_reducible refine bl_alloc ?_ _) | (with_reducible refine bl_dn ?_ _) | (with_reducible refine bl_drew ?_) | (with_reducible refine bl_then ?_ (by with_reducible assumption))))))
theorem rone_check (p : Int) (a : Arr) (A : Option Addr) (c : Nat) (hla : a.xs.length ≤ 100000) (f0a : Fits a.l0) (f1a : Fits a.l1) (hxa : ∀ x ∈ a.xs, Fits x) (h : arity p = (1, 0)) (h2 : chk a ≠ 0) (w : World) (hsa : Sl w A a.xs) : Calls Try.prog 22 #[.int .i64 p, .agg #[.int .i64 a.k, .int .i64 a.r, .int .i64 a.l0, .int .i64 a.l1, .slice A a.xs.length c]] w fun e w' => ArrRet w (chk a, .zero) e w' := by
  have H := hide h
  have n1 : (chk a == 0) = false := by simpa using h2
  have n2 : (chk a != 0) = true := by simpa using h2
  have hl : a.xs.length ≤ 9223372036854775807 := by omega
  clear h h2 hxa hla
  go_enter Try.func22, Try.ntmps22
  go_wp2_with fail
  refine (Sc.Ref.arity_any p _).mono ?_
  rw [H.out]
  rintro e w1 ⟨rfl, hg1⟩
  obtain ⟨hc1, hf1, hz1⟩ := bcell hg1
  (have z0_w1 : w.heap.size < w1.heap.size := by have := hg1.size; simp at this; omega); (have z1_w1 : w.heap.size + 1 < w1.heap.size := by have := hg1.size; simp at this; omega)
  go_wp2_with fail
  refine (Ref.ac_any a A c hl f0a f1a _ (hsa.below (by (repeat (first | with_reducible exact Below.refl _ _ | with_reducible assumption | (with_reducible refine bl_set ?_ (by simp; try omega) _) | (with_reducible refine bl_alloc ?_ _) | (with_reducible refine bl_dn ?_ _) | (with_reducible refine bl_drew ?_) | (with_reducible refine bl_then ?_ (by with_reducible assumption))))))).mono ?_
  skip
  rintro e w2 ⟨rfl, hg2⟩
  obtain ⟨hc2, hf2, hz2⟩ := bcell hg2
  (have z0_w2 : w.heap.size < w2.heap.size := by have := Nat.le_trans hg1.size hg2.size; simp at this; omega); (have z1_w2 : w.heap.size + 1 < w2.heap.size := by have := Nat.le_trans hg1.size hg2.size; simp at this; omega)
  go_wp2
  refine bodyPost_ret (v := .tuple #[.agg #[.int .i64 0, .int .i64 0, .int .i64 0, .int .i64 0, .slice none 0 0], .int .i64 (chk a)]) (by simp [results, Try.results22, go_sem, *]) rfl (arr_zero _ (by (repeat (first | with_reducible exact Below.refl _ _ | with_reducible assumption | (with_reducible refine bl_set ?_ (by simp; try omega) _) | (with_reducible refine bl_alloc ?_ _) | (with_reducible refine bl_dn ?_ _) | (with_reducible refine bl_drew ?_) | (with_reducible refine bl_then ?_ (by with_reducible assumption))))))
theorem rone_kind (p : Int) (a : Arr) (A : Option Addr) (c : Nat) (hla : a.xs.length ≤ 100000) (f0a : Fits a.l0) (f1a : Fits a.l1) (hxa : ∀ x ∈ a.xs, Fits x) (h : arity p = (1, 0)) (h2 : chk a = 0) (h3 : a.k ≠ 1) (w : World) (hsa : Sl w A a.xs) : Calls Try.prog 22 #[.int .i64 p, .agg #[.int .i64 a.k, .int .i64 a.r, .int .i64 a.l0, .int .i64 a.l1, .slice A a.xs.length c]] w fun e w' => ArrRet w (21, .zero) e w' := by
  have H := hide h
  have H2 := hide h2
  have n2 : (a.k != 1) = true := by simpa using h3
  have hl : a.xs.length ≤ 9223372036854775807 := by omega
  clear h h2 h3 hxa hla
  go_enter Try.func22, Try.ntmps22
  go_wp2_with fail
  refine (Sc.Ref.arity_any p _).mono ?_
  rw [H.out]
  rintro e w1 ⟨rfl, hg1⟩
  obtain ⟨hc1, hf1, hz1⟩ := bcell hg1
  (have z0_w1 : w.heap.size < w1.heap.size := by have := hg1.size; simp at this; omega); (have z1_w1 : w.heap.size + 1 < w1.heap.size := by have := hg1.size; simp at this; omega)
  go_wp2_with fail
  refine (Ref.ac_any a A c hl f0a f1a _ (hsa.below (by (repeat (first | with_reducible exact Below.refl _ _ | with_reducible assumption | (with_reducible refine bl_set ?_ (by simp; try omega) _) | (with_reducible refine bl_alloc ?_ _) | (with_reducible refine bl_dn ?_ _) | (with_reducible refine bl_drew ?_) | (with_reducible refine bl_then ?_ (by with_reducible assumption))))))).mono ?_
  rw [H2.out]
  rintro e w2 ⟨rfl, hg2⟩
  obtain ⟨hc2, hf2, hz2⟩ := bcell hg2
  (have z0_w2 : w.heap.size < w2.heap.size := by have := Nat.le_trans hg1.size hg2.size; simp at this; omega); (have z1_w2 : w.heap.size + 1 < w2.heap.size := by have := Nat.le_trans hg1.size hg2.size; simp at this; omega)
  go_wp2
  refine bodyPost_ret (v := .tuple #[.agg #[.int .i64 0, .int .i64 0, .int .i64 0, .int .i64 0, .slice none 0 0], .int .i64 21]) (by simp [results, Try.results22, go_sem, *]) rfl (arr_zero _ (by (repeat (first | with_reducible exact Below.refl _ _ | with_reducible assumption | (with_reducible refine bl_set ?_ (by simp; try omega) _) | (with_reducible refine bl_alloc ?_ _) | (with_reducible refine bl_dn ?_ _) | (with_reducible refine bl_drew ?_) | (with_reducible refine bl_then ?_ (by with_reducible assumption))))))
/-- what is answered where the operand fits -/
def oneRes (p : Int) (a : Arr) : Int × Arr := if (mapE (one p) a.xs).1 ≠ 0 then ((mapE (one p) a.xs).1, .zero) else (0, ⟨1, a.r, a.l0, a.l1, (mapE (one p) a.xs).2⟩)
set_option maxRecDepth 100000 in
set_option maxHeartbeats 1000000 in
theorem rone_run (p : Int) (a : Arr) (A : Option Addr) (c : Nat) (hla : a.xs.length ≤ 100000) (f0a : Fits a.l0) (f1a : Fits a.l1) (hxa : ∀ x ∈ a.xs, Fits x) (h : arity p = (1, 0)) (h2 : chk a = 0) (h3 : a.k = 1) (w : World) (hsa : Sl w A a.xs) : Calls Try.prog 22 #[.int .i64 p, .agg #[.int .i64 a.k, .int .i64 a.r, .int .i64 a.l0, .int .i64 a.l1, .slice A a.xs.length c]] w fun e w' => ArrRet w (oneRes p a) e w' := by
  have H := hide h
  have H2 := hide h2
  have n2 : (a.k != 1) = false := by simpa using h3
  have hl : a.xs.length ≤ 9223372036854775807 := by omega
  have HX := hide hxa
  have hL := hide hla
  obtain ⟨i0, hi0, hz0, hz1, hz2⟩ := info_parts info_i64
  have HI := hide hi0; have HZ0 := hide hz0; have HZ1 := hide hz1; have HZ2 := hide hz2
  clear h h2 h3 hxa hla hi0 hz0 hz1 hz2
  go_enter Try.func22, Try.ntmps22
  go_wp2_with fail
  refine (Sc.Ref.arity_any p _).mono ?_
  rw [H.out]
  rintro e w1 ⟨rfl, hg1⟩
  obtain ⟨hc1, hf1, hz1⟩ := bcell hg1
  (have z0_w1 : w.heap.size < w1.heap.size := by have := hg1.size; simp at this; omega); (have z1_w1 : w.heap.size + 1 < w1.heap.size := by have := hg1.size; simp at this; omega)
  go_wp2_with fail
  refine (Ref.ac_any a A c hl f0a f1a _ (hsa.below (by (repeat (first | with_reducible exact Below.refl _ _ | with_reducible assumption | (with_reducible refine bl_set ?_ (by simp; try omega) _) | (with_reducible refine bl_alloc ?_ _) | (with_reducible refine bl_dn ?_ _) | (with_reducible refine bl_drew ?_) | (with_reducible refine bl_then ?_ (by with_reducible assumption))))))).mono ?_
  rw [H2.out]
  rintro e w2 ⟨rfl, hg2⟩
  obtain ⟨hc2, hf2, hz2⟩ := bcell hg2
  (have z0_w2 : w.heap.size < w2.heap.size := by have := Nat.le_trans hg1.size hg2.size; simp at this; omega); (have z1_w2 : w.heap.size + 1 < w2.heap.size := by have := Nat.le_trans hg1.size hg2.size; simp at this; omega)
  go_upto_region 10 with fail
  have g0 : Hid (Arr5 (w2.alloc (.cells #[.int .i64 1, .int .i64 a.r, .int .i64 a.l0, .int .i64 a.l1, .slice none 0 0] 25)) w2.heap.size (.int .i64 1) (.int .i64 a.r) (.int .i64 a.l0) (.int .i64 a.l1) (.slice none 0 0)) := ⟨by simp [go_sem], by simp [go_sem], by simp [go_sem], by simp [go_sem], by simp [go_sem]⟩
  have gf : Hid (∀ i, ((w2.alloc (.cells #[.int .i64 1, .int .i64 a.r, .int .i64 a.l0, .int .i64 a.l1, .slice none 0 0] 25))).frozen? ⟨w2.heap.size, i, none⟩ = false) := by show ∀ i, _ = _; intro i; simp [go_sem]
  have st0 : Hid (OutSt (w2.alloc (.cells #[.int .i64 1, .int .i64 a.r, .int .i64 a.l0, .int .i64 a.l1, .slice none 0 0] 25)) (w2.alloc (.cells #[.int .i64 1, .int .i64 a.r, .int .i64 a.l0, .int .i64 a.l1, .slice none 0 0] 25)) w2.heap.size (.int .i64 1) (.int .i64 a.r) (.int .i64 a.l0) (.int .i64 a.l1) (.slice none 0 0) (.slice none 0 0) []) := OutSt.start g0.out gf.out (by simp)
  have b4 : Hid (((w2.alloc (.cells #[.int .i64 1, .int .i64 a.r, .int .i64 a.l0, .int .i64 a.l1, .slice none 0 0] 25))).cell? ⟨w.heap.size, 4, none⟩ = some (.slice A a.xs.length c)) := by show _ = _; simp [go_sem, *]
  have hr : Hid (Arr5 (w2.alloc (.cells #[.int .i64 1, .int .i64 a.r, .int .i64 a.l0, .int .i64 a.l1, .slice none 0 0] 25)) (w.heap.size + 1) (.int .i64 0) (.int .i64 0) (.int .i64 0) (.int .i64 0) (.slice none 0 0)) := ⟨by simp [go_sem, *], by simp [go_sem, *], by simp [go_sem, *], by simp [go_sem, *], by simp [go_sem, *]⟩
  have hrf : Hid (∀ i, ((w2.alloc (.cells #[.int .i64 1, .int .i64 a.r, .int .i64 a.l0, .int .i64 a.l1, .slice none 0 0] 25))).frozen? ⟨w.heap.size + 1, i, none⟩ = false) := by show ∀ i, _ = _; intro i; simp [go_sem, *]
  have hb3 : Hid (Below w.heap.size w (w2.alloc (.cells #[.int .i64 1, .int .i64 a.r, .int .i64 a.l0, .int .i64 a.l1, .slice none 0 0] 25))) := by show Below _ _ _; (repeat (first | with_reducible exact Below.refl _ _ | with_reducible assumption | (with_reducible refine bl_set ?_ (by simp; try omega) _) | (with_reducible refine bl_alloc ?_ _) | (with_reducible refine bl_dn ?_ _) | (with_reducible refine bl_drew ?_) | (with_reducible refine bl_then ?_ (by with_reducible assumption))))
  have zG : w.heap.size + 1 < w2.heap.size := z1_w2
  have zw : w2.heap.size < ((w2.alloc (.cells #[.int .i64 1, .int .i64 a.r, .int .i64 a.l0, .int .i64 a.l1, .slice none 0 0] 25))).heap.size := by simp
  clear hc1 hf1 hc2 hf2 hg1 hg2 z0_w1 z1_w1 z0_w2 z1_w2 hz1 hz2 g0 gf
  change Code.wp _ _ _ _ (w2.alloc (.cells #[.int .i64 1, .int .i64 a.r, .int .i64 a.l0, .int .i64 a.l1, .slice none 0 0] 25))
  generalize (w2.alloc (.cells #[.int .i64 1, .int .i64 a.r, .int .i64 a.l0, .int .i64 a.l1, .slice none 0 0] 25)) = w3 at *
  generalize w2.heap.size = G at *
  go_wp2
  go_loopw [9] (fun i wr => ∃ (k : Nat) (ys : List Int) (v : Value), k ≤ a.xs.length ∧ i = .int .i64 k ∧ Hid (mapE (one p) (a.xs.take k) = (0, ys)) ∧ Hid (ys.length = k) ∧ Hid (OutSt w3 wr G (.int .i64 1) (.int .i64 a.r) (.int .i64 a.l0) (.int .i64 a.l1) v v ys)) (fun i _ => a.xs.length - (intOf i).toNat)
  case atStart => exact ⟨0, [], .slice none 0 0, Nat.zero_le _, rfl, rfl, rfl, st0⟩
  case round =>
    obtain ⟨k, ys, v, hk, rfl, hm, hy, st⟩ := hrel
    have hbr : Hid (Below w.heap.size w wr) := st.out.base hb3.out (by omega)
    have hGl : G < wr.heap.size := st.out.lt
    have c4 := st.out.cell b4.out (by omega)
    have rr := hide (st.out.arr hr.out (by omega))
    have rf := hide (st.out.fro (by omega) hrf.out (by omega))
    by_cases hlt : k < a.xs.length
    · obtain ⟨bb, oo, x, rfl, hbl, hcx, hx⟩ := (hsa.below hbr.out).at_ hlt
      have hfx : Hid (Fits x) := HX.out x (by rw [← hx.out]; exact getD_in 0 hlt)
      by_cases he : (one p x).2 = 0
      · have n3 : ((one p x).2 != 0) = false := by simpa using he
        have HE := hide he
        clear he
        obtain ⟨q0, q1, q2, q3, q4⟩ := st.out.2.1
        go_wp2_with (first
          | (go_at_call 64; refine (Sc.Ref.One_any p x hfx.out _).mono ?_; rintro e w4 ⟨rfl, hg4⟩; obtain ⟨hc4, hf4, hz4⟩ := bcell hg4; have st4 := hide (st.out.below hg4))
          | (at_builtin; refine wpList_append_own _ rfl (.tmp 64) (.tmp 66) _ rfl (G + 1) 2 i0 (.int .i64 0) 1 8 Try.underlying23 HI.out HZ0.out HZ1.out HZ2.out rfl (by decide) v k (ys.map (Value.int .i64)) rfl (World.ownsRow.alloc (st4.out.2.2.2.1.own hy.out) _) ⟨w4.heap.size, 0, none⟩ 1 1 [.int .i64 (one p x).1] rfl rfl (lit1 _ _ _) (i64_one _) (by unfold maxLen; omega) (by have := hL.out; omega) (by simp; omega) ?_; intro v' w5 hown' hgrow _; (have st5 := hide (OutSt.app (st4.out.below ((Below.refl _ _).alloc (Nat.le_refl _) _)) hgrow hy.out hown')); (obtain ⟨V', n', c', rfl, hn'⟩ := st5.out.2.2.2.1.shape); (have e4 := st5.out.2.1.2.2.2.2); (have ef4 := st5.out.2.2.1 4)))
        go_roundw
        case rel => exact ⟨k + 1, ys ++ [(one p x).1], _, by omega, by go_num, (by show _ = _; rw [take_succ_getD hlt, hx.out]; exact mapE_step hm.out HE.out), (by show _ = _; simp [hy.out]), st5.out.put _⟩
        case measure => simp [intOf]; omega
      · have n3 : ((one p x).2 != 0) = true := by simpa using he
        have HE : Hid (oneRes p a = ((one p x).2, .zero)) := by
          show _ = _
          have := mapE_err (r := a.xs.drop (k + 1)) (x := x) hm.out he
          rw [← hx.out, ← take_split hlt, hx.out] at this
          unfold oneRes
          rw [this, if_pos he]
        obtain ⟨r0, r1, r2, r3, r4⟩ := rr.out
        clear he
        go_wp2_with (go_at_call 64; refine (Sc.Ref.One_any p x hfx.out _).mono ?_; rintro e w4 ⟨rfl, hg4⟩; obtain ⟨hc4, hf4, hz4⟩ := bcell hg4; (have y1 : w.heap.size + 1 < wr.heap.size := by omega); (have rf1 := rf.out))
        have hbw := bl_then hbr.out hg4
        rw [HE.out]
        clear n3 HE
        refine bodyPost_ret (v := .tuple #[.agg #[.int .i64 0, .int .i64 0, .int .i64 0, .int .i64 0, .slice none 0 0], .int .i64 (one p x).2]) (by simp [results, Try.results22, go_sem, *]) rfl (arr_zero _ (by (repeat (first | with_reducible exact Below.refl _ _ | with_reducible assumption | (with_reducible refine bl_set ?_ (by simp; try omega) _) | (with_reducible refine bl_alloc ?_ _) | (with_reducible refine bl_dn ?_ _) | (with_reducible refine bl_drew ?_) | (with_reducible refine bl_then ?_ (by with_reducible assumption))))))
    · have HE : Hid (oneRes p a = (0, ⟨1, a.r, a.l0, a.l1, ys⟩)) := by
        have e := hm.out
        rw [List.take_of_length_le (by omega)] at e
        show _ = _
        unfold oneRes
        rw [e]; rfl
      obtain ⟨r0, r1, r2, r3, r4⟩ := rr.out
      have rf1 := rf.out
      obtain ⟨V, cv, rfl, hsl, hge⟩ := st.out.2.2.2.1.sl
      obtain ⟨q0, q1, q2, q3, q4⟩ := st.out.2.1
      have hne : w.heap.size + 1 ≠ G := by omega
      go_wp2
      rw [HE.out]
      refine bodyPost_ret (v := .tuple #[.agg #[.int .i64 1, .int .i64 a.r, .int .i64 a.l0, .int .i64 a.l1, .slice V ys.length cv], .int .i64 0]) (by simp [results, Try.results22, go_sem, *]) rfl ⟨by have := hbr.out; (repeat (first | with_reducible exact Below.refl _ _ | with_reducible assumption | (with_reducible refine bl_set ?_ (by simp; try omega) _) | (with_reducible refine bl_alloc ?_ _) | (with_reducible refine bl_dn ?_ _) | (with_reducible refine bl_drew ?_) | (with_reducible refine bl_then ?_ (by with_reducible assumption)))), V, cv, rfl, ?_, fun g o e => by have := hge g o e; omega⟩
      repeat (refine Sl.set ?_ hge (by simp; omega) _)
      exact hsl
theorem rone_any (p : Int) (a : Arr) (A : Option Addr) (c : Nat) (hla : a.xs.length ≤ 100000) (f0a : Fits a.l0) (f1a : Fits a.l1) (hxa : ∀ x ∈ a.xs, Fits x) (w : World) (hsa : Sl w A a.xs) : Calls Try.prog 22 #[.int .i64 p, .agg #[.int .i64 a.k, .int .i64 a.r, .int .i64 a.l0, .int .i64 a.l1, .slice A a.xs.length c]] w (ArrRet w (extOne p a)) := by
  unfold extOne
  by_cases h : arity p = (1, 0)
  · rw [if_neg (by simpa using h)]
    by_cases h2 : chk a = 0
    · rw [if_neg (by simpa using h2)]
      by_cases h3 : a.k = 1
      · rw [if_neg (by simpa using h3)]
        exact rone_run p a A c hla f0a f1a hxa h h2 h3 w hsa
      · rw [if_pos h3]
        exact rone_kind p a A c hla f0a f1a hxa h h2 h3 w hsa
    · rw [if_pos h2]
      exact rone_check p a A c hla f0a f1a hxa h h2 w hsa
  · rw [if_pos h]
    exact rone_arity p a A c hla f0a f1a hxa h w hsa
end Ar
end Go.Proofs.Ytfpnafeildigaaa
