/-
invigilatorref10.One: its contract (chapter 10).
-/
import Derived.Test.YtfpnafeildigaaaBa5
import Derived.Test.YtfpnafeildigaaaBa7
import Derived.OwnWalk
import Derived.Deep.DeepCutAuto
import Derived.Test.YtfpnafeildigaaaBa8
set_option linter.unusedSimpArgs false
set_option linter.unusedVariables false
namespace Go.Proofs.Ytfpnafeildigaaa
namespace Ar
open Go.RowKit Sc
theorem rone_arity (p : Int) (a : Arr) (A : Option Addr) (c : Nat) (hla : a.xs.length ≤ 100000) (f0a : Fits a.l0) (f1a : Fits a.l1) (hxa : ∀ x ∈ a.xs, Fits x) (h : arity p ≠ (1, 0)) (w : World) (hsa : Sl w A a.xs) : Calls Try.prog 22 #[.int .i64 p, .agg #[.int .i64 a.k, .int .i64 a.r, .int .i64 a.l0, .int .i64 a.l1, .slice A a.xs.length c]] w fun e w' => ArrRet w (2, .zero) e w' := by
  obtain h1 | h1 : arity p = (2, 0) ∨ arity p = (0, 2) := by
    unfold arity at h ⊢
    by_cases a : 1 ≤ p ∧ p ≤ 3
    · rw [if_pos a] at h; exact absurd rfl h
    · by_cases b : 15 ≤ p ∧ p ≤ 32
      · left; rw [if_neg a, if_pos b]
      · right; rw [if_neg a, if_neg b]
  all_goals
    have H := hide h1
    clear h h1
    go_enter Try.func22, Try.ntmps22
    go_wp2_with fail
    refine (Sc.Ref.arity_any p _).mono ?_
    rw [H.out]
    rintro e w1 ⟨rfl, hg1⟩
    obtain ⟨hc1, hf1, hz1⟩ := bcell hg1
    (have z0_w1 : w.heap.size < w1.heap.size := by have := hg1.size; simp at this; omega); (have z1_w1 : w.heap.size + 1 < w1.heap.size := by have := hg1.size; simp at this; omega)
    go_wp2
    refine bodyPost_ret (v := .tuple #[.agg #[.int .i64 0, .int .i64 0, .int .i64 0, .int .i64 0, .slice none 0 0], .int .i64 2]) (by simp [results, Try.results22, go_sem, *]) rfl (arr_zero _ (by (repeat (first | with_reducible exact Below.refl _ _ | with_reducible assumption | (with_reducible refine bl_set ?_ (by simp; try omega) _) | (with_reducible refine bl_alloc ?_ _) | (with_reducible refine bl_dn ?_ _) | (with_reducible refine bl_drew ?_) | (with_reducible refine bl_then ?_ (by with_reducible assumption))))))
theorem rone_check (p : Int) (a : Arr) (A : Option Addr) (c : Nat) (hla : a.xs.length ≤ 100000) (f0a : Fits a.l0) (f1a : Fits a.l1) (hxa : ∀ x ∈ a.xs, Fits x) (h : arity p = (1, 0)) (h2 : chk a ≠ 0) (w : World) (hsa : Sl w A a.xs) : Calls Try.prog 22 #[.int .i64 p, .agg #[.int .i64 a.k, .int .i64 a.r, .int .i64 a.l0, .int .i64 a.l1, .slice A a.xs.length c]] w fun e w' => ArrRet w (chk a, .zero) e w' := by
  have H := hide h
  have n1 : (chk a == 0) = false := by simpa using h2
  have n2 : (chk a != 0) = true := by simpa using h2
  have hl : a.xs.length ≤ 9223372036854775807 := by omega
  clear h h2 hxa hla
  go_enter Try.func22, Try.ntmps22
  go_wp2_with fail
  refine (Sc.Ref.arity_any p _).mono ?_
  rw [H.out]
  rintro e w1 ⟨rfl, hg1⟩
  obtain ⟨hc1, hf1, hz1⟩ := bcell hg1
  (have z0_w1 : w.heap.size < w1.heap.size := by have := hg1.size; simp at this; omega); (have z1_w1 : w.heap.size + 1 < w1.heap.size := by have := hg1.size; simp at this; omega)
  go_wp2_with fail
  refine (Ref.ac_any a A c hl f0a f1a _ (hsa.below (by (repeat (first | with_reducible exact Below.refl _ _ | with_reducible assumption | (with_reducible refine bl_set ?_ (by simp; try omega) _) | (with_reducible refine bl_alloc ?_ _) | (with_reducible refine bl_dn ?_ _) | (with_reducible refine bl_drew ?_) | (with_reducible refine bl_then ?_ (by with_reducible assumption))))))).mono ?_
  skip
  rintro e w2 ⟨rfl, hg2⟩
  obtain ⟨hc2, hf2, hz2⟩ := bcell hg2
  (have z0_w2 : w.heap.size < w2.heap.size := by have := Nat.le_trans hg1.size hg2.size; simp at this; omega); (have z1_w2 : w.heap.size + 1 < w2.heap.size := by have := Nat.le_trans hg1.size hg2.size; simp at this; omega)
  go_wp2
  refine bodyPost_ret (v := .tuple #[.agg #[.int .i64 0, .int .i64 0, .int .i64 0, .int .i64 0, .slice none 0 0], .int .i64 (chk a)]) (by simp [results, Try.results22, go_sem, *]) rfl (arr_zero _ (by (repeat (first | with_reducible exact Below.refl _ _ | with_reducible assumption | (with_reducible refine bl_set ?_ (by simp; try omega) _) | (with_reducible refine bl_alloc ?_ _) | (with_reducible refine bl_dn ?_ _) | (with_reducible refine bl_drew ?_) | (with_reducible refine bl_then ?_ (by with_reducible assumption))))))
theorem rone_kind (p : Int) (a : Arr) (A : Option Addr) (c : Nat) (hla : a.xs.length ≤ 100000) (f0a : Fits a.l0) (f1a : Fits a.l1) (hxa : ∀ x ∈ a.xs, Fits x) (h : arity p = (1, 0)) (h2 : chk a = 0) (h3 : a.k ≠ 1) (w : World) (hsa : Sl w A a.xs) : Calls Try.prog 22 #[.int .i64 p, .agg #[.int .i64 a.k, .int .i64 a.r, .int .i64 a.l0, .int .i64 a.l1, .slice A a.xs.length c]] w fun e w' => ArrRet w (21, .zero) e w' := by
  have H := hide h
  have H2 := hide h2
  have n2 : (a.k != 1) = true := by simpa using h3
  have hl : a.xs.length ≤ 9223372036854775807 := by omega
  clear h h2 h3 hxa hla
  go_enter Try.func22, Try.ntmps22
  go_wp2_with fail
  refine (Sc.Ref.arity_any p _).mono ?_
  rw [H.out]
  rintro e w1 ⟨rfl, hg1⟩
  obtain ⟨hc1, hf1, hz1⟩ := bcell hg1
  (have z0_w1 : w.heap.size < w1.heap.size := by have := hg1.size; simp at this; omega); (have z1_w1 : w.heap.size + 1 < w1.heap.size := by have := hg1.size; simp at this; omega)
  go_wp2_with fail
  refine (Ref.ac_any a A c hl f0a f1a _ (hsa.below (by (repeat (first | with_reducible exact Below.refl _ _ | with_reducible assumption | (with_reducible refine bl_set ?_ (by simp; try omega) _) | (with_reducible refine bl_alloc ?_ _) | (with_reducible refine bl_dn ?_ _) | (with_reducible refine bl_drew ?_) | (with_reducible refine bl_then ?_ (by with_reducible assumption))))))).mono ?_
  rw [H2.out]
  rintro e w2 ⟨rfl, hg2⟩
  obtain ⟨hc2, hf2, hz2⟩ := bcell hg2
  (have z0_w2 : w.heap.size < w2.heap.size := by have := Nat.le_trans hg1.size hg2.size; simp at this; omega); (have z1_w2 : w.heap.size + 1 < w2.heap.size := by have := Nat.le_trans hg1.size hg2.size; simp at this; omega)
  go_wp2
  refine bodyPost_ret (v := .tuple #[.agg #[.int .i64 0, .int .i64 0, .int .i64 0, .int .i64 0, .slice none 0 0], .int .i64 21]) (by simp [results, Try.results22, go_sem, *]) rfl (arr_zero _ (by (repeat (first | with_reducible exact Below.refl _ _ | with_reducible assumption | (with_reducible refine bl_set ?_ (by simp; try omega) _) | (with_reducible refine bl_alloc ?_ _) | (with_reducible refine bl_dn ?_ _) | (with_reducible refine bl_drew ?_) | (with_reducible refine bl_then ?_ (by with_reducible assumption))))))
/-- what is answered where the operand fits -/
def oneRes (p : Int) (a : Arr) : Int × Arr := if (mapE (one p) a.xs).1 ≠ 0 then ((mapE (one p) a.xs).1, .zero) else (0, ⟨1, a.r, a.l0, a.l1, (mapE (one p) a.xs).2⟩)
set_option maxRecDepth 100000 in
set_option maxHeartbeats 1000000 in
theorem rone_run (p : Int) (a : Arr) (A : Option Addr) (c : Nat) (hla : a.xs.length ≤ 100000) (f0a : Fits a.l0) (f1a : Fits a.l1) (hxa : ∀ x ∈ a.xs, Fits x) (h : arity p = (1, 0)) (h2 : chk a = 0) (h3 : a.k = 1) (w : World) (hsa : Sl w A a.xs) : Calls Try.prog 22 #[.int .i64 p, .agg #[.int .i64 a.k, .int .i64 a.r, .int .i64 a.l0, .int .i64 a.l1, .slice A a.xs.length c]] w fun e w' => ArrRet w (oneRes p a) e w' := by
  have H := hide h
  have H2 := hide h2
  have n2 : (a.k != 1) = false := by simpa using h3
  have hl : a.xs.length ≤ 9223372036854775807 := by omega
  have HX := hide hxa
  have hL := hide hla
  obtain ⟨i0, hi0, hz0, hz1, hz2⟩ := info_parts info_i64
  have HI := hide hi0; have HZ0 := hide hz0; have HZ1 := hide hz1; have HZ2 := hide hz2
  clear h h2 h3 hxa hla hi0 hz0 hz1 hz2
  go_enter Try.func22, Try.ntmps22
  go_wp2_with fail
  refine (Sc.Ref.arity_any p _).mono ?_
  rw [H.out]
  rintro e w1 ⟨rfl, hg1⟩
  obtain ⟨hc1, hf1, hz1⟩ := bcell hg1
  (have z0_w1 : w.heap.size < w1.heap.size := by have := hg1.size; simp at this; omega); (have z1_w1 : w.heap.size + 1 < w1.heap.size := by have := hg1.size; simp at this; omega)
  go_wp2_with fail
  refine (Ref.ac_any a A c hl f0a f1a _ (hsa.below (by (repeat (first | with_reducible exact Below.refl _ _ | with_reducible assumption | (with_reducible refine bl_set ?_ (by simp; try omega) _) | (with_reducible refine bl_alloc ?_ _) | (with_reducible refine bl_dn ?_ _) | (with_reducible refine bl_drew ?_) | (with_reducible refine bl_then ?_ (by with_reducible assumption))))))).mono ?_
  rw [H2.out]
  rintro e w2 ⟨rfl, hg2⟩
  obtain ⟨hc2, hf2, hz2⟩ := bcell hg2
  (have z0_w2 : w.heap.size < w2.heap.size := by have := Nat.le_trans hg1.size hg2.size; simp at this; omega); (have z1_w2 : w.heap.size + 1 < w2.heap.size := by have := Nat.le_trans hg1.size hg2.size; simp at this; omega)
  go_upto_region 10 with fail
  have g0 : Hid (Arr5 (w2.alloc (.cells #[.int .i64 1, .int .i64 a.r, .int .i64 a.l0, .int .i64 a.l1, .slice none 0 0] 25)) w2.heap.size (.int .i64 1) (.int .i64 a.r) (.int .i64 a.l0) (.int .i64 a.l1) (.slice none 0 0)) := ⟨by simp [go_sem], by simp [go_sem], by simp [go_sem], by simp [go_sem], by simp [go_sem]⟩
  have gf : Hid (∀ i, ((w2.alloc (.cells #[.int .i64 1, .int .i64 a.r, .int .i64 a.l0, .int .i64 a.l1, .slice none 0 0] 25))).frozen? ⟨w2.heap.size, i, none⟩ = false) := by show ∀ i, _ = _; intro i; simp [go_sem]
  have st0 : Hid (OutSt (w2.alloc (.cells #[.int .i64 1, .int .i64 a.r, .int .i64 a.l0, .int .i64 a.l1, .slice none 0 0] 25)) (w2.alloc (.cells #[.int .i64 1, .int .i64 a.r, .int .i64 a.l0, .int .i64 a.l1, .slice none 0 0] 25)) w2.heap.size (.int .i64 1) (.int .i64 a.r) (.int .i64 a.l0) (.int .i64 a.l1) (.slice none 0 0) (.slice none 0 0) []) := OutSt.start g0.out gf.out (by simp)
  have b4 : Hid (((w2.alloc (.cells #[.int .i64 1, .int .i64 a.r, .int .i64 a.l0, .int .i64 a.l1, .slice none 0 0] 25))).cell? ⟨w.heap.size, 4, none⟩ = some (.slice A a.xs.length c)) := by show _ = _; simp [go_sem, *]
  have hr : Hid (Arr5 (w2.alloc (.cells #[.int .i64 1, .int .i64 a.r, .int .i64 a.l0, .int .i64 a.l1, .slice none 0 0] 25)) (w.heap.size + 1) (.int .i64 0) (.int .i64 0) (.int .i64 0) (.int .i64 0) (.slice none 0 0)) := ⟨by simp [go_sem, *], by simp [go_sem, *], by simp [go_sem, *], by simp [go_sem, *], by simp [go_sem, *]⟩
  have hrf : Hid (∀ i, ((w2.alloc (.cells #[.int .i64 1, .int .i64 a.r, .int .i64 a.l0, .int .i64 a.l1, .slice none 0 0] 25))).frozen? ⟨w.heap.size + 1, i, none⟩ = false) := by show ∀ i, _ = _; intro i; simp [go_sem, *]
  have hb3 : Hid (Below w.heap.size w (w2.alloc (.cells #[.int .i64 1, .int .i64 a.r, .int .i64 a.l0, .int .i64 a.l1, .slice none 0 0] 25))) := by show Below _ _ _; (repeat (first | with_reducible exact Below.refl _ _ | with_reducible assumption | (with_reducible refine bl_set ?_ (by simp; try omega) _) | (with_reducible refine bl_alloc ?_ _) | (with_reducible refine bl_dn ?_ _) | (with_reducible refine bl_drew ?_) | (with_reducible refine bl_then ?_ (by with_reducible assumption))))
  have zG : w.heap.size + 1 < w2.heap.size := z1_w2
  have zw : w2.heap.size < ((w2.alloc (.cells #[.int .i64 1, .int .i64 a.r, .int .i64 a.l0, .int .i64 a.l1, .slice none 0 0] 25))).heap.size := by simp
  clear hc1 hf1 hc2 hf2 hg1 hg2 z0_w1 z1_w1 z0_w2 z1_w2 hz1 hz2 g0 gf
  change Code.wp _ _ _ _ (w2.alloc (.cells #[.int .i64 1, .int .i64 a.r, .int .i64 a.l0, .int .i64 a.l1, .slice none 0 0] 25))
  generalize (w2.alloc (.cells #[.int .i64 1, .int .i64 a.r, .int .i64 a.l0, .int .i64 a.l1, .slice none 0 0] 25)) = w3 at *
  generalize w2.heap.size = G at *
  go_wp2
  go_loopw [9] (fun i wr => ∃ (k : Nat) (ys : List Int) (v : Value), k ≤ a.xs.length ∧ i = .int .i64 k ∧ Hid (mapE (one p) (a.xs.take k) = (0, ys)) ∧ Hid (ys.length = k) ∧ Hid (OutSt w3 wr G (.int .i64 1) (.int .i64 a.r) (.int .i64 a.l0) (.int .i64 a.l1) v v ys)) (fun i _ => a.xs.length - (intOf i).toNat)
  case atStart => exact ⟨0, [], .slice none 0 0, Nat.zero_le _, rfl, rfl, rfl, st0⟩
  case round =>
    obtain ⟨k, ys, v, hk, rfl, hm, hy, st⟩ := hrel
    have hbr : Hid (Below w.heap.size w wr) := st.out.base hb3.out (by omega)
    have hGl : G < wr.heap.size := st.out.lt
    have c4 := st.out.cell b4.out (by omega)
    have rr := hide (st.out.arr hr.out (by omega))
    have rf := hide (st.out.fro (by omega) hrf.out (by omega))
    by_cases hlt : k < a.xs.length
    · obtain ⟨bb, oo, x, rfl, hbl, hcx, hx⟩ := (hsa.below hbr.out).at_ hlt
      have hfx : Hid (Fits x) := HX.out x (by rw [← hx.out]; exact getD_in 0 hlt)
      by_cases he : (one p x).2 = 0
      · have n3 : ((one p x).2 != 0) = false := by simpa using he
        have HE := hide he
        clear he
        obtain ⟨q0, q1, q2, q3, q4⟩ := st.out.2.1
        go_wp2_with (first
          | (go_at_call 64; refine (Sc.Ref.One_any p x hfx.out _).mono ?_; rintro e w4 ⟨rfl, hg4⟩; obtain ⟨hc4, hf4, hz4⟩ := bcell hg4; have st4 := hide (st.out.below hg4))
          | (at_builtin; refine wpList_append_own _ rfl (.tmp 64) (.tmp 66) _ rfl (G + 1) 2 i0 (.int .i64 0) 1 8 Try.underlying23 HI.out HZ0.out HZ1.out HZ2.out rfl (by decide) v k (ys.map (Value.int .i64)) rfl (World.ownsRow.alloc (st4.out.2.2.2.1.own hy.out) _) ⟨w4.heap.size, 0, none⟩ 1 1 [.int .i64 (one p x).1] rfl rfl (lit1 _ _ _) (i64_one _) (by unfold maxLen; omega) (by have := hL.out; omega) (by simp; omega) ?_; intro v' w5 hown' hgrow _; (have st5 := hide (OutSt.app (st4.out.below ((Below.refl _ _).alloc (Nat.le_refl _) _)) hgrow hy.out hown')); (obtain ⟨V', n', c', rfl, hn'⟩ := st5.out.2.2.2.1.shape); (have e4 := st5.out.2.1.2.2.2.2); (have ef4 := st5.out.2.2.1 4)))
        go_roundw
        case rel => exact ⟨k + 1, ys ++ [(one p x).1], _, by omega, by go_num, (by show _ = _; rw [take_succ_getD hlt, hx.out]; exact mapE_step hm.out HE.out), (by show _ = _; simp [hy.out]), st5.out.put _⟩
        case measure => simp [intOf]; omega
      · have n3 : ((one p x).2 != 0) = true := by simpa using he
        have HE : Hid (oneRes p a = ((one p x).2, .zero)) := by
          show _ = _
          have := mapE_err (r := a.xs.drop (k + 1)) (x := x) hm.out he
          rw [← hx.out, ← take_split hlt, hx.out] at this
          unfold oneRes
          rw [this, if_pos he]
        obtain ⟨r0, r1, r2, r3, r4⟩ := rr.out
        clear he
        go_wp2_with (go_at_call 64; refine (Sc.Ref.One_any p x hfx.out _).mono ?_; rintro e w4 ⟨rfl, hg4⟩; obtain ⟨hc4, hf4, hz4⟩ := bcell hg4; (have y1 : w.heap.size + 1 < wr.heap.size := by omega); (have rf1 := rf.out))
        have hbw := bl_then hbr.out hg4
        rw [HE.out]
        clear n3 HE
        refine bodyPost_ret (v := .tuple #[.agg #[.int .i64 0, .int .i64 0, .int .i64 0, .int .i64 0, .slice none 0 0], .int .i64 (one p x).2]) (by simp [results, Try.results22, go_sem, *]) rfl (arr_zero _ (by (repeat (first | with_reducible exact Below.refl _ _ | with_reducible assumption | (with_reducible refine bl_set ?_ (by simp; try omega) _) | (with_reducible refine bl_alloc ?_ _) | (with_reducible refine bl_dn ?_ _) | (with_reducible refine bl_drew ?_) | (with_reducible refine bl_then ?_ (by with_reducible assumption))))))
    · have HE : Hid (oneRes p a = (0, ⟨1, a.r, a.l0, a.l1, ys⟩)) := by
        have e := hm.out
        rw [List.take_of_length_le (by omega)] at e
        show _ = _
        unfold oneRes
        rw [e]; rfl
      obtain ⟨r0, r1, r2, r3, r4⟩ := rr.out
      have rf1 := rf.out
      obtain ⟨V, cv, rfl, hsl, hge, hcp⟩ := st.out.2.2.2.1.sl
      obtain ⟨q0, q1, q2, q3, q4⟩ := st.out.2.1
      have hne : w.heap.size + 1 ≠ G := by omega
      go_wp2
      rw [HE.out]
      refine bodyPost_ret (v := .tuple #[.agg #[.int .i64 1, .int .i64 a.r, .int .i64 a.l0, .int .i64 a.l1, .slice V ys.length cv], .int .i64 0]) (by simp [results, Try.results22, go_sem, *]) rfl ⟨by have := hbr.out; (repeat (first | with_reducible exact Below.refl _ _ | with_reducible assumption | (with_reducible refine bl_set ?_ (by simp; try omega) _) | (with_reducible refine bl_alloc ?_ _) | (with_reducible refine bl_dn ?_ _) | (with_reducible refine bl_drew ?_) | (with_reducible refine bl_then ?_ (by with_reducible assumption)))), V, cv, rfl, ?_, (fun g o e => by have := hge g o e; omega), hcp⟩
      repeat (refine Sl.set ?_ hge (by simp; omega) _)
      exact hsl
theorem rone_any (p : Int) (a : Arr) (A : Option Addr) (c : Nat) (hla : a.xs.length ≤ 100000) (f0a : Fits a.l0) (f1a : Fits a.l1) (hxa : ∀ x ∈ a.xs, Fits x) (w : World) (hsa : Sl w A a.xs) : Calls Try.prog 22 #[.int .i64 p, .agg #[.int .i64 a.k, .int .i64 a.r, .int .i64 a.l0, .int .i64 a.l1, .slice A a.xs.length c]] w (ArrRet w (extOne p a)) := by
  unfold extOne
  by_cases h : arity p = (1, 0)
  · rw [if_neg (by simpa using h)]
    by_cases h2 : chk a = 0
    · rw [if_neg (by simpa using h2)]
      by_cases h3 : a.k = 1
      · rw [if_neg (by simpa using h3)]
        exact rone_run p a A c hla f0a f1a hxa h h2 h3 w hsa
      · rw [if_pos h3]
        exact rone_kind p a A c hla f0a f1a hxa h h2 h3 w hsa
    · rw [if_pos h2]
      exact rone_check p a A c hla f0a f1a hxa h h2 w hsa
  · rw [if_pos h]
    exact rone_arity p a A c hla f0a f1a hxa h w hsa
end Ar
end Go.Proofs.Ytfpnafeildigaaa
/-
invigilatorref10.kinds and cell: their contracts (chapter 10).
-/
set_option linter.unusedSimpArgs false
set_option linter.unusedVariables false
namespace Go.Proofs.Ytfpnafeildigaaa
namespace Ar
open Go.RowKit Sc
def kindErr (p : Int) (a b : Arr) : Int := if kindsOk p a b = true then 0 else 21
theorem kindErr_ok {p : Int} {a b : Arr} (h : kindsOk p a b = true) : kindErr p a b = 0 := if_pos h
theorem kindErr_no {p : Int} {a b : Arr} (h : kindsOk p a b = false) : kindErr p a b = 21 := if_neg (by rw [h]; simp)
theorem kinds_any (p : Int) (a b : Arr) (A B : Option Addr) (c d : Nat) (w : World) :
    Calls Try.prog 70 #[.int .i64 p, .agg #[.int .i64 a.k, .int .i64 a.r, .int .i64 a.l0, .int .i64 a.l1, .slice A a.xs.length c], .agg #[.int .i64 b.k, .int .i64 b.r, .int .i64 b.l0, .int .i64 b.l1, .slice B b.xs.length d]] w fun e w' => e = .returned (.int .i64 (kindErr p a b)) ∧ Below w.heap.size w w' := by
  by_cases h1 : a.k = 1
  · have n1 : (a.k == 1) = true := by simpa using h1
    by_cases h2 : b.k = 1
    · have n2 : (b.k == 1) = true := by simpa using h2
      have H : Hid (kindErr p a b = 0) := kindErr_ok (by unfold kindsOk; simp [h1, h2])
      clear h1 h2
      go_enter Try.func70, Try.ntmps70
      go_wp2
      go_ret
      exact ⟨by rw [H.out]; rfl, by (repeat (first | with_reducible exact Below.refl _ _ | with_reducible assumption | (with_reducible refine bl_set ?_ (by simp; try omega) _) | (with_reducible refine bl_alloc ?_ _) | (with_reducible refine bl_dn ?_ _) | (with_reducible refine bl_drew ?_) | (with_reducible refine bl_then ?_ (by with_reducible assumption))))⟩
    · have n2 : (b.k == 1) = false := by simpa using h2
      have n3 : (a.k == b.k) = false := by rw [h1]; simpa using fun e : 1 = b.k => h2 e.symm
      have H : Hid (kindErr p a b = 21) := kindErr_no (by unfold kindsOk; simp [h1, h2]; intro e; exact absurd e.symm h2)
      clear h1 h2
      go_enter Try.func70, Try.ntmps70
      go_wp2
      go_ret
      exact ⟨by rw [H.out]; rfl, by (repeat (first | with_reducible exact Below.refl _ _ | with_reducible assumption | (with_reducible refine bl_set ?_ (by simp; try omega) _) | (with_reducible refine bl_alloc ?_ _) | (with_reducible refine bl_dn ?_ _) | (with_reducible refine bl_drew ?_) | (with_reducible refine bl_then ?_ (by with_reducible assumption))))⟩
  · have n1 : (a.k == 1) = false := by simpa using h1
    by_cases h3 : a.k = b.k
    · have n3 : (a.k == b.k) = true := by simpa using h3
      by_cases h4 : p = 23
      · have n4 : (p == 23) = true := by simpa using h4
        have H : Hid (kindErr p a b = 0) := kindErr_ok (by unfold kindsOk; simp [h3, h4])
        clear h1 h3 h4
        go_enter Try.func70, Try.ntmps70
        go_wp2
        go_ret
        exact ⟨by rw [H.out]; rfl, by (repeat (first | with_reducible exact Below.refl _ _ | with_reducible assumption | (with_reducible refine bl_set ?_ (by simp; try omega) _) | (with_reducible refine bl_alloc ?_ _) | (with_reducible refine bl_dn ?_ _) | (with_reducible refine bl_drew ?_) | (with_reducible refine bl_then ?_ (by with_reducible assumption))))⟩
      · have n4 : (p == 23) = false := by simpa using h4
        by_cases h5 : p = 24
        · have n5 : (p == 24) = true := by simpa using h5
          have H : Hid (kindErr p a b = 0) := kindErr_ok (by unfold kindsOk; simp [h3, h5])
          clear h1 h3 h4 h5
          go_enter Try.func70, Try.ntmps70
          go_wp2
          go_ret
          exact ⟨by rw [H.out]; rfl, by (repeat (first | with_reducible exact Below.refl _ _ | with_reducible assumption | (with_reducible refine bl_set ?_ (by simp; try omega) _) | (with_reducible refine bl_alloc ?_ _) | (with_reducible refine bl_dn ?_ _) | (with_reducible refine bl_drew ?_) | (with_reducible refine bl_then ?_ (by with_reducible assumption))))⟩
        · have n5 : (p == 24) = false := by simpa using h5
          have H : Hid (kindErr p a b = 21) := kindErr_no (by unfold kindsOk; simp [h1, h4, h5])
          clear h1 h3 h4 h5
          go_enter Try.func70, Try.ntmps70
          go_wp2
          go_ret
          exact ⟨by rw [H.out]; rfl, by (repeat (first | with_reducible exact Below.refl _ _ | with_reducible assumption | (with_reducible refine bl_set ?_ (by simp; try omega) _) | (with_reducible refine bl_alloc ?_ _) | (with_reducible refine bl_dn ?_ _) | (with_reducible refine bl_drew ?_) | (with_reducible refine bl_then ?_ (by with_reducible assumption))))⟩
    · have n3 : (a.k == b.k) = false := by simpa using h3
      have H : Hid (kindErr p a b = 21) := kindErr_no (by unfold kindsOk; simp [h1, h3])
      clear h1 h3
      go_enter Try.func70, Try.ntmps70
      go_wp2
      go_ret
      exact ⟨by rw [H.out]; rfl, by (repeat (first | with_reducible exact Below.refl _ _ | with_reducible assumption | (with_reducible refine bl_set ?_ (by simp; try omega) _) | (with_reducible refine bl_alloc ?_ _) | (with_reducible refine bl_dn ?_ _) | (with_reducible refine bl_drew ?_) | (with_reducible refine bl_then ?_ (by with_reducible assumption))))⟩
/-- the place of an operand's cell -/
def idx (r : Int) (i : Nat) : Nat := if r = 0 then 0 else i
theorem cell_any (a : Arr) (A : Option Addr) (c i : Nat) (x : Int) (w : World) (hl : a.xs.length ≤ 9223372036854775807) (hi : idx a.r i < a.xs.length) (hx : a.xs.getD (idx a.r i) 0 = x) (hs : Sl w A a.xs) :
    Calls Try.prog 71 #[.agg #[.int .i64 a.k, .int .i64 a.r, .int .i64 a.l0, .int .i64 a.l1, .slice A a.xs.length c], .int .i64 i] w fun e w' => e = .returned (.int .i64 x) ∧ Below w.heap.size w w' := by
  unfold idx at hi hx
  by_cases h : a.r = 0
  · have n1 : (a.r == 0) = true := by simpa using h
    rw [if_pos h] at hi hx
    obtain ⟨b, o, x', rfl, hb, hc, hx'⟩ := hs.at_ hi
    have e : x' = x := hx'.out.symm.trans hx
    subst e
    clear hx hs hx' h
    have hc0 : w.cell? ⟨b, o, none⟩ = some (.int .i64 x') := hc
    clear hc
    go_enter Try.func71, Try.ntmps71
    go_wp2
    go_ret
    exact ⟨rfl, by (repeat (first | with_reducible exact Below.refl _ _ | with_reducible assumption | (with_reducible refine bl_set ?_ (by simp; try omega) _) | (with_reducible refine bl_alloc ?_ _) | (with_reducible refine bl_dn ?_ _) | (with_reducible refine bl_drew ?_) | (with_reducible refine bl_then ?_ (by with_reducible assumption))))⟩
  · have n1 : (a.r == 0) = false := by simpa using h
    rw [if_neg h] at hi hx
    obtain ⟨b, o, x', rfl, hb, hc, hx'⟩ := hs.at_ hi
    have e : x' = x := hx'.out.symm.trans hx
    subst e
    clear hx hs hx' h
    go_enter Try.func71, Try.ntmps71
    go_wp2
    go_ret
    exact ⟨rfl, by (repeat (first | with_reducible exact Below.refl _ _ | with_reducible assumption | (with_reducible refine bl_set ?_ (by simp; try omega) _) | (with_reducible refine bl_alloc ?_ _) | (with_reducible refine bl_dn ?_ _) | (with_reducible refine bl_drew ?_) | (with_reducible refine bl_then ?_ (by with_reducible assumption))))⟩
theorem pairs_get {a b : Arr} (he : (extLens a b).1 = 0) {k : Nat} (hk : k < many a b) : idx a.r k < a.xs.length ∧ idx b.r k < b.xs.length ∧ (pairs a b).getD k (0, 0) = (a.xs.getD (idx a.r k) 0, b.xs.getD (idx b.r k) 0) := by
  obtain ⟨c1, c2⟩ := ext_chk he
  unfold many at hk
  unfold pairs idx
  by_cases ha : a.r = 0
  · simp only [if_pos ha] at hk ⊢
    have p0 := chk_pos c1 ha
    have hk' : k < (b.xs.map (fun y => (a.xs.getD 0 0, y))).length := by simpa using hk
    have e : (b.xs.map (fun y => (a.xs.getD 0 0, y))).getD k (0, 0) = (a.xs.getD 0 0, b.xs.getD k 0) := by
      rw [List.getD_eq_getElem?_getD, List.getElem?_eq_getElem hk', List.getD_eq_getElem?_getD (l := b.xs), List.getElem?_eq_getElem hk]; simp
    rw [e]
    by_cases hbr : b.r = 0
    · simp only [if_pos hbr]
      have hone := (chk_zero c2 hbr).2.2
      obtain rfl : k = 0 := by omega
      exact ⟨p0, hk, by trivial⟩
    · simp only [if_neg hbr]; exact ⟨p0, hk, by trivial⟩
  · simp only [if_neg ha] at hk ⊢
    by_cases hbr : b.r = 0
    · simp only [if_pos hbr]
      have p0 := chk_pos c2 hbr
      have hk' : k < (a.xs.map (fun x => (x, b.xs.getD 0 0))).length := by simpa using hk
      refine ⟨hk, p0, ?_⟩
      rw [List.getD_eq_getElem?_getD, List.getElem?_eq_getElem hk', List.getD_eq_getElem?_getD (l := a.xs), List.getElem?_eq_getElem hk]; simp
    · simp only [if_neg hbr]
      have hl := (ext_len he ha hbr).2.2
      have hkb : k < b.xs.length := by omega
      have hk' : k < (a.xs.zip b.xs).length := by simp; omega
      refine ⟨hk, hkb, ?_⟩
      rw [List.getD_eq_getElem?_getD, List.getElem?_eq_getElem hk', List.getD_eq_getElem?_getD (l := a.xs), List.getElem?_eq_getElem hk, List.getD_eq_getElem?_getD (l := b.xs), List.getElem?_eq_getElem hkb]; simp
end Ar
end Go.Proofs.Ytfpnafeildigaaa
/-
invigilatorref10.Two where its operands do not fit (chapter 10).
-/
set_option linter.unusedSimpArgs false
set_option linter.unusedVariables false
namespace Go.Proofs.Ytfpnafeildigaaa
namespace Ar
open Go.RowKit Sc
/-- the boxes of the reference's Two -/
def RSt (w wx : World) (a b : Arr) (A B : Option Addr) (c d : Nat) : Prop :=
  Arr5 wx w.heap.size (.int .i64 a.k) (.int .i64 a.r) (.int .i64 a.l0) (.int .i64 a.l1) (.slice A a.xs.length c) ∧
  Arr5 wx (w.heap.size + 1) (.int .i64 b.k) (.int .i64 b.r) (.int .i64 b.l0) (.int .i64 b.l1) (.slice B b.xs.length d) ∧
  Arr5 wx (w.heap.size + 1 + 1) (.int .i64 0) (.int .i64 0) (.int .i64 0) (.int .i64 0) (.slice none 0 0) ∧
  (∀ i, wx.frozen? ⟨w.heap.size + 1 + 1, i, none⟩ = false) ∧ w.heap.size + 1 + 1 < wx.heap.size ∧ Below w.heap.size w wx
theorem RSt.below {w wx wy : World} {a b : Arr} {A B : Option Addr} {c d : Nat} (h : RSt w wx a b A B c d) (hb : Below wx.heap.size wx wy) : RSt w wy a b A B c d := by
  obtain ⟨h2, h3, h4, h6, h8, h9⟩ := h
  exact ⟨h2.below hb, h3.below hb, h4.below hb, fun i => (hb.frozen (p := ⟨_, i, none⟩) h8).trans (h6 i), Nat.lt_of_lt_of_le h8 hb.size, bl_then h9 hb⟩
set_option maxRecDepth 100000 in
set_option maxHeartbeats 1000000 in
theorem rtwo_arity (p : Int) (a b : Arr) (A B : Option Addr) (c d : Nat) (hLa : a.xs.length ≤ 100000) (f0a : Fits a.l0) (f1a : Fits a.l1) (hLb : b.xs.length ≤ 100000) (f0b : Fits b.l0) (f1b : Fits b.l1) (hxa : ∀ x ∈ a.xs, Fits x) (hxb : ∀ x ∈ b.xs, Fits x) (h : arity p ≠ (2, 0)) (w : World) (hsa : Sl w A a.xs) (hsb : Sl w B b.xs) : Calls Try.prog 25 #[.int .i64 p, .agg #[.int .i64 a.k, .int .i64 a.r, .int .i64 a.l0, .int .i64 a.l1, .slice A a.xs.length c], .agg #[.int .i64 b.k, .int .i64 b.r, .int .i64 b.l0, .int .i64 b.l1, .slice B b.xs.length d]] w fun e w' => ArrRet w (2, .zero) e w' := by
  obtain h1 | h1 : arity p = (1, 0) ∨ arity p = (0, 2) := by
    unfold arity at h ⊢
    by_cases a : 1 ≤ p ∧ p ≤ 3
    · left; rw [if_pos a]
    · by_cases b : 15 ≤ p ∧ p ≤ 32
      · rw [if_neg a, if_pos b] at h; exact absurd rfl h
      · right; rw [if_neg a, if_neg b]
  · have H := hide h1
    clear h h1
    have hla : a.xs.length ≤ 9223372036854775807 := by omega
    have hlb : b.xs.length ≤ 9223372036854775807 := by omega
    have HLA := hide hLa; have HLB := hide hLb; have HXA := hide hxa; have HXB := hide hxb
    clear hLa hLb hxa hxb
    go_enter Try.func25, Try.ntmps25
    go_wp2_with fail
    refine (Sc.Ref.arity_any p _).mono ?_
    rw [H.out]
    rintro e w1 ⟨rfl, hg⟩
    have st1 : Hid (RSt w w1 a b A B c d) := RSt.below (w := w) (a := a) (b := b) (A := A) (B := B) (c := c) (d := d) ⟨⟨by simp [go_sem], by simp [go_sem], by simp [go_sem], by simp [go_sem], by simp [go_sem]⟩, ⟨by simp [go_sem], by simp [go_sem], by simp [go_sem], by simp [go_sem], by simp [go_sem]⟩, ⟨by simp [go_sem], by simp [go_sem], by simp [go_sem], by simp [go_sem], by simp [go_sem]⟩, fun i => by simp [go_sem], by simp, by (repeat (first | with_reducible exact Below.refl _ _ | with_reducible assumption | (with_reducible refine bl_set ?_ (by simp; try omega) _) | (with_reducible refine bl_alloc ?_ _) | (with_reducible refine bl_dn ?_ _) | (with_reducible refine bl_drew ?_) | (with_reducible refine bl_then ?_ (by with_reducible assumption))))⟩ hg
    clear hg
    obtain ⟨⟨a0_w1, a1_w1, a2_w1, a3_w1, a4_w1⟩, ⟨b0_w1, b1_w1, b2_w1, b3_w1, b4_w1⟩, ⟨c0_w1, c1_w1, c2_w1, c3_w1, c4_w1⟩, fc_w1, y2_w1, hb_w1⟩ := st1.out; (have y0_w1 : w.heap.size < w1.heap.size := by omega); (have y1_w1 : w.heap.size + 1 < w1.heap.size := by omega)
    go_wp2
    refine bodyPost_ret (v := .tuple #[.agg #[.int .i64 0, .int .i64 0, .int .i64 0, .int .i64 0, .slice none 0 0], .int .i64 2]) (by simp [results, Try.results25, go_sem, *]) rfl (arr_zero _ (by (repeat (first | with_reducible exact Below.refl _ _ | with_reducible assumption | (with_reducible refine bl_set ?_ (by simp; try omega) _) | (with_reducible refine bl_alloc ?_ _) | (with_reducible refine bl_dn ?_ _) | (with_reducible refine bl_drew ?_) | (with_reducible refine bl_then ?_ (by with_reducible assumption))))))
  · have H := hide h1
    clear h h1
    have hla : a.xs.length ≤ 9223372036854775807 := by omega
    have hlb : b.xs.length ≤ 9223372036854775807 := by omega
    have HLA := hide hLa; have HLB := hide hLb; have HXA := hide hxa; have HXB := hide hxb
    clear hLa hLb hxa hxb
    go_enter Try.func25, Try.ntmps25
    go_wp2_with fail
    refine (Sc.Ref.arity_any p _).mono ?_
    rw [H.out]
    rintro e w1 ⟨rfl, hg⟩
    have st1 : Hid (RSt w w1 a b A B c d) := RSt.below (w := w) (a := a) (b := b) (A := A) (B := B) (c := c) (d := d) ⟨⟨by simp [go_sem], by simp [go_sem], by simp [go_sem], by simp [go_sem], by simp [go_sem]⟩, ⟨by simp [go_sem], by simp [go_sem], by simp [go_sem], by simp [go_sem], by simp [go_sem]⟩, ⟨by simp [go_sem], by simp [go_sem], by simp [go_sem], by simp [go_sem], by simp [go_sem]⟩, fun i => by simp [go_sem], by simp, by (repeat (first | with_reducible exact Below.refl _ _ | with_reducible assumption | (with_reducible refine bl_set ?_ (by simp; try omega) _) | (with_reducible refine bl_alloc ?_ _) | (with_reducible refine bl_dn ?_ _) | (with_reducible refine bl_drew ?_) | (with_reducible refine bl_then ?_ (by with_reducible assumption))))⟩ hg
    clear hg
    obtain ⟨⟨a0_w1, a1_w1, a2_w1, a3_w1, a4_w1⟩, ⟨b0_w1, b1_w1, b2_w1, b3_w1, b4_w1⟩, ⟨c0_w1, c1_w1, c2_w1, c3_w1, c4_w1⟩, fc_w1, y2_w1, hb_w1⟩ := st1.out; (have y0_w1 : w.heap.size < w1.heap.size := by omega); (have y1_w1 : w.heap.size + 1 < w1.heap.size := by omega)
    go_wp2
    refine bodyPost_ret (v := .tuple #[.agg #[.int .i64 0, .int .i64 0, .int .i64 0, .int .i64 0, .slice none 0 0], .int .i64 2]) (by simp [results, Try.results25, go_sem, *]) rfl (arr_zero _ (by (repeat (first | with_reducible exact Below.refl _ _ | with_reducible assumption | (with_reducible refine bl_set ?_ (by simp; try omega) _) | (with_reducible refine bl_alloc ?_ _) | (with_reducible refine bl_dn ?_ _) | (with_reducible refine bl_drew ?_) | (with_reducible refine bl_then ?_ (by with_reducible assumption))))))
set_option maxRecDepth 100000 in
set_option maxHeartbeats 1000000 in
theorem rtwo_a (p : Int) (a b : Arr) (A B : Option Addr) (c d : Nat) (hLa : a.xs.length ≤ 100000) (f0a : Fits a.l0) (f1a : Fits a.l1) (hLb : b.xs.length ≤ 100000) (f0b : Fits b.l0) (f1b : Fits b.l1) (hxa : ∀ x ∈ a.xs, Fits x) (hxb : ∀ x ∈ b.xs, Fits x) (h : arity p = (2, 0)) (h2 : chk a ≠ 0) (w : World) (hsa : Sl w A a.xs) (hsb : Sl w B b.xs) : Calls Try.prog 25 #[.int .i64 p, .agg #[.int .i64 a.k, .int .i64 a.r, .int .i64 a.l0, .int .i64 a.l1, .slice A a.xs.length c], .agg #[.int .i64 b.k, .int .i64 b.r, .int .i64 b.l0, .int .i64 b.l1, .slice B b.xs.length d]] w fun e w' => ArrRet w (chk a, .zero) e w' := by
  have H := hide h
  have n1 : (chk a == 0) = false := by simpa using h2
  have n2 : (chk a != 0) = true := by simpa using h2
  clear h h2
  have hla : a.xs.length ≤ 9223372036854775807 := by omega
  have hlb : b.xs.length ≤ 9223372036854775807 := by omega
  have HLA := hide hLa; have HLB := hide hLb; have HXA := hide hxa; have HXB := hide hxb
  clear hLa hLb hxa hxb
  go_enter Try.func25, Try.ntmps25
  go_wp2_with fail
  refine (Sc.Ref.arity_any p _).mono ?_
  rw [H.out]
  rintro e w1 ⟨rfl, hg⟩
  have st1 : Hid (RSt w w1 a b A B c d) := RSt.below (w := w) (a := a) (b := b) (A := A) (B := B) (c := c) (d := d) ⟨⟨by simp [go_sem], by simp [go_sem], by simp [go_sem], by simp [go_sem], by simp [go_sem]⟩, ⟨by simp [go_sem], by simp [go_sem], by simp [go_sem], by simp [go_sem], by simp [go_sem]⟩, ⟨by simp [go_sem], by simp [go_sem], by simp [go_sem], by simp [go_sem], by simp [go_sem]⟩, fun i => by simp [go_sem], by simp, by (repeat (first | with_reducible exact Below.refl _ _ | with_reducible assumption | (with_reducible refine bl_set ?_ (by simp; try omega) _) | (with_reducible refine bl_alloc ?_ _) | (with_reducible refine bl_dn ?_ _) | (with_reducible refine bl_drew ?_) | (with_reducible refine bl_then ?_ (by with_reducible assumption))))⟩ hg
  clear hg
  obtain ⟨⟨a0_w1, a1_w1, a2_w1, a3_w1, a4_w1⟩, ⟨b0_w1, b1_w1, b2_w1, b3_w1, b4_w1⟩, ⟨c0_w1, c1_w1, c2_w1, c3_w1, c4_w1⟩, fc_w1, y2_w1, hb_w1⟩ := st1.out; (have y0_w1 : w.heap.size < w1.heap.size := by omega); (have y1_w1 : w.heap.size + 1 < w1.heap.size := by omega)
  go_wp2_with fail
  refine (Ref.ac_any a A c hla f0a f1a _ (hsa.below (by (repeat (first | with_reducible exact Below.refl _ _ | with_reducible assumption | (with_reducible refine bl_set ?_ (by simp; try omega) _) | (with_reducible refine bl_alloc ?_ _) | (with_reducible refine bl_dn ?_ _) | (with_reducible refine bl_drew ?_) | (with_reducible refine bl_then ?_ (by with_reducible assumption))))))).mono ?_
  skip
  rintro e w2 ⟨rfl, hg⟩
  have st2 := hide (st1.out.below hg)
  clear a0_w1 a1_w1 a2_w1 a3_w1 a4_w1 b0_w1 b1_w1 b2_w1 b3_w1 b4_w1 c0_w1 c1_w1 c2_w1 c3_w1 c4_w1 fc_w1 y2_w1 hb_w1 y0_w1 y1_w1
  clear st1 hg
  obtain ⟨⟨a0_w2, a1_w2, a2_w2, a3_w2, a4_w2⟩, ⟨b0_w2, b1_w2, b2_w2, b3_w2, b4_w2⟩, ⟨c0_w2, c1_w2, c2_w2, c3_w2, c4_w2⟩, fc_w2, y2_w2, hb_w2⟩ := st2.out; (have y0_w2 : w.heap.size < w2.heap.size := by omega); (have y1_w2 : w.heap.size + 1 < w2.heap.size := by omega)
  go_wp2
  refine bodyPost_ret (v := .tuple #[.agg #[.int .i64 0, .int .i64 0, .int .i64 0, .int .i64 0, .slice none 0 0], .int .i64 (chk a)]) (by simp [results, Try.results25, go_sem, *]) rfl (arr_zero _ (by (repeat (first | with_reducible exact Below.refl _ _ | with_reducible assumption | (with_reducible refine bl_set ?_ (by simp; try omega) _) | (with_reducible refine bl_alloc ?_ _) | (with_reducible refine bl_dn ?_ _) | (with_reducible refine bl_drew ?_) | (with_reducible refine bl_then ?_ (by with_reducible assumption))))))
set_option maxRecDepth 100000 in
set_option maxHeartbeats 1000000 in
theorem rtwo_b (p : Int) (a b : Arr) (A B : Option Addr) (c d : Nat) (hLa : a.xs.length ≤ 100000) (f0a : Fits a.l0) (f1a : Fits a.l1) (hLb : b.xs.length ≤ 100000) (f0b : Fits b.l0) (f1b : Fits b.l1) (hxa : ∀ x ∈ a.xs, Fits x) (hxb : ∀ x ∈ b.xs, Fits x) (h : arity p = (2, 0)) (h2 : chk a = 0) (h3 : chk b ≠ 0) (w : World) (hsa : Sl w A a.xs) (hsb : Sl w B b.xs) : Calls Try.prog 25 #[.int .i64 p, .agg #[.int .i64 a.k, .int .i64 a.r, .int .i64 a.l0, .int .i64 a.l1, .slice A a.xs.length c], .agg #[.int .i64 b.k, .int .i64 b.r, .int .i64 b.l0, .int .i64 b.l1, .slice B b.xs.length d]] w fun e w' => ArrRet w (chk b, .zero) e w' := by
  have H := hide h; have H2 := hide h2
  have n1 : (chk b == 0) = false := by simpa using h3
  have n2 : (chk b != 0) = true := by simpa using h3
  clear h h2 h3
  have hla : a.xs.length ≤ 9223372036854775807 := by omega
  have hlb : b.xs.length ≤ 9223372036854775807 := by omega
  have HLA := hide hLa; have HLB := hide hLb; have HXA := hide hxa; have HXB := hide hxb
  clear hLa hLb hxa hxb
  go_enter Try.func25, Try.ntmps25
  go_wp2_with fail
  refine (Sc.Ref.arity_any p _).mono ?_
  rw [H.out]
  rintro e w1 ⟨rfl, hg⟩
  have st1 : Hid (RSt w w1 a b A B c d) := RSt.below (w := w) (a := a) (b := b) (A := A) (B := B) (c := c) (d := d) ⟨⟨by simp [go_sem], by simp [go_sem], by simp [go_sem], by simp [go_sem], by simp [go_sem]⟩, ⟨by simp [go_sem], by simp [go_sem], by simp [go_sem], by simp [go_sem], by simp [go_sem]⟩, ⟨by simp [go_sem], by simp [go_sem], by simp [go_sem], by simp [go_sem], by simp [go_sem]⟩, fun i => by simp [go_sem], by simp, by (repeat (first | with_reducible exact Below.refl _ _ | with_reducible assumption | (with_reducible refine bl_set ?_ (by simp; try omega) _) | (with_reducible refine bl_alloc ?_ _) | (with_reducible refine bl_dn ?_ _) | (with_reducible refine bl_drew ?_) | (with_reducible refine bl_then ?_ (by with_reducible assumption))))⟩ hg
  clear hg
  obtain ⟨⟨a0_w1, a1_w1, a2_w1, a3_w1, a4_w1⟩, ⟨b0_w1, b1_w1, b2_w1, b3_w1, b4_w1⟩, ⟨c0_w1, c1_w1, c2_w1, c3_w1, c4_w1⟩, fc_w1, y2_w1, hb_w1⟩ := st1.out; (have y0_w1 : w.heap.size < w1.heap.size := by omega); (have y1_w1 : w.heap.size + 1 < w1.heap.size := by omega)
  go_wp2_with fail
  refine (Ref.ac_any a A c hla f0a f1a _ (hsa.below (by (repeat (first | with_reducible exact Below.refl _ _ | with_reducible assumption | (with_reducible refine bl_set ?_ (by simp; try omega) _) | (with_reducible refine bl_alloc ?_ _) | (with_reducible refine bl_dn ?_ _) | (with_reducible refine bl_drew ?_) | (with_reducible refine bl_then ?_ (by with_reducible assumption))))))).mono ?_
  rw [H2.out]
  rintro e w2 ⟨rfl, hg⟩
  have st2 := hide (st1.out.below hg)
  clear a0_w1 a1_w1 a2_w1 a3_w1 a4_w1 b0_w1 b1_w1 b2_w1 b3_w1 b4_w1 c0_w1 c1_w1 c2_w1 c3_w1 c4_w1 fc_w1 y2_w1 hb_w1 y0_w1 y1_w1
  clear st1 hg
  obtain ⟨⟨a0_w2, a1_w2, a2_w2, a3_w2, a4_w2⟩, ⟨b0_w2, b1_w2, b2_w2, b3_w2, b4_w2⟩, ⟨c0_w2, c1_w2, c2_w2, c3_w2, c4_w2⟩, fc_w2, y2_w2, hb_w2⟩ := st2.out; (have y0_w2 : w.heap.size < w2.heap.size := by omega); (have y1_w2 : w.heap.size + 1 < w2.heap.size := by omega)
  go_wp2_with fail
  refine (Ref.ac_any b B d hlb f0b f1b _ (hsb.below (by (repeat (first | with_reducible exact Below.refl _ _ | with_reducible assumption | (with_reducible refine bl_set ?_ (by simp; try omega) _) | (with_reducible refine bl_alloc ?_ _) | (with_reducible refine bl_dn ?_ _) | (with_reducible refine bl_drew ?_) | (with_reducible refine bl_then ?_ (by with_reducible assumption))))))).mono ?_
  skip
  rintro e w3 ⟨rfl, hg⟩
  have st3 := hide (st2.out.below hg)
  clear a0_w2 a1_w2 a2_w2 a3_w2 a4_w2 b0_w2 b1_w2 b2_w2 b3_w2 b4_w2 c0_w2 c1_w2 c2_w2 c3_w2 c4_w2 fc_w2 y2_w2 hb_w2 y0_w2 y1_w2
  clear st2 hg
  obtain ⟨⟨a0_w3, a1_w3, a2_w3, a3_w3, a4_w3⟩, ⟨b0_w3, b1_w3, b2_w3, b3_w3, b4_w3⟩, ⟨c0_w3, c1_w3, c2_w3, c3_w3, c4_w3⟩, fc_w3, y2_w3, hb_w3⟩ := st3.out; (have y0_w3 : w.heap.size < w3.heap.size := by omega); (have y1_w3 : w.heap.size + 1 < w3.heap.size := by omega)
  go_wp2
  refine bodyPost_ret (v := .tuple #[.agg #[.int .i64 0, .int .i64 0, .int .i64 0, .int .i64 0, .slice none 0 0], .int .i64 (chk b)]) (by simp [results, Try.results25, go_sem, *]) rfl (arr_zero _ (by (repeat (first | with_reducible exact Below.refl _ _ | with_reducible assumption | (with_reducible refine bl_set ?_ (by simp; try omega) _) | (with_reducible refine bl_alloc ?_ _) | (with_reducible refine bl_dn ?_ _) | (with_reducible refine bl_drew ?_) | (with_reducible refine bl_then ?_ (by with_reducible assumption))))))
set_option maxRecDepth 100000 in
set_option maxHeartbeats 1000000 in
theorem rtwo_kind (p : Int) (a b : Arr) (A B : Option Addr) (c d : Nat) (hLa : a.xs.length ≤ 100000) (f0a : Fits a.l0) (f1a : Fits a.l1) (hLb : b.xs.length ≤ 100000) (f0b : Fits b.l0) (f1b : Fits b.l1) (hxa : ∀ x ∈ a.xs, Fits x) (hxb : ∀ x ∈ b.xs, Fits x) (h : arity p = (2, 0)) (h2 : chk a = 0) (h3 : chk b = 0) (h4 : kindsOk p a b = false) (w : World) (hsa : Sl w A a.xs) (hsb : Sl w B b.xs) : Calls Try.prog 25 #[.int .i64 p, .agg #[.int .i64 a.k, .int .i64 a.r, .int .i64 a.l0, .int .i64 a.l1, .slice A a.xs.length c], .agg #[.int .i64 b.k, .int .i64 b.r, .int .i64 b.l0, .int .i64 b.l1, .slice B b.xs.length d]] w fun e w' => ArrRet w (21, .zero) e w' := by
  have H := hide h; have H2 := hide h2; have H3 := hide h3; have H4 := hide h4
  clear h h2 h3 h4
  have hla : a.xs.length ≤ 9223372036854775807 := by omega
  have hlb : b.xs.length ≤ 9223372036854775807 := by omega
  have HLA := hide hLa; have HLB := hide hLb; have HXA := hide hxa; have HXB := hide hxb
  clear hLa hLb hxa hxb
  go_enter Try.func25, Try.ntmps25
  go_wp2_with fail
  refine (Sc.Ref.arity_any p _).mono ?_
  rw [H.out]
  rintro e w1 ⟨rfl, hg⟩
  have st1 : Hid (RSt w w1 a b A B c d) := RSt.below (w := w) (a := a) (b := b) (A := A) (B := B) (c := c) (d := d) ⟨⟨by simp [go_sem], by simp [go_sem], by simp [go_sem], by simp [go_sem], by simp [go_sem]⟩, ⟨by simp [go_sem], by simp [go_sem], by simp [go_sem], by simp [go_sem], by simp [go_sem]⟩, ⟨by simp [go_sem], by simp [go_sem], by simp [go_sem], by simp [go_sem], by simp [go_sem]⟩, fun i => by simp [go_sem], by simp, by (repeat (first | with_reducible exact Below.refl _ _ | with_reducible assumption | (with_reducible refine bl_set ?_ (by simp; try omega) _) | (with_reducible refine bl_alloc ?_ _) | (with_reducible refine bl_dn ?_ _) | (with_reducible refine bl_drew ?_) | (with_reducible refine bl_then ?_ (by with_reducible assumption))))⟩ hg
  clear hg
  obtain ⟨⟨a0_w1, a1_w1, a2_w1, a3_w1, a4_w1⟩, ⟨b0_w1, b1_w1, b2_w1, b3_w1, b4_w1⟩, ⟨c0_w1, c1_w1, c2_w1, c3_w1, c4_w1⟩, fc_w1, y2_w1, hb_w1⟩ := st1.out; (have y0_w1 : w.heap.size < w1.heap.size := by omega); (have y1_w1 : w.heap.size + 1 < w1.heap.size := by omega)
  go_wp2_with fail
  refine (Ref.ac_any a A c hla f0a f1a _ (hsa.below (by (repeat (first | with_reducible exact Below.refl _ _ | with_reducible assumption | (with_reducible refine bl_set ?_ (by simp; try omega) _) | (with_reducible refine bl_alloc ?_ _) | (with_reducible refine bl_dn ?_ _) | (with_reducible refine bl_drew ?_) | (with_reducible refine bl_then ?_ (by with_reducible assumption))))))).mono ?_
  rw [H2.out]
  rintro e w2 ⟨rfl, hg⟩
  have st2 := hide (st1.out.below hg)
  clear a0_w1 a1_w1 a2_w1 a3_w1 a4_w1 b0_w1 b1_w1 b2_w1 b3_w1 b4_w1 c0_w1 c1_w1 c2_w1 c3_w1 c4_w1 fc_w1 y2_w1 hb_w1 y0_w1 y1_w1
  clear st1 hg
  obtain ⟨⟨a0_w2, a1_w2, a2_w2, a3_w2, a4_w2⟩, ⟨b0_w2, b1_w2, b2_w2, b3_w2, b4_w2⟩, ⟨c0_w2, c1_w2, c2_w2, c3_w2, c4_w2⟩, fc_w2, y2_w2, hb_w2⟩ := st2.out; (have y0_w2 : w.heap.size < w2.heap.size := by omega); (have y1_w2 : w.heap.size + 1 < w2.heap.size := by omega)
  go_wp2_with fail
  refine (Ref.ac_any b B d hlb f0b f1b _ (hsb.below (by (repeat (first | with_reducible exact Below.refl _ _ | with_reducible assumption | (with_reducible refine bl_set ?_ (by simp; try omega) _) | (with_reducible refine bl_alloc ?_ _) | (with_reducible refine bl_dn ?_ _) | (with_reducible refine bl_drew ?_) | (with_reducible refine bl_then ?_ (by with_reducible assumption))))))).mono ?_
  rw [H3.out]
  rintro e w3 ⟨rfl, hg⟩
  have st3 := hide (st2.out.below hg)
  clear a0_w2 a1_w2 a2_w2 a3_w2 a4_w2 b0_w2 b1_w2 b2_w2 b3_w2 b4_w2 c0_w2 c1_w2 c2_w2 c3_w2 c4_w2 fc_w2 y2_w2 hb_w2 y0_w2 y1_w2
  clear st2 hg
  obtain ⟨⟨a0_w3, a1_w3, a2_w3, a3_w3, a4_w3⟩, ⟨b0_w3, b1_w3, b2_w3, b3_w3, b4_w3⟩, ⟨c0_w3, c1_w3, c2_w3, c3_w3, c4_w3⟩, fc_w3, y2_w3, hb_w3⟩ := st3.out; (have y0_w3 : w.heap.size < w3.heap.size := by omega); (have y1_w3 : w.heap.size + 1 < w3.heap.size := by omega)
  go_wp2_with fail
  refine (kinds_any p a b A B c d _).mono ?_
  rw [kindErr_no H4.out]
  rintro e w4 ⟨rfl, hg⟩
  have st4 := hide (st3.out.below hg)
  clear a0_w3 a1_w3 a2_w3 a3_w3 a4_w3 b0_w3 b1_w3 b2_w3 b3_w3 b4_w3 c0_w3 c1_w3 c2_w3 c3_w3 c4_w3 fc_w3 y2_w3 hb_w3 y0_w3 y1_w3
  clear st3 hg
  obtain ⟨⟨a0_w4, a1_w4, a2_w4, a3_w4, a4_w4⟩, ⟨b0_w4, b1_w4, b2_w4, b3_w4, b4_w4⟩, ⟨c0_w4, c1_w4, c2_w4, c3_w4, c4_w4⟩, fc_w4, y2_w4, hb_w4⟩ := st4.out; (have y0_w4 : w.heap.size < w4.heap.size := by omega); (have y1_w4 : w.heap.size + 1 < w4.heap.size := by omega)
  go_wp2
  refine bodyPost_ret (v := .tuple #[.agg #[.int .i64 0, .int .i64 0, .int .i64 0, .int .i64 0, .slice none 0 0], .int .i64 21]) (by simp [results, Try.results25, go_sem, *]) rfl (arr_zero _ (by (repeat (first | with_reducible exact Below.refl _ _ | with_reducible assumption | (with_reducible refine bl_set ?_ (by simp; try omega) _) | (with_reducible refine bl_alloc ?_ _) | (with_reducible refine bl_dn ?_ _) | (with_reducible refine bl_drew ?_) | (with_reducible refine bl_then ?_ (by with_reducible assumption))))))
set_option maxRecDepth 100000 in
set_option maxHeartbeats 1000000 in
theorem rtwo_lens (p : Int) (a b : Arr) (A B : Option Addr) (c d : Nat) (hLa : a.xs.length ≤ 100000) (f0a : Fits a.l0) (f1a : Fits a.l1) (hLb : b.xs.length ≤ 100000) (f0b : Fits b.l0) (f1b : Fits b.l1) (hxa : ∀ x ∈ a.xs, Fits x) (hxb : ∀ x ∈ b.xs, Fits x) (h : arity p = (2, 0)) (h2 : chk a = 0) (h3 : chk b = 0) (h4 : kindsOk p a b = true) (er r l0 l1 : Int) (h5 : extLens a b = (er, r, l0, l1)) (h6 : er ≠ 0) (w : World) (hsa : Sl w A a.xs) (hsb : Sl w B b.xs) : Calls Try.prog 25 #[.int .i64 p, .agg #[.int .i64 a.k, .int .i64 a.r, .int .i64 a.l0, .int .i64 a.l1, .slice A a.xs.length c], .agg #[.int .i64 b.k, .int .i64 b.r, .int .i64 b.l0, .int .i64 b.l1, .slice B b.xs.length d]] w fun e w' => ArrRet w (er, .zero) e w' := by
  have H := hide h; have H2 := hide h2; have H3 := hide h3; have H4 := hide h4; have H5 := hide h5
  have n1 : (er != 0) = true := by simpa using h6
  clear h h2 h3 h4 h5 h6
  have hla : a.xs.length ≤ 9223372036854775807 := by omega
  have hlb : b.xs.length ≤ 9223372036854775807 := by omega
  have HLA := hide hLa; have HLB := hide hLb; have HXA := hide hxa; have HXB := hide hxb
  clear hLa hLb hxa hxb
  go_enter Try.func25, Try.ntmps25
  go_wp2_with fail
  refine (Sc.Ref.arity_any p _).mono ?_
  rw [H.out]
  rintro e w1 ⟨rfl, hg⟩
  have st1 : Hid (RSt w w1 a b A B c d) := RSt.below (w := w) (a := a) (b := b) (A := A) (B := B) (c := c) (d := d) ⟨⟨by simp [go_sem], by simp [go_sem], by simp [go_sem], by simp [go_sem], by simp [go_sem]⟩, ⟨by simp [go_sem], by simp [go_sem], by simp [go_sem], by simp [go_sem], by simp [go_sem]⟩, ⟨by simp [go_sem], by simp [go_sem], by simp [go_sem], by simp [go_sem], by simp [go_sem]⟩, fun i => by simp [go_sem], by simp, by (repeat (first | with_reducible exact Below.refl _ _ | with_reducible assumption | (with_reducible refine bl_set ?_ (by simp; try omega) _) | (with_reducible refine bl_alloc ?_ _) | (with_reducible refine bl_dn ?_ _) | (with_reducible refine bl_drew ?_) | (with_reducible refine bl_then ?_ (by with_reducible assumption))))⟩ hg
  clear hg
  obtain ⟨⟨a0_w1, a1_w1, a2_w1, a3_w1, a4_w1⟩, ⟨b0_w1, b1_w1, b2_w1, b3_w1, b4_w1⟩, ⟨c0_w1, c1_w1, c2_w1, c3_w1, c4_w1⟩, fc_w1, y2_w1, hb_w1⟩ := st1.out; (have y0_w1 : w.heap.size < w1.heap.size := by omega); (have y1_w1 : w.heap.size + 1 < w1.heap.size := by omega)
  go_wp2_with fail
  refine (Ref.ac_any a A c hla f0a f1a _ (hsa.below (by (repeat (first | with_reducible exact Below.refl _ _ | with_reducible assumption | (with_reducible refine bl_set ?_ (by simp; try omega) _) | (with_reducible refine bl_alloc ?_ _) | (with_reducible refine bl_dn ?_ _) | (with_reducible refine bl_drew ?_) | (with_reducible refine bl_then ?_ (by with_reducible assumption))))))).mono ?_
  rw [H2.out]
  rintro e w2 ⟨rfl, hg⟩
  have st2 := hide (st1.out.below hg)
  clear a0_w1 a1_w1 a2_w1 a3_w1 a4_w1 b0_w1 b1_w1 b2_w1 b3_w1 b4_w1 c0_w1 c1_w1 c2_w1 c3_w1 c4_w1 fc_w1 y2_w1 hb_w1 y0_w1 y1_w1
  clear st1 hg
  obtain ⟨⟨a0_w2, a1_w2, a2_w2, a3_w2, a4_w2⟩, ⟨b0_w2, b1_w2, b2_w2, b3_w2, b4_w2⟩, ⟨c0_w2, c1_w2, c2_w2, c3_w2, c4_w2⟩, fc_w2, y2_w2, hb_w2⟩ := st2.out; (have y0_w2 : w.heap.size < w2.heap.size := by omega); (have y1_w2 : w.heap.size + 1 < w2.heap.size := by omega)
  go_wp2_with fail
  refine (Ref.ac_any b B d hlb f0b f1b _ (hsb.below (by (repeat (first | with_reducible exact Below.refl _ _ | with_reducible assumption | (with_reducible refine bl_set ?_ (by simp; try omega) _) | (with_reducible refine bl_alloc ?_ _) | (with_reducible refine bl_dn ?_ _) | (with_reducible refine bl_drew ?_) | (with_reducible refine bl_then ?_ (by with_reducible assumption))))))).mono ?_
  rw [H3.out]
  rintro e w3 ⟨rfl, hg⟩
  have st3 := hide (st2.out.below hg)
  clear a0_w2 a1_w2 a2_w2 a3_w2 a4_w2 b0_w2 b1_w2 b2_w2 b3_w2 b4_w2 c0_w2 c1_w2 c2_w2 c3_w2 c4_w2 fc_w2 y2_w2 hb_w2 y0_w2 y1_w2
  clear st2 hg
  obtain ⟨⟨a0_w3, a1_w3, a2_w3, a3_w3, a4_w3⟩, ⟨b0_w3, b1_w3, b2_w3, b3_w3, b4_w3⟩, ⟨c0_w3, c1_w3, c2_w3, c3_w3, c4_w3⟩, fc_w3, y2_w3, hb_w3⟩ := st3.out; (have y0_w3 : w.heap.size < w3.heap.size := by omega); (have y1_w3 : w.heap.size + 1 < w3.heap.size := by omega)
  go_wp2_with fail
  refine (kinds_any p a b A B c d _).mono ?_
  rw [kindErr_ok H4.out]
  rintro e w4 ⟨rfl, hg⟩
  have st4 := hide (st3.out.below hg)
  clear a0_w3 a1_w3 a2_w3 a3_w3 a4_w3 b0_w3 b1_w3 b2_w3 b3_w3 b4_w3 c0_w3 c1_w3 c2_w3 c3_w3 c4_w3 fc_w3 y2_w3 hb_w3 y0_w3 y1_w3
  clear st3 hg
  obtain ⟨⟨a0_w4, a1_w4, a2_w4, a3_w4, a4_w4⟩, ⟨b0_w4, b1_w4, b2_w4, b3_w4, b4_w4⟩, ⟨c0_w4, c1_w4, c2_w4, c3_w4, c4_w4⟩, fc_w4, y2_w4, hb_w4⟩ := st4.out; (have y0_w4 : w.heap.size < w4.heap.size := by omega); (have y1_w4 : w.heap.size + 1 < w4.heap.size := by omega)
  go_wp2_with fail
  refine (rlens_any a A c hla f0a f1a b B d hlb f0b f1b _ (hsa.below (by (repeat (first | with_reducible exact Below.refl _ _ | with_reducible assumption | (with_reducible refine bl_set ?_ (by simp; try omega) _) | (with_reducible refine bl_alloc ?_ _) | (with_reducible refine bl_dn ?_ _) | (with_reducible refine bl_drew ?_) | (with_reducible refine bl_then ?_ (by with_reducible assumption)))))) (hsb.below (by (repeat (first | with_reducible exact Below.refl _ _ | with_reducible assumption | (with_reducible refine bl_set ?_ (by simp; try omega) _) | (with_reducible refine bl_alloc ?_ _) | (with_reducible refine bl_dn ?_ _) | (with_reducible refine bl_drew ?_) | (with_reducible refine bl_then ?_ (by with_reducible assumption))))))).mono ?_
  rw [H5.out]
  rintro e w5 ⟨rfl, hg⟩
  have st5 := hide (st4.out.below hg)
  clear a0_w4 a1_w4 a2_w4 a3_w4 a4_w4 b0_w4 b1_w4 b2_w4 b3_w4 b4_w4 c0_w4 c1_w4 c2_w4 c3_w4 c4_w4 fc_w4 y2_w4 hb_w4 y0_w4 y1_w4
  clear st4 hg
  obtain ⟨⟨a0_w5, a1_w5, a2_w5, a3_w5, a4_w5⟩, ⟨b0_w5, b1_w5, b2_w5, b3_w5, b4_w5⟩, ⟨c0_w5, c1_w5, c2_w5, c3_w5, c4_w5⟩, fc_w5, y2_w5, hb_w5⟩ := st5.out; (have y0_w5 : w.heap.size < w5.heap.size := by omega); (have y1_w5 : w.heap.size + 1 < w5.heap.size := by omega)
  go_wp2
  refine bodyPost_ret (v := .tuple #[.agg #[.int .i64 0, .int .i64 0, .int .i64 0, .int .i64 0, .slice none 0 0], .int .i64 er]) (by simp [results, Try.results25, go_sem, *]) rfl (arr_zero _ (by (repeat (first | with_reducible exact Below.refl _ _ | with_reducible assumption | (with_reducible refine bl_set ?_ (by simp; try omega) _) | (with_reducible refine bl_alloc ?_ _) | (with_reducible refine bl_dn ?_ _) | (with_reducible refine bl_drew ?_) | (with_reducible refine bl_then ?_ (by with_reducible assumption))))))
end Ar
end Go.Proofs.Ytfpnafeildigaaa
