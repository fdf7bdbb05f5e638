/-
invigilatorref10.Two: its contract (chapter 10).
-/
import Derived.Test.YtfpnafeildigaaaBb1
import Derived.Deep.RegionHeld3
set_option linter.unusedSimpArgs false
set_option linter.unusedVariables false
namespace Go.Proofs.Ytfpnafeildigaaa
namespace Ar
open Go.RowKit Sc
/-- what is answered where the operands fit -/
def twoRes (p : Int) (a b : Arr) (r l0 l1 : Int) : Int × Arr :=
  if (mapP (fun q : Int × Int => two p q.1 q.2) (pairs a b)).1 ≠ 0 then ((mapP (fun q : Int × Int => two p q.1 q.2) (pairs a b)).1, .zero) else (0, ⟨1, r, l0, l1, (mapP (fun q : Int × Int => two p q.1 q.2) (pairs a b)).2⟩)
theorem same_of {a w : World} (h : Below a.heap.size a w) : Below a.heap.size a w ∧ ∀ b o, b < a.heap.size → w.cell? ⟨b, o, none⟩ = a.cell? ⟨b, o, none⟩ := ⟨h, fun b o hl => h.cell (p := ⟨b, o, none⟩) hl⟩
set_option maxRecDepth 100000 in
set_option maxHeartbeats 2000000 in
theorem rtwo_run (p : Int) (a b : Arr) (A B : Option Addr) (c d : Nat) (hLa : a.xs.length ≤ 100000) (f0a : Fits a.l0) (f1a : Fits a.l1) (hLb : b.xs.length ≤ 100000) (f0b : Fits b.l0) (f1b : Fits b.l1) (hxa : ∀ x ∈ a.xs, Fits x) (hxb : ∀ x ∈ b.xs, Fits x) (h : arity p = (2, 0)) (h2 : chk a = 0) (h3 : chk b = 0) (h4 : kindsOk p a b = true) (r l0 l1 : Int) (h5 : extLens a b = (0, r, l0, l1)) (w : World) (hsa : Sl w A a.xs) (hsb : Sl w B b.xs) : Calls Try.prog 25 #[.int .i64 p, .agg #[.int .i64 a.k, .int .i64 a.r, .int .i64 a.l0, .int .i64 a.l1, .slice A a.xs.length c], .agg #[.int .i64 b.k, .int .i64 b.r, .int .i64 b.l0, .int .i64 b.l1, .slice B b.xs.length d]] w fun e w' => ArrRet w (twoRes p a b r l0 l1) e w' := by
  have H := hide h; have H2 := hide h2; have H3 := hide h3; have H4 := hide h4; have H5 := hide h5
  obtain ⟨i0, hi0, hz0, hz1, hz2⟩ := info_parts info_i64
  have HI := hide hi0; have HZ0 := hide hz0; have HZ1 := hide hz1; have HZ2 := hide hz2
  clear h h2 h3 h4 h5 hi0 hz0 hz1 hz2
  have hla : a.xs.length ≤ 9223372036854775807 := by omega
  have hlb : b.xs.length ≤ 9223372036854775807 := by omega
  have HLA := hide hLa; have HLB := hide hLb; have HXA := hide hxa; have HXB := hide hxb
  clear hLa hLb hxa hxb
  go_enter Try.func25, Try.ntmps25
  go_wp2_with fail
  refine (Sc.Ref.arity_any p _).mono ?_
  rw [H.out]
  rintro e w1 ⟨rfl, hg⟩
  have st1 : Hid (RSt w w1 a b A B c d) := RSt.below (w := w) (a := a) (b := b) (A := A) (B := B) (c := c) (d := d) ⟨⟨by simp [go_sem], by simp [go_sem], by simp [go_sem], by simp [go_sem], by simp [go_sem]⟩, ⟨by simp [go_sem], by simp [go_sem], by simp [go_sem], by simp [go_sem], by simp [go_sem]⟩, ⟨by simp [go_sem], by simp [go_sem], by simp [go_sem], by simp [go_sem], by simp [go_sem]⟩, fun i => by simp [go_sem], by simp, by (repeat (first | with_reducible exact Below.refl _ _ | with_reducible assumption | (with_reducible refine bl_set ?_ (by simp; try omega) _) | (with_reducible refine bl_alloc ?_ _) | (with_reducible refine bl_dn ?_ _) | (with_reducible refine bl_drew ?_) | (with_reducible refine bl_then ?_ (by with_reducible assumption))))⟩ hg
  clear hg
  obtain ⟨⟨a0_w1, a1_w1, a2_w1, a3_w1, a4_w1⟩, ⟨b0_w1, b1_w1, b2_w1, b3_w1, b4_w1⟩, ⟨c0_w1, c1_w1, c2_w1, c3_w1, c4_w1⟩, fc_w1, y2_w1, hb_w1⟩ := st1.out; (have y0_w1 : w.heap.size < w1.heap.size := by omega); (have y1_w1 : w.heap.size + 1 < w1.heap.size := by omega)
  go_wp2_with fail
  refine (Ref.ac_any a A c hla f0a f1a _ (hsa.below (by (repeat (first | with_reducible exact Below.refl _ _ | with_reducible assumption | (with_reducible refine bl_set ?_ (by simp; try omega) _) | (with_reducible refine bl_alloc ?_ _) | (with_reducible refine bl_dn ?_ _) | (with_reducible refine bl_drew ?_) | (with_reducible refine bl_then ?_ (by with_reducible assumption))))))).mono ?_
  rw [H2.out]
  rintro e w2 ⟨rfl, hg⟩
  have st2 := hide (st1.out.below hg)
  clear a0_w1 a1_w1 a2_w1 a3_w1 a4_w1 b0_w1 b1_w1 b2_w1 b3_w1 b4_w1 c0_w1 c1_w1 c2_w1 c3_w1 c4_w1 fc_w1 y2_w1 hb_w1 y0_w1 y1_w1
  clear st1 hg
  obtain ⟨⟨a0_w2, a1_w2, a2_w2, a3_w2, a4_w2⟩, ⟨b0_w2, b1_w2, b2_w2, b3_w2, b4_w2⟩, ⟨c0_w2, c1_w2, c2_w2, c3_w2, c4_w2⟩, fc_w2, y2_w2, hb_w2⟩ := st2.out; (have y0_w2 : w.heap.size < w2.heap.size := by omega); (have y1_w2 : w.heap.size + 1 < w2.heap.size := by omega)
  go_wp2_with fail
  refine (Ref.ac_any b B d hlb f0b f1b _ (hsb.below (by (repeat (first | with_reducible exact Below.refl _ _ | with_reducible assumption | (with_reducible refine bl_set ?_ (by simp; try omega) _) | (with_reducible refine bl_alloc ?_ _) | (with_reducible refine bl_dn ?_ _) | (with_reducible refine bl_drew ?_) | (with_reducible refine bl_then ?_ (by with_reducible assumption))))))).mono ?_
  rw [H3.out]
  rintro e w3 ⟨rfl, hg⟩
  have st3 := hide (st2.out.below hg)
  clear a0_w2 a1_w2 a2_w2 a3_w2 a4_w2 b0_w2 b1_w2 b2_w2 b3_w2 b4_w2 c0_w2 c1_w2 c2_w2 c3_w2 c4_w2 fc_w2 y2_w2 hb_w2 y0_w2 y1_w2
  clear st2 hg
  obtain ⟨⟨a0_w3, a1_w3, a2_w3, a3_w3, a4_w3⟩, ⟨b0_w3, b1_w3, b2_w3, b3_w3, b4_w3⟩, ⟨c0_w3, c1_w3, c2_w3, c3_w3, c4_w3⟩, fc_w3, y2_w3, hb_w3⟩ := st3.out; (have y0_w3 : w.heap.size < w3.heap.size := by omega); (have y1_w3 : w.heap.size + 1 < w3.heap.size := by omega)
  go_wp2_with fail
  refine (kinds_any p a b A B c d _).mono ?_
  rw [kindErr_ok H4.out]
  rintro e w4 ⟨rfl, hg⟩
  have st4 := hide (st3.out.below hg)
  clear a0_w3 a1_w3 a2_w3 a3_w3 a4_w3 b0_w3 b1_w3 b2_w3 b3_w3 b4_w3 c0_w3 c1_w3 c2_w3 c3_w3 c4_w3 fc_w3 y2_w3 hb_w3 y0_w3 y1_w3
  clear st3 hg
  obtain ⟨⟨a0_w4, a1_w4, a2_w4, a3_w4, a4_w4⟩, ⟨b0_w4, b1_w4, b2_w4, b3_w4, b4_w4⟩, ⟨c0_w4, c1_w4, c2_w4, c3_w4, c4_w4⟩, fc_w4, y2_w4, hb_w4⟩ := st4.out; (have y0_w4 : w.heap.size < w4.heap.size := by omega); (have y1_w4 : w.heap.size + 1 < w4.heap.size := by omega)
  go_wp2_with fail
  refine (rlens_any a A c hla f0a f1a b B d hlb f0b f1b _ (hsa.below (by (repeat (first | with_reducible exact Below.refl _ _ | with_reducible assumption | (with_reducible refine bl_set ?_ (by simp; try omega) _) | (with_reducible refine bl_alloc ?_ _) | (with_reducible refine bl_dn ?_ _) | (with_reducible refine bl_drew ?_) | (with_reducible refine bl_then ?_ (by with_reducible assumption)))))) (hsb.below (by (repeat (first | with_reducible exact Below.refl _ _ | with_reducible assumption | (with_reducible refine bl_set ?_ (by simp; try omega) _) | (with_reducible refine bl_alloc ?_ _) | (with_reducible refine bl_dn ?_ _) | (with_reducible refine bl_drew ?_) | (with_reducible refine bl_then ?_ (by with_reducible assumption))))))).mono ?_
  rw [H5.out]
  rintro e w5 ⟨rfl, hg⟩
  have st5 := hide (st4.out.below hg)
  clear a0_w4 a1_w4 a2_w4 a3_w4 a4_w4 b0_w4 b1_w4 b2_w4 b3_w4 b4_w4 c0_w4 c1_w4 c2_w4 c3_w4 c4_w4 fc_w4 y2_w4 hb_w4 y0_w4 y1_w4
  clear st4 hg
  obtain ⟨⟨a0_w5, a1_w5, a2_w5, a3_w5, a4_w5⟩, ⟨b0_w5, b1_w5, b2_w5, b3_w5, b4_w5⟩, ⟨c0_w5, c1_w5, c2_w5, c3_w5, c4_w5⟩, fc_w5, y2_w5, hb_w5⟩ := st5.out; (have y0_w5 : w.heap.size < w5.heap.size := by omega); (have y1_w5 : w.heap.size + 1 < w5.heap.size := by omega)
  go_upto_if 64 with fail
  have g0 : Hid (Arr5 ((w5.alloc (.cells #[.int .i64 l0, .int .i64 l1] 22)).alloc (.cells #[.int .i64 1, .int .i64 r, .int .i64 l0, .int .i64 l1, .slice none 0 0] 25)) (w5.heap.size + 1) (.int .i64 1) (.int .i64 r) (.int .i64 l0) (.int .i64 l1) (.slice none 0 0)) := ⟨by simp [go_sem], by simp [go_sem], by simp [go_sem], by simp [go_sem], by simp [go_sem]⟩
  have gf : Hid (∀ i, (((w5.alloc (.cells #[.int .i64 l0, .int .i64 l1] 22)).alloc (.cells #[.int .i64 1, .int .i64 r, .int .i64 l0, .int .i64 l1, .slice none 0 0] 25))).frozen? ⟨w5.heap.size + 1, i, none⟩ = false) := by show ∀ i, _ = _; intro i; simp [go_sem]
  have sto : Hid (OutSt ((w5.alloc (.cells #[.int .i64 l0, .int .i64 l1] 22)).alloc (.cells #[.int .i64 1, .int .i64 r, .int .i64 l0, .int .i64 l1, .slice none 0 0] 25)) ((w5.alloc (.cells #[.int .i64 l0, .int .i64 l1] 22)).alloc (.cells #[.int .i64 1, .int .i64 r, .int .i64 l0, .int .i64 l1, .slice none 0 0] 25)) (w5.heap.size + 1) (.int .i64 1) (.int .i64 r) (.int .i64 l0) (.int .i64 l1) (.slice none 0 0) (.slice none 0 0) []) := OutSt.start g0.out gf.out (by simp)
  have st6 : Hid (RSt w ((w5.alloc (.cells #[.int .i64 l0, .int .i64 l1] 22)).alloc (.cells #[.int .i64 1, .int .i64 r, .int .i64 l0, .int .i64 l1, .slice none 0 0] 25)) a b A B c d) := st5.out.below (by (repeat (first | with_reducible exact Below.refl _ _ | with_reducible assumption | (with_reducible refine bl_set ?_ (by simp; try omega) _) | (with_reducible refine bl_alloc ?_ _) | (with_reducible refine bl_dn ?_ _) | (with_reducible refine bl_drew ?_) | (with_reducible refine bl_then ?_ (by with_reducible assumption)))))
  have zG : w.heap.size + 1 + 1 < w5.heap.size + 1 := by omega
  have zw : w5.heap.size + 1 < (((w5.alloc (.cells #[.int .i64 l0, .int .i64 l1] 22)).alloc (.cells #[.int .i64 1, .int .i64 r, .int .i64 l0, .int .i64 l1, .slice none 0 0] 25))).heap.size := by simp
  clear a0_w5 a1_w5 a2_w5 a3_w5 a4_w5 b0_w5 b1_w5 b2_w5 b3_w5 b4_w5 c0_w5 c1_w5 c2_w5 c3_w5 c4_w5 fc_w5 y2_w5 hb_w5 y0_w5 y1_w5
  clear g0 gf st5
  change Code.wp _ _ _ _ ((w5.alloc (.cells #[.int .i64 l0, .int .i64 l1] 22)).alloc (.cells #[.int .i64 1, .int .i64 r, .int .i64 l0, .int .i64 l1, .slice none 0 0] 25))
  generalize ((w5.alloc (.cells #[.int .i64 l0, .int .i64 l1] 22)).alloc (.cells #[.int .i64 1, .int .i64 r, .int .i64 l0, .int .i64 l1, .slice none 0 0] 25)) = w6 at *
  generalize w5.heap.size + 1 = G at *
  obtain ⟨⟨a0_w6, a1_w6, a2_w6, a3_w6, a4_w6⟩, ⟨b0_w6, b1_w6, b2_w6, b3_w6, b4_w6⟩, ⟨c0_w6, c1_w6, c2_w6, c3_w6, c4_w6⟩, fc_w6, y2_w6, hb_w6⟩ := st6.out; (have y0_w6 : w.heap.size < w6.heap.size := by omega); (have y1_w6 : w.heap.size + 1 < w6.heap.size := by omega)
  go_cut [13] from 17 (fun s13 wx => s13 = .int .i64 (many a b) ∧ w6 = wx)
  case first =>
    cases hk : (a.r == 0)
    · have HK : Hid (many a b = a.xs.length) := if_neg (by simpa using hk)
      go_wp2_with fail
      go_meet
      exact ⟨by rw [HK.out], rfl⟩
    · have HK : Hid (many a b = b.xs.length) := if_pos (by simpa using hk)
      go_wp2_with fail
      go_meet
      exact ⟨by rw [HK.out], rfl⟩
  case rest =>
    obtain ⟨rfl, rfl⟩ := hcut
    have hmz : Hid (many a b ≤ 100000) := by have := HLA.out; have := HLB.out; show many a b ≤ _; unfold many; split <;> omega
    obtain ⟨n, hn⟩ : ∃ n, many a b = n := ⟨_, rfl⟩
    rw [hn] at hmz ⊢
    have HN := hide hn
    clear hn
    have hnn : n ≤ 9223372036854775807 := by have := hmz.out; omega
    clear a0_w6 a1_w6 a2_w6 a3_w6 a4_w6 b0_w6 b1_w6 b2_w6 b3_w6 b4_w6 c0_w6 c1_w6 c2_w6 c3_w6 c4_w6 fc_w6 y2_w6 hb_w6 y0_w6 y1_w6
    go_wp2
    go_loopw [14] (fun i wr => ∃ (k : Nat) (ys : List Int) (v : Value), k ≤ n ∧ i = .int .i64 k ∧ Hid (mapP (fun q : Int × Int => two p q.1 q.2) ((pairs a b).take k) = (0, ys)) ∧ Hid (ys.length = k) ∧ Hid (OutSt w6 wr G (.int .i64 1) (.int .i64 r) (.int .i64 l0) (.int .i64 l1) v v ys)) (fun i _ => n - (intOf i).toNat)
    case atStart => exact ⟨0, [], .slice none 0 0, Nat.zero_le _, rfl, rfl, rfl, sto⟩
    case round =>
      obtain ⟨k, ys, v, hk, rfl, hm, hy, st⟩ := hrel
      have hbr : Hid (Below w.heap.size w wr) := st.out.base st6.out.2.2.2.2.2 (by omega)
      have hGl : G < wr.heap.size := st.out.lt
      have ra := hide (st.out.arr st6.out.1 (by omega))
      have rb := hide (st.out.arr st6.out.2.1 (by omega))
      have rr := hide (st.out.arr st6.out.2.2.1 (by omega))
      have rf := hide (st.out.fro st6.out.2.2.2.2.1 st6.out.2.2.2.1 (by omega))
      have z0 : w.heap.size < wr.heap.size := by omega
      have z1 : w.heap.size + 1 < wr.heap.size := by omega
      by_cases hlt : k < n
      · obtain ⟨hia, hib, hpk⟩ := pairs_get (a := a) (b := b) (by rw [H5.out]) (k := k) (by rw [HN.out]; exact hlt)
        obtain ⟨x, hx⟩ : ∃ x, Hid (a.xs.getD (idx a.r k) 0 = x) := ⟨_, rfl⟩
        obtain ⟨y, hyy⟩ : ∃ y, Hid (b.xs.getD (idx b.r k) 0 = y) := ⟨_, rfl⟩
        have hfx : Hid (Fits x) := HXA.out x (by rw [← hx.out]; exact getD_in 0 hia)
        have hfy : Hid (Fits y) := HXB.out y (by rw [← hyy.out]; exact getD_in 0 hib)
        have hpl : Hid (k < (pairs a b).length) := by show k < _; rw [pairs_len (by rw [H5.out]), HN.out]; exact hlt
        have HIA := hide hia; have HIB := hide hib
        have HPK : Hid ((pairs a b).getD k (0, 0) = (x, y)) := by show _ = _; rw [hpk, hx.out, hyy.out]
        clear hia hib hpk
        obtain ⟨a0, a1, a2, a3, a4⟩ := ra.out
        obtain ⟨b0, b1, b2, b3, b4⟩ := rb.out
        go_upto_region 21 with fail
        go_cut [15, 16] from 68 to 93 (fun s15 s16 wx => s15 = .int .i64 (two p x y).1 ∧ s16 = .int .i64 (two p x y).2 ∧ Below wr.heap.size wr wx)
        case first =>
          go_region_held3 (fun w' => Below wr.heap.size wr w' ∧ ∀ b o, b < wr.heap.size → w'.cell? ⟨b, o, none⟩ = wr.cell? ⟨b, o, none⟩) (first | assumption | exact ⟨bl_drew (Below.refl _ _), fun _ _ _ => rfl⟩)
            (first
              | (go_at_call_of 71 (Value.agg #[.int .i64 a.k, .int .i64 a.r, .int .i64 a.l0, .int .i64 a.l1, .slice A a.xs.length c]); (obtain ⟨hbb, _⟩ := (by assumption : Below wr.heap.size wr _ ∧ _)); refine (cell_any a A c k x _ hla HIA.out hx.out (hsa.below (bl_then hbr.out hbb))).mono ?_; rintro e w' ⟨rfl, hg⟩; have hS := same_of (bl_then hbb hg))
              | (go_at_call_of 71 (Value.agg #[.int .i64 b.k, .int .i64 b.r, .int .i64 b.l0, .int .i64 b.l1, .slice B b.xs.length d]); (obtain ⟨hbb, _⟩ := (by assumption : Below wr.heap.size wr _ ∧ _)); refine (cell_any b B d k y _ hlb HIB.out hyy.out (hsb.below (bl_then hbr.out hbb))).mono ?_; rintro e w' ⟨rfl, hg⟩; have hS := same_of (bl_then hbb hg))
              | (go_at_call 30; (obtain ⟨hbb, _⟩ := (by assumption : Below wr.heap.size wr _ ∧ _)); refine (Sc.Ref.Two_any p x y hfx.out hfy.out _).mono ?_; rintro e w' ⟨rfl, hg⟩; have hS := same_of (bl_then hbb hg)))
          all_goals
            go_wp2_with fail
            go_meet
            exact ⟨rfl, rfl, by first | assumption | exact hS.1⟩
        case rest =>
          obtain ⟨rfl, rfl, hg4⟩ := hcut
          obtain ⟨w8, rfl⟩ : ∃ w8 : World, w8 = wc := ⟨_, rfl⟩
          have st8 := hide (st.out.below hg4)
          obtain ⟨q0, q1, q2, q3, q4⟩ := st8.out.2.1
          have hG8 : G < w8.heap.size := st8.out.lt
          clear a0 a1 a2 a3 a4 b0 b1 b2 b3 b4
          by_cases he : (two p x y).2 = 0
          · have n3 : ((two p x y).2 != 0) = false := by simpa using he
            have HE := hide he
            clear he
            go_wp2_with (at_builtin; refine wpList_append_own _ rfl (.tmp 89) (.tmp 91) _ rfl (G + 1) 2 i0 (.int .i64 0) 1 8 Try.underlying23 HI.out HZ0.out HZ1.out HZ2.out rfl (by decide) v k (ys.map (Value.int .i64)) rfl (World.ownsRow.alloc (st8.out.2.2.2.1.own hy.out) _) ⟨w8.heap.size, 0, none⟩ 1 1 [.int .i64 (two p x y).1] rfl rfl (lit1 _ _ _) (i64_one _) (by unfold maxLen; omega) (by have := hmz.out; omega) (by simp; omega) ?_; intro v' w9 hown' hgrow _; (have st9 := hide (OutSt.app (st8.out.below ((Below.refl _ _).alloc (Nat.le_refl _) _)) hgrow hy.out hown')); (obtain ⟨V', n', c', rfl, hn'⟩ := st9.out.2.2.2.1.shape); (have e4 := st9.out.2.1.2.2.2.2); (have ef4 := st9.out.2.2.1 4))
            go_roundw
            case rel => exact ⟨k + 1, ys ++ [(two p x y).1], _, by omega, by go_num, (by show _ = _; rw [take_succ_getDP hpl.out, HPK.out]; exact mapP_step hm.out HE.out), (by show _ = _; simp [hy.out]), st9.out.put _⟩
            case measure => simp [intOf]; omega
          · have n3 : ((two p x y).2 != 0) = true := by simpa using he
            have HE : Hid (twoRes p a b r l0 l1 = ((two p x y).2, .zero)) := by
              show _ = _
              have := mapP_err (f := fun q : Int × Int => two p q.1 q.2) (r := (pairs a b).drop (k + 1)) (x := (x, y)) hm.out he
              rw [← HPK.out, ← take_splitP hpl.out, HPK.out] at this
              unfold twoRes
              rw [this, if_pos he]
            obtain ⟨r0, r1, r2, r3, r4⟩ := rr.out.below hg4
            have rf1 := fun i => (hg4.frozen (p := ⟨w.heap.size + 1 + 1, i, none⟩) (by show w.heap.size + 1 + 1 < wr.heap.size; omega)).trans (rf.out i)
            have y2 : w.heap.size + 1 + 1 < w8.heap.size := by omega
            have hbw := bl_then hbr.out hg4
            clear he q0 q1 q2 q3 q4
            go_wp2
            rw [HE.out]
            clear n3 HE
            refine bodyPost_ret (v := .tuple #[.agg #[.int .i64 0, .int .i64 0, .int .i64 0, .int .i64 0, .slice none 0 0], .int .i64 (two p x y).2]) (by simp [results, Try.results25, go_sem, *]) rfl (arr_zero _ (by (repeat (first | with_reducible exact Below.refl _ _ | with_reducible assumption | (with_reducible refine bl_set ?_ (by simp; try omega) _) | (with_reducible refine bl_alloc ?_ _) | (with_reducible refine bl_dn ?_ _) | (with_reducible refine bl_drew ?_) | (with_reducible refine bl_then ?_ (by with_reducible assumption))))))
      · have HE : Hid (twoRes p a b r l0 l1 = (0, ⟨1, r, l0, l1, ys⟩)) := by
          have e := hm.out
          rw [List.take_of_length_le (by rw [pairs_len (by rw [H5.out]), HN.out]; omega)] at e
          show _ = _
          unfold twoRes
          rw [e]; rfl
        obtain ⟨r0, r1, r2, r3, r4⟩ := rr.out
        have rf1 := rf.out
        obtain ⟨V, cv, rfl, hsl, hge, hcp⟩ := st.out.2.2.2.1.sl
        obtain ⟨q0, q1, q2, q3, q4⟩ := st.out.2.1
        have hne : w.heap.size + 1 + 1 ≠ G := by omega
        go_wp2
        rw [HE.out]
        refine bodyPost_ret (v := .tuple #[.agg #[.int .i64 1, .int .i64 r, .int .i64 l0, .int .i64 l1, .slice V ys.length cv], .int .i64 0]) (by simp [results, Try.results25, go_sem, *]) rfl ⟨by have := hbr.out; (repeat (first | with_reducible exact Below.refl _ _ | with_reducible assumption | (with_reducible refine bl_set ?_ (by simp; try omega) _) | (with_reducible refine bl_alloc ?_ _) | (with_reducible refine bl_dn ?_ _) | (with_reducible refine bl_drew ?_) | (with_reducible refine bl_then ?_ (by with_reducible assumption)))), V, cv, rfl, ?_, (fun g o e => by have := hge g o e; omega), hcp⟩
        repeat (refine Sl.set ?_ hge (by simp; omega) _)
        exact hsl
theorem rtwo_any (p : Int) (a b : Arr) (A B : Option Addr) (c d : Nat) (hLa : a.xs.length ≤ 100000) (f0a : Fits a.l0) (f1a : Fits a.l1) (hLb : b.xs.length ≤ 100000) (f0b : Fits b.l0) (f1b : Fits b.l1) (hxa : ∀ x ∈ a.xs, Fits x) (hxb : ∀ x ∈ b.xs, Fits x) (w : World) (hsa : Sl w A a.xs) (hsb : Sl w B b.xs) : Calls Try.prog 25 #[.int .i64 p, .agg #[.int .i64 a.k, .int .i64 a.r, .int .i64 a.l0, .int .i64 a.l1, .slice A a.xs.length c], .agg #[.int .i64 b.k, .int .i64 b.r, .int .i64 b.l0, .int .i64 b.l1, .slice B b.xs.length d]] w (ArrRet w (extTwo p a b)) := by
  unfold extTwo
  by_cases h : arity p = (2, 0)
  · rw [if_neg (by simpa using h)]
    by_cases h2 : chk a = 0
    · rw [chk2_ok h2]
      by_cases h2b : chk b = 0
      · rw [if_neg (by simpa using h2b)]
        cases h3 : kindsOk p a b
        · rw [if_pos rfl]; exact rtwo_kind p a b A B c d hLa f0a f1a hLb f0b f1b hxa hxb h h2 h2b h3 w hsa hsb
        · rw [if_neg (by simp)]
          obtain ⟨er, r, l0, l1, h4⟩ : ∃ er r l0 l1, extLens a b = (er, r, l0, l1) := ⟨_, _, _, _, rfl⟩
          rw [h4]
          by_cases h5 : er = 0
          · subst h5
            rw [if_neg (by simp)]
            exact rtwo_run p a b A B c d hLa f0a f1a hLb f0b f1b hxa hxb h h2 h2b h3 r l0 l1 h4 w hsa hsb
          · rw [if_pos h5]; exact rtwo_lens p a b A B c d hLa f0a f1a hLb f0b f1b hxa hxb h h2 h2b h3 er r l0 l1 h4 h5 w hsa hsb
      · rw [if_pos h2b]; exact rtwo_b p a b A B c d hLa f0a f1a hLb f0b f1b hxa hxb h h2 h2b w hsa hsb
    · rw [chk2_bad h2, if_pos h2]; exact rtwo_a p a b A B c d hLa f0a f1a hLb f0b f1b hxa hxb h h2 w hsa hsb
  · rw [if_pos h]; exact rtwo_arity p a b A B c d hLa f0a f1a hLb f0b f1b hxa hxb h w hsa hsb
end Ar
end Go.Proofs.Ytfpnafeildigaaa
