/-
awake of chapter 10: it answers true.
-/
import Derived.Test.YtfpnafeildigaaaBa7
import Derived.Test.YtfpnafeildigaaaBa9
import Derived.Test.YtfpnafeildigaaaArRw
import Derived.Test.YtfpnafeildigaaaBb1
import Derived.Deep.DeepCutAuto
set_option linter.unusedSimpArgs false
set_option linter.unusedVariables false
namespace Go.Proofs.Ytfpnafeildigaaa
namespace Ar
open Go.RowKit Sc
def Good (a : Arr) : Prop := a.xs.length ≤ 100000 ∧ Fits a.l0 ∧ Fits a.l1 ∧ ∀ x ∈ a.xs, Fits x
theorem two_eq (p : Int) (a b : Arr) (A B : Option Addr) (c d : Nat) (ga : Good a) (gb : Good b) {r : Int × Arr} (hr : extTwo p a b = r) (w : World) (hsa : Sl w A a.xs) (hsb : Sl w B b.xs) :
    Calls Try.prog 24 #[.int .i64 p, .agg #[.int .i64 a.k, .int .i64 a.r, .int .i64 a.l0, .int .i64 a.l1, .slice A a.xs.length c], .agg #[.int .i64 b.k, .int .i64 b.r, .int .i64 b.l0, .int .i64 b.l1, .slice B b.xs.length d]] w (ArrRet w r) := by
  subst hr
  exact two_any p a b A B c d ga.1 ga.2.1 ga.2.2.1 gb.1 gb.2.1 gb.2.2.1 ga.2.2.2 gb.2.2.2 w hsa hsb
theorem one_eq (p : Int) (a : Arr) (A : Option Addr) (c : Nat) (ga : Good a) {r : Int × Arr} (hr : extOne p a = r) (w : World) (hsa : Sl w A a.xs) :
    Calls Try.prog 21 #[.int .i64 p, .agg #[.int .i64 a.k, .int .i64 a.r, .int .i64 a.l0, .int .i64 a.l1, .slice A a.xs.length c]] w (ArrRet w r) := by
  subst hr
  exact one_any p a A c ga.1 ga.2.1 ga.2.2.1 ga.2.2.2 w hsa
abbrev vec (k : Int) (xs : List Int) : Arr := ⟨k, 1, xs.length, 0, xs⟩
abbrev sca (k : Int) (x : Int) : Arr := ⟨k, 0, 0, 0, [x]⟩
theorem good_of {a : Arr} (h1 : a.xs.length ≤ 100000) (h2 : -9223372036854775808 ≤ a.l0 ∧ a.l0 ≤ 9223372036854775807) (h3 : -9223372036854775808 ≤ a.l1 ∧ a.l1 ≤ 9223372036854775807) (h4 : ∀ x ∈ a.xs, -9223372036854775808 ≤ x ∧ x ≤ 9223372036854775807) : Good a := ⟨h1, h2, h3, h4⟩
theorem aw1 : extTwo 15 (sca 1 10) (vec 1 [1, 2, 3]) = (0, vec 1 [11, 12, 13]) := by rfl
theorem aw2 : extTwo 23 (vec 2 [97, 98, 97]) (sca 2 97) = (0, vec 1 [1, 0, 1]) := by rfl
theorem aw3 : extTwo 23 (sca 2 97) (sca 1 97) = (21, .zero) := by rfl
theorem aw4 : extTwo 15 (vec 1 [1, 2]) (vec 1 [1, 2, 3]) = (11, .zero) := by rfl
theorem aw5 : extTwo 18 (vec 1 [-9223372036854775808, 1]) (vec 1 [-1, 0]) = (12, .zero) := by rfl
theorem aw6 : extTwo 18 (vec 1 [1, -9223372036854775808]) (vec 1 [0, -1]) = (13, .zero) := by rfl
theorem aw7 : extOne 1 (vec 1 [1, -2]) = (0, vec 1 [-1, 2]) := by rfl
set_option maxRecDepth 100000 in
set_option maxHeartbeats 8000000 in
theorem awake10 (w : World) : Calls Try.prog 20 #[] w fun e w' => e = .returned (.bool true) ∧ Below w.heap.size w w' := by
  go_enter Try.func20, Try.ntmps20
  go_upto_region 1 with fail
  go_cut [1] from 16 (fun s1 wx => ∃ g, s1 = .pointer (some ⟨g, 0, none⟩) ∧ ArrAt wx g (vec 1 [1, 2, 3]) ∧ Below w.heap.size w wx)
  case first =>
    go_wp2_with (go_at_call 56; refine (ints_any _ _ [1, 2, 3] 3 rfl (by omega) _ (sl_new _ _ _ _ rfl)).mono ?_; rintro e w1 ⟨hg, V, cv, rfl, hsl, hge, hcp⟩)
    go_meet
    exact ⟨_, rfl, ⟨V, cv, ⟨by simp [go_sem], by simp [go_sem], by simp [go_sem], by simp [go_sem], by simp [go_sem]⟩, hsl.below (by (repeat (first | with_reducible exact Below.refl _ _ | with_reducible assumption | (with_reducible refine bl_set ?_ (by simp; try omega) _) | (with_reducible refine bl_alloc ?_ _) | (with_reducible refine bl_dn ?_ _) | (with_reducible refine bl_drew ?_) | (with_reducible refine bl_then ?_ (by with_reducible assumption)))))⟩, by (repeat (first | with_reducible exact Below.refl _ _ | with_reducible assumption | (with_reducible refine bl_set ?_ (by simp; try omega) _) | (with_reducible refine bl_alloc ?_ _) | (with_reducible refine bl_dn ?_ _) | (with_reducible refine bl_drew ?_) | (with_reducible refine bl_then ?_ (by with_reducible assumption))))⟩
  case rest =>
    obtain ⟨g1, rfl, v1, hb0⟩ := hcut
    obtain ⟨w1, rfl⟩ : ∃ w1 : World, w1 = wc := ⟨_, rfl⟩
    have hb0 := hide hb0
    have v1 := hide v1
    go_upto_region 2 with fail
    go_cut [2, 3] from 16 (fun sa se wx => VarAt w1 (0, vec 1 [11, 12, 13]) sa se wx)
    case first =>
      obtain ⟨A1, c1, ⟨k0, k1, k2, k3, k4⟩, s1⟩ := v1.out
      have s1 := hide s1
      have y1 : g1 < w1.heap.size := block_lt_of_cell k0
      go_region_held3 (fun w' => Below w1.heap.size w1 w' ∧ ∀ b o, b < w1.heap.size → w'.cell? ⟨b, o, none⟩ = w1.cell? ⟨b, o, none⟩) (first | assumption | (refine same_of ?_; (repeat (first | with_reducible exact Below.refl _ _ | with_reducible assumption | (with_reducible refine bl_set ?_ (by simp; try omega) _) | (with_reducible refine bl_alloc ?_ _) | (with_reducible refine bl_dn ?_ _) | (with_reducible refine bl_drew ?_) | (with_reducible refine bl_then ?_ (by with_reducible assumption)))))) (first
        | (go_at_call 57; (obtain ⟨hbb, _⟩ := (by assumption : Below w1.heap.size w1 _ ∧ _)); refine (int_any 10 _).mono ?_; rintro e wi ⟨hg, V, cv, rfl, hsl, hge, hcp⟩; have hbi := bl_then hbb hg; have zbi := hbi.size; have hS := same_of hbi; (obtain ⟨hci, hfi, hzi⟩ := bcell hg); (try have zli : w1.heap.size < wi.heap.size := (by have := hzi; simp at this; omega)); have hsl := hide hsl; clear hbb hg hge)
        | (go_at_call 24; (obtain ⟨hbb, _⟩ := (by assumption : Below w1.heap.size w1 _ ∧ _)); refine (two_eq 15 (sca 1 10) (vec 1 [1, 2, 3]) V A1 cv c1 (good_of (by decide) (by decide) (by decide) (by decide)) (good_of (by decide) (by decide) (by decide) (by decide)) aw1 _ (hsl.out.below (by (repeat (first | with_reducible exact Below.refl _ _ | with_reducible assumption | (with_reducible refine bl_set ?_ (by simp; try omega) _) | (with_reducible refine bl_alloc ?_ _) | (with_reducible refine bl_dn ?_ _) | (with_reducible refine bl_drew ?_) | (with_reducible refine bl_then ?_ (by with_reducible assumption)))))) (s1.out.below (by (repeat (first | with_reducible exact Below.refl _ _ | with_reducible assumption | (with_reducible refine bl_set ?_ (by simp; try omega) _) | (with_reducible refine bl_alloc ?_ _) | (with_reducible refine bl_dn ?_ _) | (with_reducible refine bl_drew ?_) | (with_reducible refine bl_then ?_ (by with_reducible assumption))))))).mono ?_; rintro e wt ⟨hg, V2, cv2, rfl, hsl2, hge2, hcp2⟩; have hbt := bl_then hbb hg; have zbt := hbt.size; have hS := same_of hbt; (obtain ⟨hct, hft, hzt⟩ := bcell hg); (try have zlt : wi.heap.size < wt.heap.size := (by have := hzt; simp at this; omega)); have hsl2 := hide hsl2; clear hbb hg))
      · go_wp2_with fail
        go_meet
        refine VarAt.of_new hsl2.out ?_
        (repeat (first | with_reducible exact Below.refl _ _ | with_reducible assumption | (with_reducible refine bl_set ?_ (by simp; try omega) _) | (with_reducible refine bl_alloc ?_ _) | (with_reducible refine bl_dn ?_ _) | (with_reducible refine bl_drew ?_) | (with_reducible refine bl_then ?_ (by with_reducible assumption))))
      all_goals
        go_wp2_with fail
        go_meet
        refine VarAt.of_put (u0 := .int .i64 0) (u1 := .int .i64 0) (u2 := .int .i64 0) (u3 := .int .i64 0) (u4 := .slice none 0 0) ?_ hsl2.out ?_ ?_ ?_
        · exact arr5_of (by simp [go_sem, *]) (by simp [go_sem, *]) (by simp [go_sem, *]) (by simp [go_sem, *]) (by simp [go_sem, *])
        · intro b o e; have hh := hge2 b o e; (try simp at hh); omega
        · omega
        · (repeat (first | with_reducible exact Below.refl _ _ | with_reducible assumption | (with_reducible refine bl_set ?_ (by simp; try omega) _) | (with_reducible refine bl_alloc ?_ _) | (with_reducible refine bl_dn ?_ _) | (with_reducible refine bl_drew ?_) | (with_reducible refine bl_then ?_ (by with_reducible assumption))))
    case rest =>
      obtain ⟨g2, rfl, rfl, v2, hg⟩ := hcut
      obtain ⟨w2, rfl⟩ : ∃ w2 : World, w2 = wc := ⟨_, rfl⟩
      have v1 := hide (v1.out.below hg)
      have hb0 := hide (bl_then hb0.out hg)
      have v2 := hide v2
      clear hg
      go_upto_region 3 with fail
      go_cut [4, 5] from 16 (fun sa se wx => VarAt w2 (0, vec 1 [1, 0, 1]) sa se wx)
      case first =>
        go_wp2_with fail
        refine (vector_any 2 _ _ [97, 98, 97] (by decide) _ (sl_3 (by simp [go_sem, *]) (by simp [go_sem, *]) (by simp [go_sem, *]))).mono ?_
        rintro e wc0 ⟨hg0, V0, cv0, rfl, hsl0, hge0, hcp0⟩
        have hsl0 := hide hsl0
        go_wp2_with fail
        refine (scalar_any 2 97 _).mono ?_
        rintro e wc1 ⟨hg1, V1, cv1, rfl, hsl1, hge1, hcp1⟩
        have hsl1 := hide hsl1
        go_wp2_with fail
        refine (two_eq 23 (vec 2 [97, 98, 97]) (sca 2 97) V0 V1 cv0 cv1 (good_of (by decide) (by decide) (by decide) (by decide)) (good_of (by decide) (by decide) (by decide) (by decide)) aw2 _ (hsl0.out.below (by (repeat (first | with_reducible exact Below.refl _ _ | with_reducible assumption | (with_reducible refine bl_set ?_ (by simp; try omega) _) | (with_reducible refine bl_alloc ?_ _) | (with_reducible refine bl_dn ?_ _) | (with_reducible refine bl_drew ?_) | (with_reducible refine bl_then ?_ (by with_reducible assumption)))))) (hsl1.out.below (by (repeat (first | with_reducible exact Below.refl _ _ | with_reducible assumption | (with_reducible refine bl_set ?_ (by simp; try omega) _) | (with_reducible refine bl_alloc ?_ _) | (with_reducible refine bl_dn ?_ _) | (with_reducible refine bl_drew ?_) | (with_reducible refine bl_then ?_ (by with_reducible assumption))))))).mono ?_
        rintro e wc2 ⟨hg2, V2, cv2, rfl, hsl2, hge2, hcp2⟩
        have hsl2 := hide hsl2
        go_wp2_with fail
        go_meet
        refine VarAt.of_new hsl2.out ?_
        (repeat (first | with_reducible exact Below.refl _ _ | with_reducible assumption | (with_reducible refine bl_set ?_ (by simp; try omega) _) | (with_reducible refine bl_alloc ?_ _) | (with_reducible refine bl_dn ?_ _) | (with_reducible refine bl_drew ?_) | (with_reducible refine bl_then ?_ (by with_reducible assumption))))
      case rest =>
        obtain ⟨g4, rfl, rfl, v4, hg⟩ := hcut
        obtain ⟨w3, rfl⟩ : ∃ w3 : World, w3 = wc := ⟨_, rfl⟩
        have v1 := hide (v1.out.below hg)
        have v2 := hide (v2.out.below hg)
        have hb0 := hide (bl_then hb0.out hg)
        have v4 := hide v4
        clear hg
        go_upto_region 4 with fail
        go_cut [6, 7] from 16 (fun sa se wx => VarAt w3 (21, .zero) sa se wx)
        case first =>
          go_wp2_with fail
          refine (scalar_any 2 97 _).mono ?_
          rintro e wc0 ⟨hg0, V0, cv0, rfl, hsl0, hge0, hcp0⟩
          have hsl0 := hide hsl0
          go_wp2_with fail
          refine (int_any 97 _).mono ?_
          rintro e wc1 ⟨hg1, V1, cv1, rfl, hsl1, hge1, hcp1⟩
          have hsl1 := hide hsl1
          go_wp2_with fail
          refine (two_eq 23 (sca 2 97) (sca 1 97) V0 V1 cv0 cv1 (good_of (by decide) (by decide) (by decide) (by decide)) (good_of (by decide) (by decide) (by decide) (by decide)) aw3 _ (hsl0.out.below (by (repeat (first | with_reducible exact Below.refl _ _ | with_reducible assumption | (with_reducible refine bl_set ?_ (by simp; try omega) _) | (with_reducible refine bl_alloc ?_ _) | (with_reducible refine bl_dn ?_ _) | (with_reducible refine bl_drew ?_) | (with_reducible refine bl_then ?_ (by with_reducible assumption)))))) (hsl1.out.below (by (repeat (first | with_reducible exact Below.refl _ _ | with_reducible assumption | (with_reducible refine bl_set ?_ (by simp; try omega) _) | (with_reducible refine bl_alloc ?_ _) | (with_reducible refine bl_dn ?_ _) | (with_reducible refine bl_drew ?_) | (with_reducible refine bl_then ?_ (by with_reducible assumption))))))).mono ?_
          rintro e wc2 ⟨hg2, V2, cv2, rfl, hsl2, hge2, hcp2⟩
          have hsl2 := hide hsl2
          go_wp2_with fail
          go_meet
          refine VarAt.of_new hsl2.out ?_
          (repeat (first | with_reducible exact Below.refl _ _ | with_reducible assumption | (with_reducible refine bl_set ?_ (by simp; try omega) _) | (with_reducible refine bl_alloc ?_ _) | (with_reducible refine bl_dn ?_ _) | (with_reducible refine bl_drew ?_) | (with_reducible refine bl_then ?_ (by with_reducible assumption))))
        case rest =>
          obtain ⟨g6, rfl, rfl, v6, hg⟩ := hcut
          obtain ⟨w4, rfl⟩ : ∃ w4 : World, w4 = wc := ⟨_, rfl⟩
          have v1 := hide (v1.out.below hg)
          have v2 := hide (v2.out.below hg)
          have v4 := hide (v4.out.below hg)
          have hb0 := hide (bl_then hb0.out hg)
          clear hg v6
          go_upto_region 5 with fail
          go_cut [8, 9] from 16 (fun sa se wx => VarAt w4 (11, .zero) sa se wx)
          case first =>
            obtain ⟨A1, c1, ⟨k0, k1, k2, k3, k4⟩, s1⟩ := v1.out
            have s1 := hide s1
            have y1 : g1 < w4.heap.size := block_lt_of_cell k0
            go_region_held3 (fun w' => Below w4.heap.size w4 w' ∧ ∀ b o, b < w4.heap.size → w'.cell? ⟨b, o, none⟩ = w4.cell? ⟨b, o, none⟩) (first | assumption | (refine same_of ?_; (repeat (first | with_reducible exact Below.refl _ _ | with_reducible assumption | (with_reducible refine bl_set ?_ (by simp; try omega) _) | (with_reducible refine bl_alloc ?_ _) | (with_reducible refine bl_dn ?_ _) | (with_reducible refine bl_drew ?_) | (with_reducible refine bl_then ?_ (by with_reducible assumption)))))) (first
              | (go_at_call 56; (obtain ⟨hbb, _⟩ := (by assumption : Below w4.heap.size w4 _ ∧ _)); refine (ints_any _ _ [1, 2] 2 rfl (by omega) _ (sl_2 (by simp [go_sem, *]) (by simp [go_sem, *]))).mono ?_; rintro e wi ⟨hg, V, cv, rfl, hsl, hge, hcp⟩; have hbi := bl_then hbb hg; have zbi := hbi.size; have hS := same_of hbi; (obtain ⟨hci, hfi, hzi⟩ := bcell hg); (try have zli : w4.heap.size < wi.heap.size := (by have := hzi; simp at this; omega)); (try have zlj : w4.heap.size + 1 < wi.heap.size := (by have := hzi; simp at this; omega)); have hsl := hide hsl; clear hbb hg hge)
              | (go_at_call 24; (obtain ⟨hbb, _⟩ := (by assumption : Below w4.heap.size w4 _ ∧ _)); refine (two_eq 15 (vec 1 [1, 2]) (vec 1 [1, 2, 3]) V A1 cv c1 (good_of (by decide) (by decide) (by decide) (by decide)) (good_of (by decide) (by decide) (by decide) (by decide)) aw4 _ (hsl.out.below (by (repeat (first | with_reducible exact Below.refl _ _ | with_reducible assumption | (with_reducible refine bl_set ?_ (by simp; try omega) _) | (with_reducible refine bl_alloc ?_ _) | (with_reducible refine bl_dn ?_ _) | (with_reducible refine bl_drew ?_) | (with_reducible refine bl_then ?_ (by with_reducible assumption)))))) (s1.out.below (by (repeat (first | with_reducible exact Below.refl _ _ | with_reducible assumption | (with_reducible refine bl_set ?_ (by simp; try omega) _) | (with_reducible refine bl_alloc ?_ _) | (with_reducible refine bl_dn ?_ _) | (with_reducible refine bl_drew ?_) | (with_reducible refine bl_then ?_ (by with_reducible assumption))))))).mono ?_; rintro e wt ⟨hg, V2, cv2, rfl, hsl2, hge2, hcp2⟩; have hbt := bl_then hbb hg; have zbt := hbt.size; have hS := same_of hbt; (obtain ⟨hct, hft, hzt⟩ := bcell hg); (try have zlt : wi.heap.size < wt.heap.size := (by have := hzt; simp at this; omega)); have hsl2 := hide hsl2; clear hbb hg))
            · go_wp2_with fail
              go_meet
              refine VarAt.of_new hsl2.out ?_
              (repeat (first | with_reducible exact Below.refl _ _ | with_reducible assumption | (with_reducible refine bl_set ?_ (by simp; try omega) _) | (with_reducible refine bl_alloc ?_ _) | (with_reducible refine bl_dn ?_ _) | (with_reducible refine bl_drew ?_) | (with_reducible refine bl_then ?_ (by with_reducible assumption))))
            all_goals
              go_wp2_with fail
              go_meet
              refine VarAt.of_put (u0 := .int .i64 0) (u1 := .int .i64 0) (u2 := .int .i64 0) (u3 := .int .i64 0) (u4 := .slice none 0 0) ?_ hsl2.out ?_ ?_ ?_
              · exact arr5_of (by simp [go_sem, *]) (by simp [go_sem, *]) (by simp [go_sem, *]) (by simp [go_sem, *]) (by simp [go_sem, *])
              · intro b o e; have hh := hge2 b o e; (try simp at hh); omega
              · omega
              · (repeat (first | with_reducible exact Below.refl _ _ | with_reducible assumption | (with_reducible refine bl_set ?_ (by simp; try omega) _) | (with_reducible refine bl_alloc ?_ _) | (with_reducible refine bl_dn ?_ _) | (with_reducible refine bl_drew ?_) | (with_reducible refine bl_then ?_ (by with_reducible assumption))))
          case rest =>
            obtain ⟨g8, rfl, rfl, v8, hg⟩ := hcut
            obtain ⟨w5, rfl⟩ : ∃ w5 : World, w5 = wc := ⟨_, rfl⟩
            have v1 := hide (v1.out.below hg)
            have v2 := hide (v2.out.below hg)
            have v4 := hide (v4.out.below hg)
            have hb0 := hide (bl_then hb0.out hg)
            clear hg v8
            go_upto_region 6 with fail
            go_cut [10, 11] from 16 (fun sa se wx => VarAt w5 (12, .zero) sa se wx)
            case first =>
              go_wp2_with fail
              refine (ints_any _ _ [-9223372036854775808, 1] 2 rfl (by omega) _ (sl_2 (by simp [go_sem, *]) (by simp [go_sem, *]))).mono ?_
              rintro e wc0 ⟨hg0, V0, cv0, rfl, hsl0, hge0, hcp0⟩
              have hsl0 := hide hsl0
              go_wp2_with fail
              refine (ints_any _ _ [-1, 0] 2 rfl (by omega) _ (sl_2 (by simp [go_sem, *]) (by simp [go_sem, *]))).mono ?_
              rintro e wc1 ⟨hg1, V1, cv1, rfl, hsl1, hge1, hcp1⟩
              have hsl1 := hide hsl1
              go_wp2_with fail
              refine (two_eq 18 (vec 1 [-9223372036854775808, 1]) (vec 1 [-1, 0]) V0 V1 cv0 cv1 (good_of (by decide) (by decide) (by decide) (by decide)) (good_of (by decide) (by decide) (by decide) (by decide)) aw5 _ (hsl0.out.below (by (repeat (first | with_reducible exact Below.refl _ _ | with_reducible assumption | (with_reducible refine bl_set ?_ (by simp; try omega) _) | (with_reducible refine bl_alloc ?_ _) | (with_reducible refine bl_dn ?_ _) | (with_reducible refine bl_drew ?_) | (with_reducible refine bl_then ?_ (by with_reducible assumption)))))) (hsl1.out.below (by (repeat (first | with_reducible exact Below.refl _ _ | with_reducible assumption | (with_reducible refine bl_set ?_ (by simp; try omega) _) | (with_reducible refine bl_alloc ?_ _) | (with_reducible refine bl_dn ?_ _) | (with_reducible refine bl_drew ?_) | (with_reducible refine bl_then ?_ (by with_reducible assumption))))))).mono ?_
              rintro e wc2 ⟨hg2, V2, cv2, rfl, hsl2, hge2, hcp2⟩
              have hsl2 := hide hsl2
              go_wp2_with fail
              go_meet
              refine VarAt.of_new hsl2.out ?_
              (repeat (first | with_reducible exact Below.refl _ _ | with_reducible assumption | (with_reducible refine bl_set ?_ (by simp; try omega) _) | (with_reducible refine bl_alloc ?_ _) | (with_reducible refine bl_dn ?_ _) | (with_reducible refine bl_drew ?_) | (with_reducible refine bl_then ?_ (by with_reducible assumption))))
            case rest =>
              obtain ⟨g10, rfl, rfl, v10, hg⟩ := hcut
              obtain ⟨w6, rfl⟩ : ∃ w6 : World, w6 = wc := ⟨_, rfl⟩
              have v1 := hide (v1.out.below hg)
              have v2 := hide (v2.out.below hg)
              have v4 := hide (v4.out.below hg)
              have hb0 := hide (bl_then hb0.out hg)
              clear hg v10
              go_upto_region 7 with fail
              go_cut [12, 13] from 16 (fun sa se wx => VarAt w6 (13, .zero) sa se wx)
              case first =>
                go_wp2_with fail
                refine (ints_any _ _ [1, -9223372036854775808] 2 rfl (by omega) _ (sl_2 (by simp [go_sem, *]) (by simp [go_sem, *]))).mono ?_
                rintro e wc0 ⟨hg0, V0, cv0, rfl, hsl0, hge0, hcp0⟩
                have hsl0 := hide hsl0
                go_wp2_with fail
                refine (ints_any _ _ [0, -1] 2 rfl (by omega) _ (sl_2 (by simp [go_sem, *]) (by simp [go_sem, *]))).mono ?_
                rintro e wc1 ⟨hg1, V1, cv1, rfl, hsl1, hge1, hcp1⟩
                have hsl1 := hide hsl1
                go_wp2_with fail
                refine (two_eq 18 (vec 1 [1, -9223372036854775808]) (vec 1 [0, -1]) V0 V1 cv0 cv1 (good_of (by decide) (by decide) (by decide) (by decide)) (good_of (by decide) (by decide) (by decide) (by decide)) aw6 _ (hsl0.out.below (by (repeat (first | with_reducible exact Below.refl _ _ | with_reducible assumption | (with_reducible refine bl_set ?_ (by simp; try omega) _) | (with_reducible refine bl_alloc ?_ _) | (with_reducible refine bl_dn ?_ _) | (with_reducible refine bl_drew ?_) | (with_reducible refine bl_then ?_ (by with_reducible assumption)))))) (hsl1.out.below (by (repeat (first | with_reducible exact Below.refl _ _ | with_reducible assumption | (with_reducible refine bl_set ?_ (by simp; try omega) _) | (with_reducible refine bl_alloc ?_ _) | (with_reducible refine bl_dn ?_ _) | (with_reducible refine bl_drew ?_) | (with_reducible refine bl_then ?_ (by with_reducible assumption))))))).mono ?_
                rintro e wc2 ⟨hg2, V2, cv2, rfl, hsl2, hge2, hcp2⟩
                have hsl2 := hide hsl2
                go_wp2_with fail
                go_meet
                refine VarAt.of_new hsl2.out ?_
                (repeat (first | with_reducible exact Below.refl _ _ | with_reducible assumption | (with_reducible refine bl_set ?_ (by simp; try omega) _) | (with_reducible refine bl_alloc ?_ _) | (with_reducible refine bl_dn ?_ _) | (with_reducible refine bl_drew ?_) | (with_reducible refine bl_then ?_ (by with_reducible assumption))))
              case rest =>
                obtain ⟨g12, rfl, rfl, v12, hg⟩ := hcut
                obtain ⟨w7, rfl⟩ : ∃ w7 : World, w7 = wc := ⟨_, rfl⟩
                have v1 := hide (v1.out.below hg)
                have v2 := hide (v2.out.below hg)
                have v4 := hide (v4.out.below hg)
                have hb0 := hide (bl_then hb0.out hg)
                clear hg v12
                go_upto_region 8 with fail
                go_cut [14, 15] from 16 (fun sa se wx => VarAt w7 (0, vec 1 [-1, 2]) sa se wx)
                case first =>
                  go_wp2_with fail
                  refine (ints_any _ _ [1, -2] 2 rfl (by omega) _ (sl_2 (by simp [go_sem, *]) (by simp [go_sem, *]))).mono ?_
                  rintro e wc0 ⟨hg0, V0, cv0, rfl, hsl0, hge0, hcp0⟩
                  have hsl0 := hide hsl0
                  go_wp2_with fail
                  refine (one_eq 1 (vec 1 [1, -2]) V0 cv0 (good_of (by decide) (by decide) (by decide) (by decide)) aw7 _ (hsl0.out.below (by (repeat (first | with_reducible exact Below.refl _ _ | with_reducible assumption | (with_reducible refine bl_set ?_ (by simp; try omega) _) | (with_reducible refine bl_alloc ?_ _) | (with_reducible refine bl_dn ?_ _) | (with_reducible refine bl_drew ?_) | (with_reducible refine bl_then ?_ (by with_reducible assumption))))))).mono ?_
                  rintro e wc1 ⟨hg1, V1, cv1, rfl, hsl1, hge1, hcp1⟩
                  have hsl1 := hide hsl1
                  go_wp2_with fail
                  go_meet
                  refine VarAt.of_new hsl1.out ?_
                  (repeat (first | with_reducible exact Below.refl _ _ | with_reducible assumption | (with_reducible refine bl_set ?_ (by simp; try omega) _) | (with_reducible refine bl_alloc ?_ _) | (with_reducible refine bl_dn ?_ _) | (with_reducible refine bl_drew ?_) | (with_reducible refine bl_then ?_ (by with_reducible assumption))))
                case rest =>
                  obtain ⟨g14, rfl, rfl, v14, hg⟩ := hcut
                  obtain ⟨w8, rfl⟩ : ∃ w8 : World, w8 = wc := ⟨_, rfl⟩
                  have v1 := hide (v1.out.below hg)
                  have v2 := hide (v2.out.below hg)
                  have v4 := hide (v4.out.below hg)
                  have hb0 := hide (bl_then hb0.out hg)
                  have v14 := hide v14
                  clear hg
                  obtain ⟨A2, c2, ⟨p20, p21, p22, p23, p24⟩, s2⟩ := v2.out
                  have s2 := hide s2
                  have y2 : g2 < w8.heap.size := block_lt_of_cell p20
                  obtain ⟨A4, c4, ⟨p40, p41, p42, p43, p44⟩, s4⟩ := v4.out
                  have s4 := hide s4
                  have y4 : g4 < w8.heap.size := block_lt_of_cell p40
                  obtain ⟨A14, c14, ⟨p140, p141, p142, p143, p144⟩, s14⟩ := v14.out
                  have s14 := hide s14
                  have y14 : g14 < w8.heap.size := block_lt_of_cell p140
                  clear v1 v2 v4 v14
                  go_upto_region 9 with fail
                  have t0 : True := trivial
                  go_region_held3 (fun w' => Below w8.heap.size w8 w' ∧ ∀ b o, b < w8.heap.size → w'.cell? ⟨b, o, none⟩ = w8.cell? ⟨b, o, none⟩) (first | assumption | (refine same_of ?_; (repeat (first | with_reducible exact Below.refl _ _ | with_reducible assumption | (with_reducible refine bl_set ?_ (by simp; try omega) _) | (with_reducible refine bl_alloc ?_ _) | (with_reducible refine bl_dn ?_ _) | (with_reducible refine bl_drew ?_) | (with_reducible refine bl_then ?_ (by with_reducible assumption)))))) (first
                    | (go_at_call 56; (have _t := t0); (obtain ⟨hbb, _⟩ := (by assumption : Below w8.heap.size w8 _ ∧ _)); refine (ints_any _ _ [11, 12, 13] 3 rfl (by omega) _ (sl_3 (by simp [go_sem, *]) (by simp [go_sem, *]) (by simp [go_sem, *]))).mono ?_; rintro e wi0 ⟨hg, V0, cv0, rfl, hsl0, hge, hcp⟩; have hbi0 := bl_then hbb hg; have hS := same_of hbi0; (obtain ⟨hci0, hfi0, hzi0⟩ := bcell hg); have hsl0 := hide hsl0; clear hbb hg hge _t t0; have t1 : True := trivial)
                    | (go_at_call 38; (have _t := t1); (obtain ⟨hbb, _⟩ := (by assumption : Below w8.heap.size w8 _ ∧ _)); refine (is10_yes (vec 1 [11, 12, 13]) (vec 1 [11, 12, 13]) A2 V0 c2 cv0 (by decide) (by decide) (by decide) _ (s2.out.below (by (repeat (first | with_reducible exact Below.refl _ _ | with_reducible assumption | (with_reducible refine bl_set ?_ (by simp; try omega) _) | (with_reducible refine bl_alloc ?_ _) | (with_reducible refine bl_dn ?_ _) | (with_reducible refine bl_drew ?_) | (with_reducible refine bl_then ?_ (by with_reducible assumption)))))) (hsl0.out.below (by (repeat (first | with_reducible exact Below.refl _ _ | with_reducible assumption | (with_reducible refine bl_set ?_ (by simp; try omega) _) | (with_reducible refine bl_alloc ?_ _) | (with_reducible refine bl_dn ?_ _) | (with_reducible refine bl_drew ?_) | (with_reducible refine bl_then ?_ (by with_reducible assumption))))))).mono ?_; rintro e wi1 ⟨rfl, hg⟩; have hbi1 := bl_then hbb hg; have hS := same_of hbi1; (obtain ⟨hci1, hfi1, hzi1⟩ := bcell hg); clear hbb hg _t t1; have t2 : True := trivial)
                    | (go_at_call 56; (have _t := t2); (obtain ⟨hbb, _⟩ := (by assumption : Below w8.heap.size w8 _ ∧ _)); refine (ints_any _ _ [1, 0, 1] 3 rfl (by omega) _ (sl_3 (by simp [go_sem, *]) (by simp [go_sem, *]) (by simp [go_sem, *]))).mono ?_; rintro e wi2 ⟨hg, V2, cv2, rfl, hsl2, hge, hcp⟩; have hbi2 := bl_then hbb hg; have hS := same_of hbi2; (obtain ⟨hci2, hfi2, hzi2⟩ := bcell hg); have hsl2 := hide hsl2; clear hbb hg hge _t t2; have t3 : True := trivial)
                    | (go_at_call 38; (have _t := t3); (obtain ⟨hbb, _⟩ := (by assumption : Below w8.heap.size w8 _ ∧ _)); refine (is10_yes (vec 1 [1, 0, 1]) (vec 1 [1, 0, 1]) A4 V2 c4 cv2 (by decide) (by decide) (by decide) _ (s4.out.below (by (repeat (first | with_reducible exact Below.refl _ _ | with_reducible assumption | (with_reducible refine bl_set ?_ (by simp; try omega) _) | (with_reducible refine bl_alloc ?_ _) | (with_reducible refine bl_dn ?_ _) | (with_reducible refine bl_drew ?_) | (with_reducible refine bl_then ?_ (by with_reducible assumption)))))) (hsl2.out.below (by (repeat (first | with_reducible exact Below.refl _ _ | with_reducible assumption | (with_reducible refine bl_set ?_ (by simp; try omega) _) | (with_reducible refine bl_alloc ?_ _) | (with_reducible refine bl_dn ?_ _) | (with_reducible refine bl_drew ?_) | (with_reducible refine bl_then ?_ (by with_reducible assumption))))))).mono ?_; rintro e wi3 ⟨rfl, hg⟩; have hbi3 := bl_then hbb hg; have hS := same_of hbi3; (obtain ⟨hci3, hfi3, hzi3⟩ := bcell hg); clear hbb hg _t t3; have t4 : True := trivial)
                    | (go_at_call 56; (have _t := t4); (obtain ⟨hbb, _⟩ := (by assumption : Below w8.heap.size w8 _ ∧ _)); refine (ints_any _ _ [-1, 2] 2 rfl (by omega) _ (sl_2 (by simp [go_sem, *]) (by simp [go_sem, *]))).mono ?_; rintro e wi4 ⟨hg, V4, cv4, rfl, hsl4, hge, hcp⟩; have hbi4 := bl_then hbb hg; have hS := same_of hbi4; (obtain ⟨hci4, hfi4, hzi4⟩ := bcell hg); have hsl4 := hide hsl4; clear hbb hg hge _t t4; have t5 : True := trivial)
                    | (go_at_call 38; (have _t := t5); (obtain ⟨hbb, _⟩ := (by assumption : Below w8.heap.size w8 _ ∧ _)); refine (is10_yes (vec 1 [-1, 2]) (vec 1 [-1, 2]) A14 V4 c14 cv4 (by decide) (by decide) (by decide) _ (s14.out.below (by (repeat (first | with_reducible exact Below.refl _ _ | with_reducible assumption | (with_reducible refine bl_set ?_ (by simp; try omega) _) | (with_reducible refine bl_alloc ?_ _) | (with_reducible refine bl_dn ?_ _) | (with_reducible refine bl_drew ?_) | (with_reducible refine bl_then ?_ (by with_reducible assumption)))))) (hsl4.out.below (by (repeat (first | with_reducible exact Below.refl _ _ | with_reducible assumption | (with_reducible refine bl_set ?_ (by simp; try omega) _) | (with_reducible refine bl_alloc ?_ _) | (with_reducible refine bl_dn ?_ _) | (with_reducible refine bl_drew ?_) | (with_reducible refine bl_then ?_ (by with_reducible assumption))))))).mono ?_; rintro e wi5 ⟨rfl, hg⟩; have hbi5 := bl_then hbb hg; have hS := same_of hbi5; (obtain ⟨hci5, hfi5, hzi5⟩ := bcell hg); clear hbb hg _t t5; have t6 : True := trivial))
                  all_goals
                    go_wp2
                    go_ret
                    exact ⟨rfl, by have := hb0.out; (repeat (first | with_reducible exact Below.refl _ _ | with_reducible assumption | (with_reducible refine bl_set ?_ (by simp; try omega) _) | (with_reducible refine bl_alloc ?_ _) | (with_reducible refine bl_dn ?_ _) | (with_reducible refine bl_drew ?_) | (with_reducible refine bl_then ?_ (by with_reducible assumption))))⟩
end Ar
end Go.Proofs.Ytfpnafeildigaaa
