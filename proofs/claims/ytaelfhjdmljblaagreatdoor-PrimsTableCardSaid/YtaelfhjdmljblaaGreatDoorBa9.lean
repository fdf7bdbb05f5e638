/-
extend.Two where all cells have a result: its contract (chapter 10).
-/
import Derived.Test.YtaelfhjdmljblaaGreatDoorBa8
set_option linter.unusedSimpArgs false
set_option linter.unusedVariables false
namespace Go.Proofs.YtaelfhjdmljblaaGreatDoor
namespace Ar
open Go.RowKit Sc
set_option maxRecDepth 100000 in
set_option maxHeartbeats 2000000 in
theorem two_run (p : Int) (a b : Arr) (A B : Option Addr) (c d : Nat) (hLa : a.xs.length ≤ 100000) (f0a : Fits a.l0) (f1a : Fits a.l1) (hLb : b.xs.length ≤ 100000) (f0b : Fits b.l0) (f1b : Fits b.l1) (h : arity p = (2, 0)) (h2 : chk2 a b = 0) (h3 : kindsOk p a b = true) (r l0 l1 : Int) (h4 : extLens a b = (0, r, l0, l1)) (hxa : ∀ x ∈ a.xs, Fits x) (hxb : ∀ x ∈ b.xs, Fits x) (ys : List Int) (hm : mapP (fun q : Int × Int => two p q.1 q.2) (pairs a b) = (0, ys))
    (w : World) (hsa : Sl w A a.xs) (hsb : Sl w B b.xs) :
    Calls Tryz.prog 40 #[.int .i64 p, .agg #[.int .i64 a.k, .int .i64 a.r, .int .i64 a.l0, .int .i64 a.l1, .slice A a.xs.length c], .agg #[.int .i64 b.k, .int .i64 b.r, .int .i64 b.l0, .int .i64 b.l1, .slice B b.xs.length d]] w fun e w' => ArrRet w (0, ⟨1, r, l0, l1, ys⟩) e w' := by
  have H := hide h; have H2 := hide h2; have H3 := hide h3; have H4 := hide h4; have HXA := hide hxa; have HXB := hide hxb
  have HM := hide hm; clear hm
  clear h h2 h3 h4 hxa hxb
  have hla : a.xs.length ≤ 9223372036854775807 := by omega
  have hlb : b.xs.length ≤ 9223372036854775807 := by omega
  have HLA := hide hLa; have HLB := hide hLb
  clear hLa hLb
  have hmf : ∀ (fn : Fn) (first cap : Array Value) (w : World), (Instr.makeFunc fn first cap).run Tryz.prog w = .ok (.func fn first cap) w := fun _ _ _ _ => rfl
  go_enter_defers Tryz.func40, Tryz.ntmps40
  go_wp2_with fail
  have st0 : Hid (TwoSt w (((((w.alloc (.cells #[.int .i64 p] 3)).alloc (.cells #[.int .i64 a.k, .int .i64 a.r, .int .i64 a.l0, .int .i64 a.l1, .slice A a.xs.length c] 33)).alloc (.cells #[.int .i64 b.k, .int .i64 b.r, .int .i64 b.l0, .int .i64 b.l1, .slice B b.xs.length d] 33)).alloc
      (.cells #[.int .i64 0, .int .i64 0, .int .i64 0, .int .i64 0, .slice none 0 0] 33)).alloc (.cells #[.int .i64 0] 24)) p a b A B c d) := by
    refine ⟨by simp [go_sem], ⟨by simp [go_sem], by simp [go_sem], by simp [go_sem], by simp [go_sem], by simp [go_sem]⟩, ⟨by simp [go_sem], by simp [go_sem], by simp [go_sem], by simp [go_sem], by simp [go_sem]⟩, ⟨by simp [go_sem], by simp [go_sem], by simp [go_sem], by simp [go_sem], by simp [go_sem]⟩, by simp [go_sem], fun i => by simp [go_sem], by simp [go_sem], by simp, by (repeat (first | with_reducible exact Below.refl _ _ | with_reducible assumption | (with_reducible refine bl_set ?_ (by simp; try omega) _) | (with_reducible refine bl_alloc ?_ _) | (with_reducible refine bl_dn ?_ _) | (with_reducible refine bl_drew ?_) | (with_reducible refine bl_then ?_ (by with_reducible assumption))))⟩
  refine (arity_any p _).mono ?_
  rw [H.out]
  rintro e w1 ⟨rfl, hg⟩
  have st1 := hide (st0.out.below hg)
  obtain ⟨p0_w1, ⟨a0_w1, a1_w1, a2_w1, a3_w1, a4_w1⟩, ⟨b0_w1, b1_w1, b2_w1, b3_w1, b4_w1⟩, ⟨c0_w1, c1_w1, c2_w1, c3_w1, c4_w1⟩, e0_w1, fc_w1, fe_w1, z_w1, hb_w1⟩ := st1.out; (have y0_w1 : w.heap.size < w1.heap.size := by omega); (have y1_w1 : w.heap.size + 1 < w1.heap.size := by omega); (have y2_w1 : w.heap.size + 1 + 1 < w1.heap.size := by omega); (have y3_w1 : w.heap.size + 1 + 1 + 1 < w1.heap.size := by omega)
  clear hg st0
  go_wp2_with fail
  refine (check2_any a A c hla f0a f1a b B d hlb f0b f1b _ (hsa.below (by (repeat (first | with_reducible exact Below.refl _ _ | with_reducible assumption | (with_reducible refine bl_set ?_ (by simp; try omega) _) | (with_reducible refine bl_alloc ?_ _) | (with_reducible refine bl_dn ?_ _) | (with_reducible refine bl_drew ?_) | (with_reducible refine bl_then ?_ (by with_reducible assumption)))))) (hsb.below (by (repeat (first | with_reducible exact Below.refl _ _ | with_reducible assumption | (with_reducible refine bl_set ?_ (by simp; try omega) _) | (with_reducible refine bl_alloc ?_ _) | (with_reducible refine bl_dn ?_ _) | (with_reducible refine bl_drew ?_) | (with_reducible refine bl_then ?_ (by with_reducible assumption))))))).mono ?_
  rw [H2.out]
  rintro e w2 ⟨rfl, hg⟩
  have st2 := hide (st1.out.below hg)
  clear p0_w1 a0_w1 a1_w1 a2_w1 a3_w1 a4_w1 b0_w1 b1_w1 b2_w1 b3_w1 b4_w1 c0_w1 c1_w1 c2_w1 c3_w1 c4_w1 e0_w1 fc_w1 fe_w1 z_w1 hb_w1 y0_w1 y1_w1 y2_w1 y3_w1
  clear st1 hg
  obtain ⟨p0_w2, ⟨a0_w2, a1_w2, a2_w2, a3_w2, a4_w2⟩, ⟨b0_w2, b1_w2, b2_w2, b3_w2, b4_w2⟩, ⟨c0_w2, c1_w2, c2_w2, c3_w2, c4_w2⟩, e0_w2, fc_w2, fe_w2, z_w2, hb_w2⟩ := st2.out; (have y0_w2 : w.heap.size < w2.heap.size := by omega); (have y1_w2 : w.heap.size + 1 < w2.heap.size := by omega); (have y2_w2 : w.heap.size + 1 + 1 < w2.heap.size := by omega); (have y3_w2 : w.heap.size + 1 + 1 + 1 < w2.heap.size := by omega)
  go_upto_region 7 with fail
  go_cut [11] from 18 (fun s11 wx => s11 = .bool (kb p a b) ∧ Below w2.heap.size w2 wx)
  case first =>
    cases hk : (a.k == b.k)
    · have HK : Hid (kb p a b = false) := by show _ = _; unfold kb; rw [hk]; rfl
      go_wp2_with fail
      go_meet
      exact ⟨by rw [HK.out], by (repeat (first | with_reducible exact Below.refl _ _ | with_reducible assumption | (with_reducible refine bl_set ?_ (by simp; try omega) _) | (with_reducible refine bl_alloc ?_ _) | (with_reducible refine bl_dn ?_ _) | (with_reducible refine bl_drew ?_) | (with_reducible refine bl_then ?_ (by with_reducible assumption))))⟩
    · have HK : Hid (kb p a b = isEq p) := by show _ = _; unfold kb; rw [hk]; rfl
      go_wp2_with (go_at_call 62; refine (contains_eq p _ _ (by simp [go_sem]) (by simp [go_sem])).mono ?_; rintro e w' ⟨rfl, rfl⟩)
      go_meet
      exact ⟨by rw [HK.out], by (repeat (first | with_reducible exact Below.refl _ _ | with_reducible assumption | (with_reducible refine bl_set ?_ (by simp; try omega) _) | (with_reducible refine bl_alloc ?_ _) | (with_reducible refine bl_dn ?_ _) | (with_reducible refine bl_drew ?_) | (with_reducible refine bl_then ?_ (by with_reducible assumption))))⟩
  case rest =>
    obtain ⟨rfl, hg⟩ := hcut
    obtain ⟨w3, rfl⟩ : ∃ w3 : World, w3 = wc := ⟨_, rfl⟩
    have st3 := hide (st2.out.below hg)
    clear p0_w2 a0_w2 a1_w2 a2_w2 a3_w2 a4_w2 b0_w2 b1_w2 b2_w2 b3_w2 b4_w2 c0_w2 c1_w2 c2_w2 c3_w2 c4_w2 e0_w2 fc_w2 fe_w2 z_w2 hb_w2 y0_w2 y1_w2 y2_w2 y3_w2
    clear st2 hg
    obtain ⟨p0_w3, ⟨a0_w3, a1_w3, a2_w3, a3_w3, a4_w3⟩, ⟨b0_w3, b1_w3, b2_w3, b3_w3, b4_w3⟩, ⟨c0_w3, c1_w3, c2_w3, c3_w3, c4_w3⟩, e0_w3, fc_w3, fe_w3, z_w3, hb_w3⟩ := st3.out; (have y0_w3 : w.heap.size < w3.heap.size := by omega); (have y1_w3 : w.heap.size + 1 < w3.heap.size := by omega); (have y2_w3 : w.heap.size + 1 + 1 < w3.heap.size := by omega); (have y3_w3 : w.heap.size + 1 + 1 + 1 < w3.heap.size := by omega)
    go_upto_region 8 with fail
    have KZ : Hid (kz p a b = false) := by show _ = _; rw [kz_eq, H3.out]; rfl
    go_cut [11, 58] from 18 (fun _ s58 wx => s58 = .bool false ∧ w3 = wx)
    case first =>
      cases hk : kb p a b
      · cases hk1 : (a.k != 1)
        · have HK : Hid (kz p a b = (b.k != 1)) := by show _ = _; unfold kz; rw [hk, hk1]; rfl
          go_wp2_with fail
          go_meet
          exact ⟨by rw [← KZ.out, HK.out], rfl⟩
        · have HK : Hid (kz p a b = true) := by show _ = _; unfold kz; rw [hk, hk1]; rfl
          go_wp2_with fail
          go_meet
          exact ⟨by rw [← KZ.out, HK.out], rfl⟩
      · have HK : Hid (kz p a b = false) := by show _ = _; unfold kz; rw [hk]; rfl
        go_wp2_with fail
        go_meet
        exact ⟨by rw [← KZ.out, HK.out], rfl⟩
    case rest =>
      obtain ⟨rfl, rfl⟩ := hcut
      go_wp2_with fail
      refine (lens_any a A c hla f0a f1a b B d hlb f0b f1b _ (hsa.below (by (repeat (first | with_reducible exact Below.refl _ _ | with_reducible assumption | (with_reducible refine bl_set ?_ (by simp; try omega) _) | (with_reducible refine bl_alloc ?_ _) | (with_reducible refine bl_dn ?_ _) | (with_reducible refine bl_drew ?_) | (with_reducible refine bl_then ?_ (by with_reducible assumption)))))) (hsb.below (by (repeat (first | with_reducible exact Below.refl _ _ | with_reducible assumption | (with_reducible refine bl_set ?_ (by simp; try omega) _) | (with_reducible refine bl_alloc ?_ _) | (with_reducible refine bl_dn ?_ _) | (with_reducible refine bl_drew ?_) | (with_reducible refine bl_then ?_ (by with_reducible assumption))))))).mono ?_
      rw [H4.out]
      rintro e w5 ⟨rfl, hg⟩
      have st5 := hide (st3.out.below hg)
      have hw : Below w.heap.size w w5 := bl_then hb_w3 hg
      clear p0_w3 a0_w3 a1_w3 a2_w3 a3_w3 a4_w3 b0_w3 b1_w3 b2_w3 b3_w3 b4_w3 c0_w3 c1_w3 c2_w3 c3_w3 c4_w3 e0_w3 fc_w3 fe_w3 z_w3 hb_w3 y0_w3 y1_w3 y2_w3 y3_w3
      clear st3 hg KZ
      obtain ⟨p0_w5, ⟨a0_w5, a1_w5, a2_w5, a3_w5, a4_w5⟩, ⟨b0_w5, b1_w5, b2_w5, b3_w5, b4_w5⟩, ⟨c0_w5, c1_w5, c2_w5, c3_w5, c4_w5⟩, e0_w5, fc_w5, fe_w5, z_w5, hb_w5⟩ := st5.out; (have y0_w5 : w.heap.size < w5.heap.size := by omega); (have y1_w5 : w.heap.size + 1 < w5.heap.size := by omega); (have y2_w5 : w.heap.size + 1 + 1 < w5.heap.size := by omega); (have y3_w5 : w.heap.size + 1 + 1 + 1 < w5.heap.size := by omega)
      go_upto_if 76 with fail
      have st6 : Hid (TwoSt w ((w5.setCell ⟨w.heap.size + 1 + 1 + 1 + 1, 0, none⟩ (.int .i64 0)).alloc (.cells #[.int .i64 l0, .int .i64 l1] 30)) p a b A B c d) := by
        refine ⟨by simp [go_sem, *], ⟨by simp [go_sem, *], by simp [go_sem, *], by simp [go_sem, *], by simp [go_sem, *], by simp [go_sem, *]⟩, ⟨by simp [go_sem, *], by simp [go_sem, *], by simp [go_sem, *], by simp [go_sem, *], by simp [go_sem, *]⟩, ⟨by simp [go_sem, *], by simp [go_sem, *], by simp [go_sem, *], by simp [go_sem, *], by simp [go_sem, *]⟩, by simp [go_sem, *], fun i => by simp [go_sem, *], by simp [go_sem, *], by simp; omega, by (repeat (first | with_reducible exact Below.refl _ _ | with_reducible assumption | (with_reducible refine bl_set ?_ (by simp; try omega) _) | (with_reducible refine bl_alloc ?_ _) | (with_reducible refine bl_dn ?_ _) | (with_reducible refine bl_drew ?_) | (with_reducible refine bl_then ?_ (by with_reducible assumption))))⟩
      have sl0 : Hid (((w5.setCell ⟨w.heap.size + 1 + 1 + 1 + 1, 0, none⟩ (.int .i64 0)).alloc (.cells #[.int .i64 l0, .int .i64 l1] 30)).cell? ⟨w5.heap.size, 0, none⟩ = some (.int .i64 l0)) := by show _ = _; simp [go_sem]
      have sl1 : Hid (((w5.setCell ⟨w.heap.size + 1 + 1 + 1 + 1, 0, none⟩ (.int .i64 0)).alloc (.cells #[.int .i64 l0, .int .i64 l1] 30)).cell? ⟨w5.heap.size, 1, none⟩ = some (.int .i64 l1)) := by show _ = _; simp [go_sem]
      have y9 : w5.heap.size < ((w5.setCell ⟨w.heap.size + 1 + 1 + 1 + 1, 0, none⟩ (.int .i64 0)).alloc (.cells #[.int .i64 l0, .int .i64 l1] 30)).heap.size := by simp
      have z_w5k := z_w5
      clear p0_w5 a0_w5 a1_w5 a2_w5 a3_w5 a4_w5 b0_w5 b1_w5 b2_w5 b3_w5 b4_w5 c0_w5 c1_w5 c2_w5 c3_w5 c4_w5 e0_w5 fc_w5 fe_w5 z_w5 hb_w5 y0_w5 y1_w5 y2_w5 y3_w5
      clear st5 hw
      change Code.wp _ _ _ _ ((w5.setCell ⟨w.heap.size + 1 + 1 + 1 + 1, 0, none⟩ (.int .i64 0)).alloc (.cells #[.int .i64 l0, .int .i64 l1] 30))
      generalize ((w5.setCell ⟨w.heap.size + 1 + 1 + 1 + 1, 0, none⟩ (.int .i64 0)).alloc (.cells #[.int .i64 l0, .int .i64 l1] 30)) = w6 at *
      have gl1 : w.heap.size + 1 + 1 + 1 + 1 < w5.heap.size := by have := z_w5k; omega
      generalize w5.heap.size = gl at *
      obtain ⟨p0_w6, ⟨a0_w6, a1_w6, a2_w6, a3_w6, a4_w6⟩, ⟨b0_w6, b1_w6, b2_w6, b3_w6, b4_w6⟩, ⟨c0_w6, c1_w6, c2_w6, c3_w6, c4_w6⟩, e0_w6, fc_w6, fe_w6, z_w6, hb_w6⟩ := st6.out; (have y0_w6 : w.heap.size < w6.heap.size := by omega); (have y1_w6 : w.heap.size + 1 < w6.heap.size := by omega); (have y2_w6 : w.heap.size + 1 + 1 < w6.heap.size := by omega); (have y3_w6 : w.heap.size + 1 + 1 + 1 < w6.heap.size := by omega)
      go_cut [14] from 18 (fun s14 wx => s14 = .int .i64 (many a b) ∧ w6 = wx)
      case first =>
        cases hk : (a.r == 0)
        · have HK : Hid (many a b = a.xs.length) := if_neg (by simpa using hk)
          go_wp2_with fail
          go_meet
          exact ⟨by rw [HK.out], rfl⟩
        · have HK : Hid (many a b = b.xs.length) := if_pos (by simpa using hk)
          go_wp2_with fail
          go_meet
          exact ⟨by rw [HK.out], rfl⟩
      case rest =>
        obtain ⟨rfl, rfl⟩ := hcut
        go_upto_region 17 with fail
        go_cut [15, 16] from 18 (fun s15 s16 wx => Spreads w6 a b A B c d s15 s16 wx)
        case first =>
          go_region_held3 (fun w' => ∀ b o, b < w6.heap.size → w'.cell? ⟨b, o, none⟩ = w6.cell? ⟨b, o, none⟩) ((intro b o hlt; first | rfl | (simp (disch := (first | omega | (simp only [World.size_alloc, World.size_setCell, World.size_drew]; done) | (simp only [World.size_alloc, World.size_setCell, World.size_drew]; omega))) only [cel_alloc, cel_set, cel_off, cel_drew, cel_drewN]; done) | (simp (disch := (first | omega | (simp only [World.size_alloc, World.size_setCell, World.size_drew]; done) | (simp only [World.size_alloc, World.size_setCell, World.size_drew]; omega))) only [*, cel_alloc, cel_set, cel_off, cel_drew, cel_drewN]; done))) (first | (go_at_call_of 64 (Value.agg #[.int .i64 a.k, .int .i64 a.r, .int .i64 a.l0, .int .i64 a.l1, .slice A a.xs.length c]); refine (spread_any a A c _).mono ?_; rintro e w' ⟨rfl, rfl⟩) | (go_at_call_of 64 (Value.agg #[.int .i64 b.k, .int .i64 b.r, .int .i64 b.l0, .int .i64 b.l1, .slice B b.xs.length d]); refine (spread_any b B d _).mono ?_; rintro e w' ⟨rfl, rfl⟩))
          all_goals
            go_wp2_with fail
            go_meet
            refine Spreads.mk ?_ ?_ ?_ ?_ ?_ ?_ ?_
            rotate_left 2
            · (first | (with_reducible assumption) | (simp (disch := (first | omega | (simp only [World.size_alloc, World.size_setCell, World.size_drew]; done) | (simp only [World.size_alloc, World.size_setCell, World.size_drew]; omega))) only [cel_alloc, cel_set, cel_off, cel_drew, cel_drewN, cel_new]; first | done | (with_reducible assumption) | rfl))
            · (first | (with_reducible assumption) | (simp (disch := (first | omega | (simp only [World.size_alloc, World.size_setCell, World.size_drew]; done) | (simp only [World.size_alloc, World.size_setCell, World.size_drew]; omega))) only [cel_alloc, cel_set, cel_off, cel_drew, cel_drewN, cel_new]; first | done | (with_reducible assumption) | rfl))
            · (first | (with_reducible assumption) | (simp (disch := (first | omega | (simp only [World.size_alloc, World.size_setCell, World.size_drew]; done) | (simp only [World.size_alloc, World.size_setCell, World.size_drew]; omega))) only [cel_alloc, cel_set, cel_off, cel_drew, cel_drewN, cel_new]; first | done | (with_reducible assumption) | rfl))
            · (first | (with_reducible assumption) | (simp (disch := (first | omega | (simp only [World.size_alloc, World.size_setCell, World.size_drew]; done) | (simp only [World.size_alloc, World.size_setCell, World.size_drew]; omega))) only [cel_alloc, cel_set, cel_off, cel_drew, cel_drewN, cel_new]; first | done | (with_reducible assumption) | rfl))
            · (repeat (first | with_reducible exact Below.refl _ _ | with_reducible assumption | (with_reducible refine bl_set ?_ (by simp; try omega) _) | (with_reducible refine bl_alloc ?_ _) | (with_reducible refine bl_dn ?_ _) | (with_reducible refine bl_drew ?_) | (with_reducible refine bl_then ?_ (by with_reducible assumption))))
        case rest =>
          obtain ⟨X, Y, QX, QY, rfl, rfl, x1, x2, x3, x4, hg⟩ := hcut
          obtain ⟨w7, rfl⟩ : ∃ w7 : World, w7 = wc := ⟨_, rfl⟩
          have hw := hide (bl_then hb_w6 hg)
          have y9' : gl < w7.heap.size := Nat.lt_of_lt_of_le y9 hg.size
          have st8 : Hid (TwoSt w (w7.alloc (twoObj (many a b) w.heap.size X Y)) p a b A B c d) := (st6.out.below hg).below (by (repeat (first | with_reducible exact Below.refl _ _ | with_reducible assumption | (with_reducible refine bl_set ?_ (by simp; try omega) _) | (with_reducible refine bl_alloc ?_ _) | (with_reducible refine bl_dn ?_ _) | (with_reducible refine bl_drew ?_) | (with_reducible refine bl_then ?_ (by with_reducible assumption)))))
          have tl0 : Hid ((w7.alloc (twoObj (many a b) w.heap.size X Y)).cell? ⟨gl, 0, none⟩ = some (.int .i64 l0)) := (cel_alloc _ _ _ _ y9').trans ((hg.cell (p := ⟨gl, 0, none⟩) y9).trans sl0.out)
          have tl1 : Hid ((w7.alloc (twoObj (many a b) w.heap.size X Y)).cell? ⟨gl, 1, none⟩ = some (.int .i64 l1)) := (cel_alloc _ _ _ _ y9').trans ((hg.cell (p := ⟨gl, 1, none⟩) y9).trans sl1.out)
          have to0 : Hid ((w7.alloc (twoObj (many a b) w.heap.size X Y)).cell? ⟨w7.heap.size, 0, none⟩ = some (.int .i64 (many a b))) := by show _ = _; simp [go_sem]
          have to1 : Hid ((w7.alloc (twoObj (many a b) w.heap.size X Y)).cell? ⟨w7.heap.size, 1, none⟩ = some (.func (.func 65) #[] #[.pointer (some ⟨w.heap.size, 0, none⟩), .pointer (some ⟨X, 0, none⟩), .pointer (some ⟨Y, 0, none⟩)])) := by show _ = _; simp [go_sem]
          have ta : Hid (TwoAt (w7.alloc (twoObj (many a b) w.heap.size X Y)) p (spr a.r) (spr b.r) w.heap.size X Y QX QY a b A B c d) := TwoAt.below (w := w7) ⟨by obtain ⟨h, _⟩ := st6.out.below hg; exact h, x1, x2, x3, x4, hsa.below hw.out, hsb.below hw.out⟩ (by (repeat (first | with_reducible exact Below.refl _ _ | with_reducible assumption | (with_reducible refine bl_set ?_ (by simp; try omega) _) | (with_reducible refine bl_alloc ?_ _) | (with_reducible refine bl_dn ?_ _) | (with_reducible refine bl_drew ?_) | (with_reducible refine bl_then ?_ (by with_reducible assumption)))))
          have y79 : gl < w7.heap.size := y9'
          have y8 : gl < (w7.alloc (twoObj (many a b) w.heap.size X Y)).heap.size := by simp; omega
          have y7 : w7.heap.size < (w7.alloc (twoObj (many a b) w.heap.size X Y)).heap.size := by simp
          clear p0_w6 a0_w6 a1_w6 a2_w6 a3_w6 a4_w6 b0_w6 b1_w6 b2_w6 b3_w6 b4_w6 c0_w6 c1_w6 c2_w6 c3_w6 c4_w6 e0_w6 fc_w6 fe_w6 z_w6 hb_w6 y0_w6 y1_w6 y2_w6 y3_w6
          clear st6 hg x1 x2 x3 x4 sl0 sl1 y9 y9' hw
          go_upto_region 19 with fail
          change Code.wp _ _ _ _ (w7.alloc (twoObj (many a b) w.heap.size X Y))
          generalize (w7.alloc (twoObj (many a b) w.heap.size X Y)) = w8 at *
          have go1 : w.heap.size + 1 + 1 + 1 + 1 < w7.heap.size := by have := gl1; omega
          generalize w7.heap.size = go at *
          have gn1 : w.heap.size + 1 + 1 + 1 ≠ gl := by omega
          have gn2 : w.heap.size + 1 + 1 + 1 + 1 ≠ gl := by omega
          have gn3 : w.heap.size + 1 + 1 + 1 ≠ go := by omega
          have gn4 : w.heap.size + 1 + 1 + 1 + 1 ≠ go := by omega
          obtain ⟨p0_w8, ⟨a0_w8, a1_w8, a2_w8, a3_w8, a4_w8⟩, ⟨b0_w8, b1_w8, b2_w8, b3_w8, b4_w8⟩, ⟨c0_w8, c1_w8, c2_w8, c3_w8, c4_w8⟩, e0_w8, fc_w8, fe_w8, z_w8, hb_w8⟩ := st8.out; (have y0_w8 : w.heap.size < w8.heap.size := by omega); (have y1_w8 : w.heap.size + 1 < w8.heap.size := by omega); (have y2_w8 : w.heap.size + 1 + 1 < w8.heap.size := by omega); (have y3_w8 : w.heap.size + 1 + 1 + 1 < w8.heap.size := by omega)
          clear hmf
          have HCL := hide (two_closure p a b A B c d w.heap.size X Y QX QY HLA.out HLB.out HXA.out HXB.out (by rw [H4.out]) w8 ta.out)
          have hl0 := tl0.out; have hl1 := tl1.out; have ho0 := to0.out; have ho1 := to1.out
          have hml : Hid (many a b ≤ 100000) := by have := HLA.out; have := HLB.out; show many a b ≤ _; unfold many; split <;> omega
          go_region_held3 (fun w' => w'.cell? ⟨gl, 0, none⟩ = some (.int .i64 l0) ∧ w'.cell? ⟨gl, 1, none⟩ = some (.int .i64 l1) ∧ w'.cell? ⟨go, 0, none⟩ = some (.int .i64 (many a b)) ∧ w'.cell? ⟨go, 1, none⟩ = some (.func (.func 65) #[] #[.pointer (some ⟨w.heap.size, 0, none⟩), .pointer (some ⟨X, 0, none⟩), .pointer (some ⟨Y, 0, none⟩)])) (simp [go_sem, *]) ((go_at_call 60; refine (all_two_ok _ (pairs a b) (many a b) (pairs_len (by rw [H4.out])) w.heap.size X Y _ hml.out (fun k W hk hb => HCL.out k W hk (bl_then (bl_drew (Below.refl _ _)) hb)) ys HM.out).mono ?_; rintro e w9 ⟨hg9, g, rfl, hgg, ho⟩; (have hc9 : ∀ b o, b < w8.heap.size → w9.cell? ⟨b, o, none⟩ = w8.cell? ⟨b, o, none⟩ := fun b o h => hg9.cell (p := ⟨b, o, none⟩) h); (have hf9 : ∀ b o, b < w8.heap.size → w9.frozen? ⟨b, o, none⟩ = w8.frozen? ⟨b, o, none⟩ := fun b o h => hg9.frozen (p := ⟨b, o, none⟩) h); (have ho := hide ho)))
          go_wp2
          refine leaves_cons (f := 57) (args := #[.pointer (some ⟨w.heap.size + 1 + 1 + 1, 0, none⟩), .pointer (some ⟨w.heap.size + 1 + 1 + 1 + 1, 0, none⟩)]) (by simp) (by simp [go_sem]) ?_
          refine (caught_idle _ _ _).mono ?_
          rintro e u' w'' ⟨rfl, rfl, rfl⟩
          simp [Leaves, settle, results, Tryz.results40, go_sem, *]
          have hlen : ys.length = many a b := (mapP_len HM.out).trans (pairs_len (by rw [H4.out]))
          have hgg' : w8.heap.size ≤ g := hgg
          refine ⟨by (repeat (first | with_reducible exact Below.refl _ _ | with_reducible assumption | (with_reducible refine bl_set ?_ (by simp; try omega) _) | (with_reducible refine bl_alloc ?_ _) | (with_reducible refine bl_dn ?_ _) | (with_reducible refine bl_drew ?_) | (with_reducible refine bl_then ?_ (by with_reducible assumption)))), some ⟨g, 0, none⟩, many a b, by show _ = Ending.returned (.tuple #[.agg #[_, _, _, _, .slice _ ys.length _], _]); rw [hlen], ?_, ?_, Nat.le_of_eq hlen⟩
          · have := ((((((ho.out.far (q := ⟨w.heap.size + 1 + 1 + 1, 0, none⟩) (by simp; omega) (.int .i64 1)).far (q := ⟨w.heap.size + 1 + 1 + 1, 1, none⟩) (by simp; omega) (.int .i64 r)).far (q := ⟨w.heap.size + 1 + 1 + 1, 2, none⟩) (by simp; omega) (.int .i64 l0)).far (q := ⟨w.heap.size + 1 + 1 + 1, 3, none⟩) (by simp; omega) (.int .i64 l1)).far (q := ⟨w.heap.size + 1 + 1 + 1, 4, none⟩) (by simp; omega) (.slice (some ⟨g, 0, none⟩) (many a b) (many a b))).far (q := ⟨w.heap.size + 1 + 1 + 1 + 1, 0, none⟩) (by simp; omega) (.int .i64 0))
            rw [← hlen] at this
            have := this.sl
            rw [hlen] at this
            exact this
          · intro g' o' h
            injection h with h
            injection h with h1 h2 h3
            subst h1
            omega
end Ar
end Go.Proofs.YtaelfhjdmljblaaGreatDoor
/-
extend.Two where a cell has an error: its contract (chapter 10).
-/
set_option linter.unusedSimpArgs false
set_option linter.unusedVariables false
namespace Go.Proofs.YtaelfhjdmljblaaGreatDoor
namespace Ar
open Go.RowKit Sc
set_option maxRecDepth 100000 in
set_option maxHeartbeats 2000000 in
theorem two_fail (p : Int) (a b : Arr) (A B : Option Addr) (c d : Nat) (hLa : a.xs.length ≤ 100000) (f0a : Fits a.l0) (f1a : Fits a.l1) (hLb : b.xs.length ≤ 100000) (f0b : Fits b.l0) (f1b : Fits b.l1) (h : arity p = (2, 0)) (h2 : chk2 a b = 0) (h3 : kindsOk p a b = true) (r l0 l1 : Int) (h4 : extLens a b = (0, r, l0, l1)) (hxa : ∀ x ∈ a.xs, Fits x) (hxb : ∀ x ∈ b.xs, Fits x) (er : Int) (hm : (mapP (fun q : Int × Int => two p q.1 q.2) (pairs a b)).1 = er) (her : er ≠ 0)
    (w : World) (hsa : Sl w A a.xs) (hsb : Sl w B b.xs) :
    Calls Tryz.prog 40 #[.int .i64 p, .agg #[.int .i64 a.k, .int .i64 a.r, .int .i64 a.l0, .int .i64 a.l1, .slice A a.xs.length c], .agg #[.int .i64 b.k, .int .i64 b.r, .int .i64 b.l0, .int .i64 b.l1, .slice B b.xs.length d]] w fun e w' => ArrRet w (er, .zero) e w' := by
  have H := hide h; have H2 := hide h2; have H3 := hide h3; have H4 := hide h4; have HXA := hide hxa; have HXB := hide hxb
  have HM := hide hm; have HER := hide her; clear hm her
  clear h h2 h3 h4 hxa hxb
  have hla : a.xs.length ≤ 9223372036854775807 := by omega
  have hlb : b.xs.length ≤ 9223372036854775807 := by omega
  have HLA := hide hLa; have HLB := hide hLb
  clear hLa hLb
  have hmf : ∀ (fn : Fn) (first cap : Array Value) (w : World), (Instr.makeFunc fn first cap).run Tryz.prog w = .ok (.func fn first cap) w := fun _ _ _ _ => rfl
  go_enter_defers Tryz.func40, Tryz.ntmps40
  go_wp2_with fail
  have st0 : Hid (TwoSt w (((((w.alloc (.cells #[.int .i64 p] 3)).alloc (.cells #[.int .i64 a.k, .int .i64 a.r, .int .i64 a.l0, .int .i64 a.l1, .slice A a.xs.length c] 33)).alloc (.cells #[.int .i64 b.k, .int .i64 b.r, .int .i64 b.l0, .int .i64 b.l1, .slice B b.xs.length d] 33)).alloc
      (.cells #[.int .i64 0, .int .i64 0, .int .i64 0, .int .i64 0, .slice none 0 0] 33)).alloc (.cells #[.int .i64 0] 24)) p a b A B c d) := by
    refine ⟨by simp [go_sem], ⟨by simp [go_sem], by simp [go_sem], by simp [go_sem], by simp [go_sem], by simp [go_sem]⟩, ⟨by simp [go_sem], by simp [go_sem], by simp [go_sem], by simp [go_sem], by simp [go_sem]⟩, ⟨by simp [go_sem], by simp [go_sem], by simp [go_sem], by simp [go_sem], by simp [go_sem]⟩, by simp [go_sem], fun i => by simp [go_sem], by simp [go_sem], by simp, by (repeat (first | with_reducible exact Below.refl _ _ | with_reducible assumption | (with_reducible refine bl_set ?_ (by simp; try omega) _) | (with_reducible refine bl_alloc ?_ _) | (with_reducible refine bl_dn ?_ _) | (with_reducible refine bl_drew ?_) | (with_reducible refine bl_then ?_ (by with_reducible assumption))))⟩
  refine (arity_any p _).mono ?_
  rw [H.out]
  rintro e w1 ⟨rfl, hg⟩
  have st1 := hide (st0.out.below hg)
  obtain ⟨p0_w1, ⟨a0_w1, a1_w1, a2_w1, a3_w1, a4_w1⟩, ⟨b0_w1, b1_w1, b2_w1, b3_w1, b4_w1⟩, ⟨c0_w1, c1_w1, c2_w1, c3_w1, c4_w1⟩, e0_w1, fc_w1, fe_w1, z_w1, hb_w1⟩ := st1.out; (have y0_w1 : w.heap.size < w1.heap.size := by omega); (have y1_w1 : w.heap.size + 1 < w1.heap.size := by omega); (have y2_w1 : w.heap.size + 1 + 1 < w1.heap.size := by omega); (have y3_w1 : w.heap.size + 1 + 1 + 1 < w1.heap.size := by omega)
  clear hg st0
  go_wp2_with fail
  refine (check2_any a A c hla f0a f1a b B d hlb f0b f1b _ (hsa.below (by (repeat (first | with_reducible exact Below.refl _ _ | with_reducible assumption | (with_reducible refine bl_set ?_ (by simp; try omega) _) | (with_reducible refine bl_alloc ?_ _) | (with_reducible refine bl_dn ?_ _) | (with_reducible refine bl_drew ?_) | (with_reducible refine bl_then ?_ (by with_reducible assumption)))))) (hsb.below (by (repeat (first | with_reducible exact Below.refl _ _ | with_reducible assumption | (with_reducible refine bl_set ?_ (by simp; try omega) _) | (with_reducible refine bl_alloc ?_ _) | (with_reducible refine bl_dn ?_ _) | (with_reducible refine bl_drew ?_) | (with_reducible refine bl_then ?_ (by with_reducible assumption))))))).mono ?_
  rw [H2.out]
  rintro e w2 ⟨rfl, hg⟩
  have st2 := hide (st1.out.below hg)
  clear p0_w1 a0_w1 a1_w1 a2_w1 a3_w1 a4_w1 b0_w1 b1_w1 b2_w1 b3_w1 b4_w1 c0_w1 c1_w1 c2_w1 c3_w1 c4_w1 e0_w1 fc_w1 fe_w1 z_w1 hb_w1 y0_w1 y1_w1 y2_w1 y3_w1
  clear st1 hg
  obtain ⟨p0_w2, ⟨a0_w2, a1_w2, a2_w2, a3_w2, a4_w2⟩, ⟨b0_w2, b1_w2, b2_w2, b3_w2, b4_w2⟩, ⟨c0_w2, c1_w2, c2_w2, c3_w2, c4_w2⟩, e0_w2, fc_w2, fe_w2, z_w2, hb_w2⟩ := st2.out; (have y0_w2 : w.heap.size < w2.heap.size := by omega); (have y1_w2 : w.heap.size + 1 < w2.heap.size := by omega); (have y2_w2 : w.heap.size + 1 + 1 < w2.heap.size := by omega); (have y3_w2 : w.heap.size + 1 + 1 + 1 < w2.heap.size := by omega)
  go_upto_region 7 with fail
  go_cut [11] from 18 (fun s11 wx => s11 = .bool (kb p a b) ∧ Below w2.heap.size w2 wx)
  case first =>
    cases hk : (a.k == b.k)
    · have HK : Hid (kb p a b = false) := by show _ = _; unfold kb; rw [hk]; rfl
      go_wp2_with fail
      go_meet
      exact ⟨by rw [HK.out], by (repeat (first | with_reducible exact Below.refl _ _ | with_reducible assumption | (with_reducible refine bl_set ?_ (by simp; try omega) _) | (with_reducible refine bl_alloc ?_ _) | (with_reducible refine bl_dn ?_ _) | (with_reducible refine bl_drew ?_) | (with_reducible refine bl_then ?_ (by with_reducible assumption))))⟩
    · have HK : Hid (kb p a b = isEq p) := by show _ = _; unfold kb; rw [hk]; rfl
      go_wp2_with (go_at_call 62; refine (contains_eq p _ _ (by simp [go_sem]) (by simp [go_sem])).mono ?_; rintro e w' ⟨rfl, rfl⟩)
      go_meet
      exact ⟨by rw [HK.out], by (repeat (first | with_reducible exact Below.refl _ _ | with_reducible assumption | (with_reducible refine bl_set ?_ (by simp; try omega) _) | (with_reducible refine bl_alloc ?_ _) | (with_reducible refine bl_dn ?_ _) | (with_reducible refine bl_drew ?_) | (with_reducible refine bl_then ?_ (by with_reducible assumption))))⟩
  case rest =>
    obtain ⟨rfl, hg⟩ := hcut
    obtain ⟨w3, rfl⟩ : ∃ w3 : World, w3 = wc := ⟨_, rfl⟩
    have st3 := hide (st2.out.below hg)
    clear p0_w2 a0_w2 a1_w2 a2_w2 a3_w2 a4_w2 b0_w2 b1_w2 b2_w2 b3_w2 b4_w2 c0_w2 c1_w2 c2_w2 c3_w2 c4_w2 e0_w2 fc_w2 fe_w2 z_w2 hb_w2 y0_w2 y1_w2 y2_w2 y3_w2
    clear st2 hg
    obtain ⟨p0_w3, ⟨a0_w3, a1_w3, a2_w3, a3_w3, a4_w3⟩, ⟨b0_w3, b1_w3, b2_w3, b3_w3, b4_w3⟩, ⟨c0_w3, c1_w3, c2_w3, c3_w3, c4_w3⟩, e0_w3, fc_w3, fe_w3, z_w3, hb_w3⟩ := st3.out; (have y0_w3 : w.heap.size < w3.heap.size := by omega); (have y1_w3 : w.heap.size + 1 < w3.heap.size := by omega); (have y2_w3 : w.heap.size + 1 + 1 < w3.heap.size := by omega); (have y3_w3 : w.heap.size + 1 + 1 + 1 < w3.heap.size := by omega)
    go_upto_region 8 with fail
    have KZ : Hid (kz p a b = false) := by show _ = _; rw [kz_eq, H3.out]; rfl
    go_cut [11, 58] from 18 (fun _ s58 wx => s58 = .bool false ∧ w3 = wx)
    case first =>
      cases hk : kb p a b
      · cases hk1 : (a.k != 1)
        · have HK : Hid (kz p a b = (b.k != 1)) := by show _ = _; unfold kz; rw [hk, hk1]; rfl
          go_wp2_with fail
          go_meet
          exact ⟨by rw [← KZ.out, HK.out], rfl⟩
        · have HK : Hid (kz p a b = true) := by show _ = _; unfold kz; rw [hk, hk1]; rfl
          go_wp2_with fail
          go_meet
          exact ⟨by rw [← KZ.out, HK.out], rfl⟩
      · have HK : Hid (kz p a b = false) := by show _ = _; unfold kz; rw [hk]; rfl
        go_wp2_with fail
        go_meet
        exact ⟨by rw [← KZ.out, HK.out], rfl⟩
    case rest =>
      obtain ⟨rfl, rfl⟩ := hcut
      go_wp2_with fail
      refine (lens_any a A c hla f0a f1a b B d hlb f0b f1b _ (hsa.below (by (repeat (first | with_reducible exact Below.refl _ _ | with_reducible assumption | (with_reducible refine bl_set ?_ (by simp; try omega) _) | (with_reducible refine bl_alloc ?_ _) | (with_reducible refine bl_dn ?_ _) | (with_reducible refine bl_drew ?_) | (with_reducible refine bl_then ?_ (by with_reducible assumption)))))) (hsb.below (by (repeat (first | with_reducible exact Below.refl _ _ | with_reducible assumption | (with_reducible refine bl_set ?_ (by simp; try omega) _) | (with_reducible refine bl_alloc ?_ _) | (with_reducible refine bl_dn ?_ _) | (with_reducible refine bl_drew ?_) | (with_reducible refine bl_then ?_ (by with_reducible assumption))))))).mono ?_
      rw [H4.out]
      rintro e w5 ⟨rfl, hg⟩
      have st5 := hide (st3.out.below hg)
      have hw : Below w.heap.size w w5 := bl_then hb_w3 hg
      clear p0_w3 a0_w3 a1_w3 a2_w3 a3_w3 a4_w3 b0_w3 b1_w3 b2_w3 b3_w3 b4_w3 c0_w3 c1_w3 c2_w3 c3_w3 c4_w3 e0_w3 fc_w3 fe_w3 z_w3 hb_w3 y0_w3 y1_w3 y2_w3 y3_w3
      clear st3 hg KZ
      obtain ⟨p0_w5, ⟨a0_w5, a1_w5, a2_w5, a3_w5, a4_w5⟩, ⟨b0_w5, b1_w5, b2_w5, b3_w5, b4_w5⟩, ⟨c0_w5, c1_w5, c2_w5, c3_w5, c4_w5⟩, e0_w5, fc_w5, fe_w5, z_w5, hb_w5⟩ := st5.out; (have y0_w5 : w.heap.size < w5.heap.size := by omega); (have y1_w5 : w.heap.size + 1 < w5.heap.size := by omega); (have y2_w5 : w.heap.size + 1 + 1 < w5.heap.size := by omega); (have y3_w5 : w.heap.size + 1 + 1 + 1 < w5.heap.size := by omega)
      go_upto_if 76 with fail
      have st6 : Hid (TwoSt w ((w5.setCell ⟨w.heap.size + 1 + 1 + 1 + 1, 0, none⟩ (.int .i64 0)).alloc (.cells #[.int .i64 l0, .int .i64 l1] 30)) p a b A B c d) := by
        refine ⟨by simp [go_sem, *], ⟨by simp [go_sem, *], by simp [go_sem, *], by simp [go_sem, *], by simp [go_sem, *], by simp [go_sem, *]⟩, ⟨by simp [go_sem, *], by simp [go_sem, *], by simp [go_sem, *], by simp [go_sem, *], by simp [go_sem, *]⟩, ⟨by simp [go_sem, *], by simp [go_sem, *], by simp [go_sem, *], by simp [go_sem, *], by simp [go_sem, *]⟩, by simp [go_sem, *], fun i => by simp [go_sem, *], by simp [go_sem, *], by simp; omega, by (repeat (first | with_reducible exact Below.refl _ _ | with_reducible assumption | (with_reducible refine bl_set ?_ (by simp; try omega) _) | (with_reducible refine bl_alloc ?_ _) | (with_reducible refine bl_dn ?_ _) | (with_reducible refine bl_drew ?_) | (with_reducible refine bl_then ?_ (by with_reducible assumption))))⟩
      have sl0 : Hid (((w5.setCell ⟨w.heap.size + 1 + 1 + 1 + 1, 0, none⟩ (.int .i64 0)).alloc (.cells #[.int .i64 l0, .int .i64 l1] 30)).cell? ⟨w5.heap.size, 0, none⟩ = some (.int .i64 l0)) := by show _ = _; simp [go_sem]
      have sl1 : Hid (((w5.setCell ⟨w.heap.size + 1 + 1 + 1 + 1, 0, none⟩ (.int .i64 0)).alloc (.cells #[.int .i64 l0, .int .i64 l1] 30)).cell? ⟨w5.heap.size, 1, none⟩ = some (.int .i64 l1)) := by show _ = _; simp [go_sem]
      have y9 : w5.heap.size < ((w5.setCell ⟨w.heap.size + 1 + 1 + 1 + 1, 0, none⟩ (.int .i64 0)).alloc (.cells #[.int .i64 l0, .int .i64 l1] 30)).heap.size := by simp
      have z_w5k := z_w5
      clear p0_w5 a0_w5 a1_w5 a2_w5 a3_w5 a4_w5 b0_w5 b1_w5 b2_w5 b3_w5 b4_w5 c0_w5 c1_w5 c2_w5 c3_w5 c4_w5 e0_w5 fc_w5 fe_w5 z_w5 hb_w5 y0_w5 y1_w5 y2_w5 y3_w5
      clear st5 hw
      change Code.wp _ _ _ _ ((w5.setCell ⟨w.heap.size + 1 + 1 + 1 + 1, 0, none⟩ (.int .i64 0)).alloc (.cells #[.int .i64 l0, .int .i64 l1] 30))
      generalize ((w5.setCell ⟨w.heap.size + 1 + 1 + 1 + 1, 0, none⟩ (.int .i64 0)).alloc (.cells #[.int .i64 l0, .int .i64 l1] 30)) = w6 at *
      have gl1 : w.heap.size + 1 + 1 + 1 + 1 < w5.heap.size := by have := z_w5k; omega
      generalize w5.heap.size = gl at *
      obtain ⟨p0_w6, ⟨a0_w6, a1_w6, a2_w6, a3_w6, a4_w6⟩, ⟨b0_w6, b1_w6, b2_w6, b3_w6, b4_w6⟩, ⟨c0_w6, c1_w6, c2_w6, c3_w6, c4_w6⟩, e0_w6, fc_w6, fe_w6, z_w6, hb_w6⟩ := st6.out; (have y0_w6 : w.heap.size < w6.heap.size := by omega); (have y1_w6 : w.heap.size + 1 < w6.heap.size := by omega); (have y2_w6 : w.heap.size + 1 + 1 < w6.heap.size := by omega); (have y3_w6 : w.heap.size + 1 + 1 + 1 < w6.heap.size := by omega)
      go_cut [14] from 18 (fun s14 wx => s14 = .int .i64 (many a b) ∧ w6 = wx)
      case first =>
        cases hk : (a.r == 0)
        · have HK : Hid (many a b = a.xs.length) := if_neg (by simpa using hk)
          go_wp2_with fail
          go_meet
          exact ⟨by rw [HK.out], rfl⟩
        · have HK : Hid (many a b = b.xs.length) := if_pos (by simpa using hk)
          go_wp2_with fail
          go_meet
          exact ⟨by rw [HK.out], rfl⟩
      case rest =>
        obtain ⟨rfl, rfl⟩ := hcut
        go_upto_region 17 with fail
        go_cut [15, 16] from 18 (fun s15 s16 wx => Spreads w6 a b A B c d s15 s16 wx)
        case first =>
          go_region_held3 (fun w' => ∀ b o, b < w6.heap.size → w'.cell? ⟨b, o, none⟩ = w6.cell? ⟨b, o, none⟩) ((intro b o hlt; first | rfl | (simp (disch := (first | omega | (simp only [World.size_alloc, World.size_setCell, World.size_drew]; done) | (simp only [World.size_alloc, World.size_setCell, World.size_drew]; omega))) only [cel_alloc, cel_set, cel_off, cel_drew, cel_drewN]; done) | (simp (disch := (first | omega | (simp only [World.size_alloc, World.size_setCell, World.size_drew]; done) | (simp only [World.size_alloc, World.size_setCell, World.size_drew]; omega))) only [*, cel_alloc, cel_set, cel_off, cel_drew, cel_drewN]; done))) (first | (go_at_call_of 64 (Value.agg #[.int .i64 a.k, .int .i64 a.r, .int .i64 a.l0, .int .i64 a.l1, .slice A a.xs.length c]); refine (spread_any a A c _).mono ?_; rintro e w' ⟨rfl, rfl⟩) | (go_at_call_of 64 (Value.agg #[.int .i64 b.k, .int .i64 b.r, .int .i64 b.l0, .int .i64 b.l1, .slice B b.xs.length d]); refine (spread_any b B d _).mono ?_; rintro e w' ⟨rfl, rfl⟩))
          all_goals
            go_wp2_with fail
            go_meet
            refine Spreads.mk ?_ ?_ ?_ ?_ ?_ ?_ ?_
            rotate_left 2
            · (first | (with_reducible assumption) | (simp (disch := (first | omega | (simp only [World.size_alloc, World.size_setCell, World.size_drew]; done) | (simp only [World.size_alloc, World.size_setCell, World.size_drew]; omega))) only [cel_alloc, cel_set, cel_off, cel_drew, cel_drewN, cel_new]; first | done | (with_reducible assumption) | rfl))
            · (first | (with_reducible assumption) | (simp (disch := (first | omega | (simp only [World.size_alloc, World.size_setCell, World.size_drew]; done) | (simp only [World.size_alloc, World.size_setCell, World.size_drew]; omega))) only [cel_alloc, cel_set, cel_off, cel_drew, cel_drewN, cel_new]; first | done | (with_reducible assumption) | rfl))
            · (first | (with_reducible assumption) | (simp (disch := (first | omega | (simp only [World.size_alloc, World.size_setCell, World.size_drew]; done) | (simp only [World.size_alloc, World.size_setCell, World.size_drew]; omega))) only [cel_alloc, cel_set, cel_off, cel_drew, cel_drewN, cel_new]; first | done | (with_reducible assumption) | rfl))
            · (first | (with_reducible assumption) | (simp (disch := (first | omega | (simp only [World.size_alloc, World.size_setCell, World.size_drew]; done) | (simp only [World.size_alloc, World.size_setCell, World.size_drew]; omega))) only [cel_alloc, cel_set, cel_off, cel_drew, cel_drewN, cel_new]; first | done | (with_reducible assumption) | rfl))
            · (repeat (first | with_reducible exact Below.refl _ _ | with_reducible assumption | (with_reducible refine bl_set ?_ (by simp; try omega) _) | (with_reducible refine bl_alloc ?_ _) | (with_reducible refine bl_dn ?_ _) | (with_reducible refine bl_drew ?_) | (with_reducible refine bl_then ?_ (by with_reducible assumption))))
        case rest =>
          obtain ⟨X, Y, QX, QY, rfl, rfl, x1, x2, x3, x4, hg⟩ := hcut
          obtain ⟨w7, rfl⟩ : ∃ w7 : World, w7 = wc := ⟨_, rfl⟩
          have hw := hide (bl_then hb_w6 hg)
          have y9' : gl < w7.heap.size := Nat.lt_of_lt_of_le y9 hg.size
          have st8 : Hid (TwoSt w (w7.alloc (twoObj (many a b) w.heap.size X Y)) p a b A B c d) := (st6.out.below hg).below (by (repeat (first | with_reducible exact Below.refl _ _ | with_reducible assumption | (with_reducible refine bl_set ?_ (by simp; try omega) _) | (with_reducible refine bl_alloc ?_ _) | (with_reducible refine bl_dn ?_ _) | (with_reducible refine bl_drew ?_) | (with_reducible refine bl_then ?_ (by with_reducible assumption)))))
          have tl0 : Hid ((w7.alloc (twoObj (many a b) w.heap.size X Y)).cell? ⟨gl, 0, none⟩ = some (.int .i64 l0)) := (cel_alloc _ _ _ _ y9').trans ((hg.cell (p := ⟨gl, 0, none⟩) y9).trans sl0.out)
          have tl1 : Hid ((w7.alloc (twoObj (many a b) w.heap.size X Y)).cell? ⟨gl, 1, none⟩ = some (.int .i64 l1)) := (cel_alloc _ _ _ _ y9').trans ((hg.cell (p := ⟨gl, 1, none⟩) y9).trans sl1.out)
          have to0 : Hid ((w7.alloc (twoObj (many a b) w.heap.size X Y)).cell? ⟨w7.heap.size, 0, none⟩ = some (.int .i64 (many a b))) := by show _ = _; simp [go_sem]
          have to1 : Hid ((w7.alloc (twoObj (many a b) w.heap.size X Y)).cell? ⟨w7.heap.size, 1, none⟩ = some (.func (.func 65) #[] #[.pointer (some ⟨w.heap.size, 0, none⟩), .pointer (some ⟨X, 0, none⟩), .pointer (some ⟨Y, 0, none⟩)])) := by show _ = _; simp [go_sem]
          have ta : Hid (TwoAt (w7.alloc (twoObj (many a b) w.heap.size X Y)) p (spr a.r) (spr b.r) w.heap.size X Y QX QY a b A B c d) := TwoAt.below (w := w7) ⟨by obtain ⟨h, _⟩ := st6.out.below hg; exact h, x1, x2, x3, x4, hsa.below hw.out, hsb.below hw.out⟩ (by (repeat (first | with_reducible exact Below.refl _ _ | with_reducible assumption | (with_reducible refine bl_set ?_ (by simp; try omega) _) | (with_reducible refine bl_alloc ?_ _) | (with_reducible refine bl_dn ?_ _) | (with_reducible refine bl_drew ?_) | (with_reducible refine bl_then ?_ (by with_reducible assumption)))))
          have y79 : gl < w7.heap.size := y9'
          have y8 : gl < (w7.alloc (twoObj (many a b) w.heap.size X Y)).heap.size := by simp; omega
          have y7 : w7.heap.size < (w7.alloc (twoObj (many a b) w.heap.size X Y)).heap.size := by simp
          clear p0_w6 a0_w6 a1_w6 a2_w6 a3_w6 a4_w6 b0_w6 b1_w6 b2_w6 b3_w6 b4_w6 c0_w6 c1_w6 c2_w6 c3_w6 c4_w6 e0_w6 fc_w6 fe_w6 z_w6 hb_w6 y0_w6 y1_w6 y2_w6 y3_w6
          clear st6 hg x1 x2 x3 x4 sl0 sl1 y9 y9' hw
          go_upto_region 19 with fail
          change Code.wp _ _ _ _ (w7.alloc (twoObj (many a b) w.heap.size X Y))
          generalize (w7.alloc (twoObj (many a b) w.heap.size X Y)) = w8 at *
          have go1 : w.heap.size + 1 + 1 + 1 + 1 < w7.heap.size := by have := gl1; omega
          generalize w7.heap.size = go at *
          have gn1 : w.heap.size + 1 + 1 + 1 ≠ gl := by omega
          have gn2 : w.heap.size + 1 + 1 + 1 + 1 ≠ gl := by omega
          have gn3 : w.heap.size + 1 + 1 + 1 ≠ go := by omega
          have gn4 : w.heap.size + 1 + 1 + 1 + 1 ≠ go := by omega
          obtain ⟨p0_w8, ⟨a0_w8, a1_w8, a2_w8, a3_w8, a4_w8⟩, ⟨b0_w8, b1_w8, b2_w8, b3_w8, b4_w8⟩, ⟨c0_w8, c1_w8, c2_w8, c3_w8, c4_w8⟩, e0_w8, fc_w8, fe_w8, z_w8, hb_w8⟩ := st8.out; (have y0_w8 : w.heap.size < w8.heap.size := by omega); (have y1_w8 : w.heap.size + 1 < w8.heap.size := by omega); (have y2_w8 : w.heap.size + 1 + 1 < w8.heap.size := by omega); (have y3_w8 : w.heap.size + 1 + 1 + 1 < w8.heap.size := by omega)
          clear hmf
          have HCL := hide (two_closure p a b A B c d w.heap.size X Y QX QY HLA.out HLB.out HXA.out HXB.out (by rw [H4.out]) w8 ta.out)
          have hl0 := tl0.out; have hl1 := tl1.out; have ho0 := to0.out; have ho1 := to1.out
          have hml : Hid (many a b ≤ 100000) := by have := HLA.out; have := HLB.out; show many a b ≤ _; unfold many; split <;> omega
          refine Code.wp_mono (Q := PanicPost [{ target := Target.fn (.func 57) #[], args := #[.pointer (some ⟨w.heap.size + 1 + 1 + 1, 0, none⟩), .pointer (some ⟨w.heap.size + 1 + 1 + 1 + 1, 0, none⟩)] }] 6 7 (.pointer (some ⟨w.heap.size + 1 + 1 + 1, 0, none⟩)) (.pointer (some ⟨w.heap.size + 1 + 1 + 1 + 1, 0, none⟩)) er w8) ?_ ?_
          · rintro e a' w9 hp
            cases e <;> first | exact absurd hp id | skip
            obtain ⟨rfl, hD, h4, h5, hg9⟩ := hp
            show Leaves _ _ _ _ _ _ _
            rw [hD]
            refine leaves_cons (f := 57) (args := #[.pointer (some ⟨w.heap.size + 1 + 1 + 1, 0, none⟩), .pointer (some ⟨w.heap.size + 1 + 1 + 1 + 1, 0, none⟩)]) (by simp) (by simp [go_sem]) ?_
            have hcell : ∀ b o, b < w8.heap.size → w9.cell? ⟨b, o, none⟩ = w8.cell? ⟨b, o, none⟩ := fun b o h => hg9.cell (p := ⟨b, o, none⟩) h
            have hfroz : ∀ b o, b < w8.heap.size → w9.frozen? ⟨b, o, none⟩ = w8.frozen? ⟨b, o, none⟩ := fun b o h => hg9.frozen (p := ⟨b, o, none⟩) h
            have hsz : w8.heap.size ≤ w9.heap.size := hg9.size
            have z0 := (hcell _ _ y3_w8).trans c0_w8
            have z1 := (hcell _ _ y3_w8).trans c1_w8
            have z2 := (hcell _ _ y3_w8).trans c2_w8
            have z3 := (hcell _ _ y3_w8).trans c3_w8
            have z4 := (hcell _ _ y3_w8).trans c4_w8
            have ze := (hcell _ _ z_w8).trans e0_w8
            refine (caught_panicking (w.heap.size + 1 + 1 + 1) (w.heap.size + 1 + 1 + 1 + 1) er _ _ _ _ _ _ [] w9 (by omega) (by omega) (by omega) z0 z1 z2 z3 z4 ze (fun i => (hfroz _ _ y3_w8).trans (fc_w8 i)) ((hfroz _ _ z_w8).trans fe_w8)).mono ?_
            rintro e u' w'' ⟨rfl, rfl, rfl⟩
            have zs : w.heap.size + 1 + 1 + 1 < w9.heap.size := by omega
            have zt : w.heap.size + 1 + 1 + 1 + 1 < w9.heap.size := by omega
            unfold caughtW
            rw [Array.getD_eq_getD_getElem?] at h4 h5
            clear hcell hfroz
            simp [Leaves, settle, results, Tryz.results40, h4, h5, go_sem, z0, z1, z2, z3, z4, ze, zs, zt]
            exact arr_zero _ (by have hb9 : Below w.heap.size w w9 := bl_then hb_w8 hg9; (repeat (first | with_reducible exact Below.refl _ _ | with_reducible assumption | (with_reducible refine bl_set ?_ (by simp; try omega) _) | (with_reducible refine bl_alloc ?_ _) | (with_reducible refine bl_dn ?_ _) | (with_reducible refine bl_drew ?_) | (with_reducible refine bl_then ?_ (by with_reducible assumption)))))
          refine wp_region_held_drew (S := (fun w' => w'.cell? ⟨gl, 0, none⟩ = some (.int .i64 l0) ∧ w'.cell? ⟨gl, 1, none⟩ = some (.int .i64 l1) ∧ w'.cell? ⟨go, 0, none⟩ = some (.int .i64 (many a b)) ∧ w'.cell? ⟨go, 1, none⟩ = some (.func (.func 65) #[] #[.pointer (some ⟨w.heap.size, 0, none⟩), .pointer (some ⟨X, 0, none⟩), .pointer (some ⟨Y, 0, none⟩)]))) (by kernel_rfl) ⟨hl0, hl1, ho0, ho1⟩ (fun hHeld => ?_)
          refine wpAnyH_take (i := 0) (v := ?_) rfl (by kernel_rfl) (by kernel_rfl) (by kernel_rfl) (fun c a w h => PanicPost.put (d := 87) (by decide) (by decide) h) (Or.inl ⟨by rfl, ?_⟩) (by assumption) ?_
          rotate_left
          · intro w hSw
            (try dsimp only at hSw)
            go_simp
            try with_reducible rfl
          simp only [Act.put, List.setIfInBounds_toArray, List.set_cons_zero, List.set_cons_succ]
          refine wpAnyH_take (i := 1) (v := ?_) rfl (by kernel_rfl) (by kernel_rfl) (by kernel_rfl) (fun c a w h => PanicPost.put (d := 88) (by decide) (by decide) h) (Or.inl ⟨by rfl, ?_⟩) (by assumption) ?_
          rotate_left
          · intro w hSw
            (try dsimp only at hSw)
            go_simp
            try with_reducible rfl
          simp only [Act.put, List.setIfInBounds_toArray, List.set_cons_zero, List.set_cons_succ]
          refine wpAnyH_take (i := 2) (v := ?_) rfl (by kernel_rfl) (by kernel_rfl) (by kernel_rfl) (fun c a w h => PanicPost.put (d := 89) (by decide) (by decide) h) (Or.inl ⟨by rfl, ?_⟩) (by assumption) ?_
          rotate_left
          · intro w hSw
            (try dsimp only at hSw)
            go_simp
            try with_reducible rfl
          simp only [Act.put, List.setIfInBounds_toArray, List.set_cons_zero, List.set_cons_succ]
          refine wpAnyH_ready (rs := [3]) (by kernel_rfl) (by simp) ?_
          refine AllReadyH.cons rfl (fun K hK => ?_) AllReadyH.nil
          go_simp
          refine (all_two_err _ (pairs a b) (many a b) (pairs_len (by rw [H4.out])) w.heap.size X Y _ hml.out (fun k W hk hb => HCL.out k W hk (bl_then (bl_drew (Below.refl _ _)) hb)) er HM.out HER.out).mono ?_
          rintro e w9 ⟨hg9, rfl⟩
          exact ⟨rfl, rfl, rfl, rfl, bl_then (bl_drew (Below.refl _ _)) hg9⟩
end Ar
end Go.Proofs.YtaelfhjdmljblaaGreatDoor
/-
extend.Two: its contract whole (chapter 10).
-/
set_option linter.unusedSimpArgs false
set_option linter.unusedVariables false
namespace Go.Proofs.YtaelfhjdmljblaaGreatDoor
namespace Ar
open Go.RowKit Sc
theorem two_any (p : Int) (a b : Arr) (A B : Option Addr) (c d : Nat) (hla : a.xs.length ≤ 100000) (f0a : Fits a.l0) (f1a : Fits a.l1) (hlb : b.xs.length ≤ 100000) (f0b : Fits b.l0) (f1b : Fits b.l1) (hxa : ∀ x ∈ a.xs, Fits x) (hxb : ∀ x ∈ b.xs, Fits x)
    (w : World) (hsa : Sl w A a.xs) (hsb : Sl w B b.xs) :
    Calls Tryz.prog 40 #[.int .i64 p, .agg #[.int .i64 a.k, .int .i64 a.r, .int .i64 a.l0, .int .i64 a.l1, .slice A a.xs.length c], .agg #[.int .i64 b.k, .int .i64 b.r, .int .i64 b.l0, .int .i64 b.l1, .slice B b.xs.length d]] w (ArrRet w (extTwo p a b)) := by
  unfold extTwo
  have la : a.xs.length ≤ 9223372036854775807 := by omega
  have lb : b.xs.length ≤ 9223372036854775807 := by omega
  by_cases h : arity p = (2, 0)
  · rw [if_neg (by simpa using h)]
    by_cases h2 : chk2 a b = 0
    · rw [if_neg (by simpa using h2)]
      cases h3 : kindsOk p a b
      · rw [if_pos rfl]; exact two_kind p a b A B c d la f0a f1a lb f0b f1b h h2 h3 w hsa hsb
      · rw [if_neg (by simp)]
        obtain ⟨er, r, l0, l1, h4⟩ : ∃ er r l0 l1, extLens a b = (er, r, l0, l1) := ⟨_, _, _, _, rfl⟩
        rw [h4]
        by_cases h5 : er = 0
        · subst h5
          rw [if_neg (by simp)]
          by_cases h6 : (mapP (fun q : Int × Int => two p q.1 q.2) (pairs a b)).1 = 0
          · rw [if_neg (by simpa using h6)]
            exact two_run p a b A B c d hla f0a f1a hlb f0b f1b h h2 h3 r l0 l1 h4 hxa hxb _ (by rw [← h6]) w hsa hsb
          · rw [if_pos h6]
            exact two_fail p a b A B c d hla f0a f1a hlb f0b f1b h h2 h3 r l0 l1 h4 hxa hxb _ rfl h6 w hsa hsb
        · rw [if_pos h5]; exact two_lens p a b A B c d la f0a f1a lb f0b f1b h h2 h3 er r l0 l1 h4 h5 w hsa hsb
    · rw [if_pos h2]; exact two_check p a b A B c d la f0a f1a lb f0b f1b h h2 w hsa hsb
  · rw [if_pos h]; exact two_arity p a b A B c d la f0a f1a lb f0b f1b h w hsa hsb
end Ar
end Go.Proofs.YtaelfhjdmljblaaGreatDoor
