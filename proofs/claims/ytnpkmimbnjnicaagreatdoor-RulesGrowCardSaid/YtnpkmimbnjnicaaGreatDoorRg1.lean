/-
Rules grow with their types (plain; chapter 21).
-/
import Derived.Test.YtnpkmimbnjnicaaGreatDoorRl3
import Derived.Test.YtnpkmimbnjnicaaGreatDoorRl2
import Derived.Test.YtnpkmimbnjnicaaGreatDoorRr1
import Derived.Test.YtnpkmimbnjnicaaGreatDoorRo1
set_option linter.unusedSimpArgs false
set_option linter.unusedVariables false
namespace Go.Proofs.YtnpkmimbnjnicaaGreatDoor
namespace Pr
open Go Go.RowKit En
open Lt
structure TyLe (us : List Int) (t t' : Ty) : Prop where
  r : t'.r = t.r
  l0 : leI us t.a0 t'.a0 = true
  l1 : leI us t.a1 t'.a1 = true
  ld : leI us t.d t'.d = true
structure MrLe (us : List Int) (m : Nat) (v v' : MR) : Prop where
  x0 : leI us v.x0 v'.x0 = true
  x1 : ¬ flat m → leI us v.x1 v'.x1 = true
  dt : leI us v.dt v'.dt = true
  er : leI us v.er v'.er = true
  co : leI us v.co v'.co = true
theorem mr_mono {us : List Int} (h : Lt us) {m : Nat} {t u t' u' : Ty} (ht : TyL us t) (hu : TyL us u) (ht' : TyL us t') (hu' : TyL us u') (le : TyLe us t t') (le' : TyLe us u u') : MrLe us m (mrV us m t u) (mrV us m t' u') := by
  have hb := (botI_spec h).1
  have J := fun {a b : Int} (ha : lab us a) (hb : lab us b) => (jI_spec h ha hb).1
  have b := leI_refl h hb
  have S := J ht.l0 ht.l1
  have R := J hu.l0 hu.l1
  have S' := J ht'.l0 ht'.l1
  have R' := J hu'.l0 hu'.l1
  have X := J S R
  have X' := J S' R'
  have D := leI_mono h ht.ld hu.ld ht'.ld hu'.ld le.ld le'.ld
  have s := leI_mono h ht.l0 ht.l1 ht'.l0 ht'.l1 le.l0 le.l1
  have r := leI_mono h hu.l0 hu.l1 hu'.l0 hu'.l1 le'.l0 le'.l1
  have x := leI_mono h S R S' R' s r
  have xd := leI_mono h X ht.ld X' ht'.ld x le.ld
  have dr := leI_mono h ht.ld R ht'.ld R' le.ld r
  have c0 := leI_mono h ht.l0 hu.l0 ht'.l0 hu'.l0 le.l0 le'.l0
  have c1 := leI_mono h ht.l1 hu.l1 ht'.l1 hu'.l1 le.l1 le'.l1
  have sf := leI_mono h S hu.ld S' hu'.ld s le'.ld
  unfold mrV mres axX
  rw [le.r, le'.r]
  match m with
  | 0 => exact ⟨le.l0, fun _ => le.l1, D, D, x⟩
  | 1 => exact ⟨le.l0, fun _ => le.l1, D, b, x⟩
  | 2 => exact ⟨b, fun _ => b, x, b, x⟩
  | 3 => exact ⟨x, fun h => absurd (.inl rfl) h, D, b, x⟩
  | 4 => exact ⟨le.l1, fun _ => le.l0, D, b, x⟩
  | 5 => exact ⟨le.ld, fun _ => le.ld, D, le.ld, xd⟩
  | 6 => exact ⟨le.l0, fun _ => le.l1, D, x, x⟩
  | 7 => exact ⟨le.l0, fun _ => le.l1, x, b, x⟩
  | 8 => exact ⟨dr, fun h => absurd (.inr (.inl rfl)) h, D, b, x⟩
  | 9 => exact ⟨le.ld, fun _ => le.ld, D, dr, xd⟩
  | 10 => exact ⟨c0, fun _ => c1, D, x, x⟩
  | 11 => exact ⟨le'.l0, fun _ => le'.l1, D, sf, x⟩
  | 12 => exact ⟨dr, fun h => absurd (.inr (.inr rfl)) h, D, x, x⟩
  | 13 =>
    cases h1 : decide (u.r < t.r)
    · cases h2 : decide (t.r < u.r)
      · cases h3 : decide (0 < t.r)
        · exact ⟨c0, fun _ => c1, D, b, x⟩
        · exact ⟨c0, fun _ => c1, D, x, x⟩
      · exact ⟨le'.l0, fun _ => le'.l1, D, b, x⟩
    · exact ⟨le.l0, fun _ => le.l1, D, b, x⟩
  | m + 14 =>
    cases h1 : decide (u.r < t.r)
    · cases h2 : decide (t.r < u.r)
      · exact ⟨c0, fun _ => c1, D, D, x⟩
      · exact ⟨le'.l0, fun _ => le'.l1, D, D, x⟩
    · exact ⟨le.l0, fun _ => le.l1, D, D, x⟩
structure RvLe (us : List Int) (x y : Rv) : Prop where
  k : y.k = x.k
  r : y.r = x.r
  a0 : leI us x.a0 y.a0 = true
  a1 : leI us x.a1 y.a1 = true
  d : leI us x.d y.d = true
  e : leI us x.e y.e = true
  c : leI us x.c y.c = true
theorem fin_mono {us : List Int} (h : Lt us) {m : Nat} {kk rr : Int} {t u t' u' : Ty} (ht : TyL us t) (hu : TyL us u) (ht' : TyL us t') (hu' : TyL us u') (le : TyLe us t t') (le' : TyLe us u u') (hr : 0 ≤ rr ∧ rr ≤ 2) (hf : flat m → rr = 1) : RvLe us (finV us m kk rr t u) (finV us m kk rr t' u') := by
  have M := mr_mono h ht hu ht' hu' le le' (m := m)
  have b := leI_refl h (botI_spec h).1
  have hrr : rr = 0 ∨ rr = 1 ∨ rr = 2 := by omega
  unfold finV
  rcases hrr with rfl | rfl | rfl
  · exact ⟨rfl, rfl, b, b, M.dt, M.er, M.co⟩
  · exact ⟨rfl, rfl, M.x0, b, M.dt, M.er, M.co⟩
  · exact ⟨rfl, rfl, M.x0, M.x1 fun hfl => absurd (hf hfl) (by decide), M.dt, M.er, M.co⟩
def raT (us : List Int) (t : Ty) (l : Int) : Ty := ⟨t.k, t.r, rz0 us t.r t.a0 l, rz1 us t.r t.a1 l, jI us t.d l⟩
theorem ra_good {us : List Int} (h : Lt us) {t : Ty} {l : Int} (hl : lab us l) (hg : goodT us t = 0) : goodT us (raT us t l) = 0 ∧ TyLe us t (raT us t l) := by
  obtain ⟨hk, hr, h0, h1, hd, hG⟩ := good_of hg
  have l0 := labB_iff.1 h0
  have l1 := labB_iff.1 h1
  have ld := labB_iff.1 hd
  have J := fun {a b : Int} (ha : lab us a) (hb : lab us b) => (jI_spec h ha hb).1
  have D := leI_l h ld hl
  have T := tyL_good h hg
  unfold goodR at hG
  have hr3 := hr
  rcases hr3 with e | e | e <;> rw [e] at hG
  · have e0 : rz0 us t.r t.a0 l = t.a0 := by unfold rz0; rw [e]; rfl
    have e1 : rz1 us t.r t.a1 l = t.a1 := by unfold rz1; rw [e]; rfl
    refine ⟨?_, rfl, ?_, ?_, D⟩
    · unfold goodT raT
      simp only [e0, e1]
      refine goodV_mk hk hr l0 l1 (J ld hl) ?_
      unfold goodR
      rw [e]
      cases c0 : (botI us == t.a0) <;> rw [c0] at hG
      · simp at hG
      · cases c1 : (botI us == t.a1) <;> rw [c1] at hG
        · simp at hG
        · rfl
    · show leI us t.a0 (rz0 us t.r t.a0 l) = true
      rw [e0]; exact leI_refl h l0
    · show leI us t.a1 (rz1 us t.r t.a1 l) = true
      rw [e1]; exact leI_refl h l1
  · have e0 : rz0 us t.r t.a0 l = jI us t.a0 l := by unfold rz0; rw [e]; rfl
    have e1 : rz1 us t.r t.a1 l = t.a1 := by unfold rz1; rw [e]; rfl
    refine ⟨?_, rfl, ?_, ?_, D⟩
    · unfold goodT raT
      simp only [e0, e1]
      refine goodV_mk hk hr (J l0 hl) l1 (J ld hl) ?_
      unfold goodR
      rw [e, leI_mono h l0 hl ld hl T.u0 (leI_refl h hl)]
      cases c1 : (botI us == t.a1) <;> rw [c1] at hG
      · simp at hG
      · rfl
    · show leI us t.a0 (rz0 us t.r t.a0 l) = true
      rw [e0]; exact leI_l h l0 hl
    · show leI us t.a1 (rz1 us t.r t.a1 l) = true
      rw [e1]; exact leI_refl h l1
  · have e0 : rz0 us t.r t.a0 l = jI us t.a0 l := by unfold rz0; rw [e]; rfl
    have e1 : rz1 us t.r t.a1 l = jI us t.a1 l := by unfold rz1; rw [e]; rfl
    refine ⟨?_, rfl, ?_, ?_, D⟩
    · unfold goodT raT
      simp only [e0, e1]
      refine goodV_mk hk hr (J l0 hl) (J l1 hl) (J ld hl) ?_
      unfold goodR
      rw [e, leI_mono h l0 hl ld hl T.u0 (leI_refl h hl), leI_mono h l1 hl ld hl T.u1 (leI_refl h hl)]; rfl
    · show leI us t.a0 (rz0 us t.r t.a0 l) = true
      rw [e0]; exact leI_l h l0 hl
    · show leI us t.a1 (rz1 us t.r t.a1 l) = true
      rw [e1]; exact leI_l h l1 hl
theorem one_mono {us : List Int} (h : Lt us) {p l : Int} {t : Ty} (hl : lab us l) (hg : goodT us t = 0) (he : (fitsV p [t.k] [t.r]).2.2 = 0) : RvLe us (rul1 us p t) (rul1 us p (raT us t l)) ∧ (rul1 us p (raT us t l)).err = 0 ∧ RvL us (rul1 us p (raT us t l)) := by
  obtain ⟨g', le⟩ := ra_good h hl hg
  have e1 : rul1 us p t = finV us (mcd p) (fitsV p [t.k] [t.r]).1 (fitsV p [t.k] [t.r]).2.1 t (botT us) := by
    unfold rul1; rw [hg, he]; rfl
  have e2 : rul1 us p (raT us t l) = finV us (mcd p) (fitsV p [t.k] [t.r]).1 (fitsV p [t.k] [t.r]).2.1 (raT us t l) (botT us) := by
    unfold rul1; rw [g']; show (bif ((fitsV p [t.k] [t.r]).2.2 != 0) then _ else _) = _; rw [he]; rfl
  rw [e1, e2]
  have hrg := fits_rng (p := p) (ks := [t.k]) (rs := [t.r]) he
  have p14 : p ≤ 14 := by
    have := hrg.2.2
    simp only [List.length_cons, List.length_nil] at this
    split at this <;> omega
  obtain ⟨hk, hr⟩ := fShape1 (p := p) hrg.1 p14 t.k t.r (good_kind hg) he
  have hb := tyL_bot h
  have bb := leI_refl h (botI_spec h).1
  exact ⟨fin_mono h (tyL_good h hg) hb (tyL_good h g') hb le ⟨rfl, bb, bb, bb⟩ hr fun hf => rank_at1 (by have := flat_p hrg.1 hrg.2.1 hf; omega) he, rfl, one_good h (t := raT us t l) g' he⟩
theorem two_mono {us : List Int} (h : Lt us) {p l l' : Int} {t u : Ty} (hl : lab us l) (hl' : lab us l') (hg : goodT us t = 0) (hu : goodT us u = 0) (he : (fitsV p [t.k, u.k] [t.r, u.r]).2.2 = 0) : RvLe us (rul2 us p t u) (rul2 us p (raT us t l) (raT us u l')) ∧ (rul2 us p (raT us t l) (raT us u l')).err = 0 ∧ RvL us (rul2 us p (raT us t l) (raT us u l')) := by
  obtain ⟨g', le⟩ := ra_good h hl hg
  obtain ⟨u', le'⟩ := ra_good h hl' hu
  have e1 : rul2 us p t u = finV us (mcd p) (fitsV p [t.k, u.k] [t.r, u.r]).1 (fitsV p [t.k, u.k] [t.r, u.r]).2.1 t u := by
    unfold rul2; rw [hg, hu, he]; rfl
  have e2 : rul2 us p (raT us t l) (raT us u l') = finV us (mcd p) (fitsV p [t.k, u.k] [t.r, u.r]).1 (fitsV p [t.k, u.k] [t.r, u.r]).2.1 (raT us t l) (raT us u l') := by
    unfold rul2; rw [g', u']; show (bif ((fitsV p [t.k, u.k] [t.r, u.r]).2.2 != 0) then _ else _) = _; rw [he]; rfl
  rw [e1, e2]
  have hrg := fits_rng (p := p) (ks := [t.k, u.k]) (rs := [t.r, u.r]) he
  have p15 : 15 ≤ p := by
    have := hrg.2.2
    simp only [List.length_cons, List.length_nil] at this
    split at this <;> omega
  obtain ⟨hk, hr⟩ := fShape2 (p := p) p15 hrg.2.1 t.k u.k t.r u.r (good_kind hg) (good_kind hu) he
  exact ⟨fin_mono h (tyL_good h hg) (tyL_good h hu) (tyL_good h g') (tyL_good h u') le le' hr fun hf => rank_at2 (by have := flat_p hrg.1 hrg.2.1 hf; omega) he, rfl, two_good h (t := raT us t l) (u := raT us u l') g' u' he⟩
theorem wth_le {us : List Int} (h : Lt us) {x y : Rv} (hx : RvL us x) (hy : RvL us y) (le : RvLe us x y) : wthV us x.a0 x.a1 x.d y.a0 y.a1 y.d = true := by
  obtain ⟨_, _, a0, a1, ad, _⟩ := good_of hx.good
  obtain ⟨_, _, b0, b1, bd, _⟩ := good_of hy.good
  unfold wthV
  rw [(leI_jI h (labB_iff.1 a0) (labB_iff.1 b0)).1 le.a0, (leI_jI h (labB_iff.1 a1) (labB_iff.1 b1)).1 le.a1, (leI_jI h (labB_iff.1 ad) (labB_iff.1 bd)).1 le.d, beq_self_eq_true, beq_self_eq_true, beq_self_eq_true]; rfl
end Pr
end Go.Proofs.YtnpkmimbnjnicaaGreatDoor
/-
The walk of RulesGrow (chapter 21).
-/
set_option linter.unusedSimpArgs false
set_option linter.unusedVariables false
namespace Go.Proofs.YtnpkmimbnjnicaaGreatDoor
namespace Pr
open Go Go.RowKit En
open Lt
theorem rul1_ok {us : List Int} {p : Int} {t : Ty} (h : (rul1 us p t).err = 0) : goodT us t = 0 ∧ (fitsV p [t.k] [t.r]).2.2 = 0 := by
  unfold rul1 at h
  cases hg0 : (goodT us t != 0) <;> rw [hg0] at h
  · cases he : ((fitsV p [t.k] [t.r]).2.2 != 0) <;> rw [he] at h
    · exact ⟨by simpa using hg0, by simpa using he⟩
    · have h : (fitsV p [t.k] [t.r]).2.2 = 0 := h
      rw [h] at he; cases he
  · have h : goodT us t = 0 := h
    rw [h] at hg0; cases hg0
theorem rul2_ok {us : List Int} {p : Int} {t u : Ty} (h : (rul2 us p t u).err = 0) : goodT us t = 0 ∧ goodT us u = 0 ∧ (fitsV p [t.k, u.k] [t.r, u.r]).2.2 = 0 := by
  unfold rul2 at h
  cases hg0 : (goodT us t != 0) <;> rw [hg0] at h
  · cases hg1 : (goodT us u != 0) <;> rw [hg1] at h
    · cases he : ((fitsV p [t.k, u.k] [t.r, u.r]).2.2 != 0) <;> rw [he] at h
      · exact ⟨by simpa using hg0, by simpa using hg1, by simpa using he⟩
      · have h : (fitsV p [t.k, u.k] [t.r, u.r]).2.2 = 0 := h
        rw [h] at he; cases he
    · have h : goodT us u = 0 := h
      rw [h] at hg1; cases hg1
  · have h : goodT us t = 0 := h
    rw [h] at hg0; cases hg0
theorem rulW_yes {ns : List ByteArray} {us : List Int} {p : Int} {t u : Ty} (h : (chkV nmV ns us).2 = 0) : rulW ns us p t u = rul2 us p t u := by unfold rulW; rw [h]; rfl
theorem rulW1_yes {ns : List ByteArray} {us : List Int} {p : Int} {t : Ty} (h : (chkV nmV ns us).2 = 0) : rulW1 ns us p t = rul1 us p t := by unfold rulW1; rw [h]; rfl
theorem tysG_v1 {D D' : Option Addr} {g g' : Nat} {e : TypeId} {k r a0 a1 d : Int} : tysG D 1 g (.rowV D' g' e 5 1 [.v (.int .i64 k), .v (.int .i64 r), .v (.int .i64 a0), .v (.int .i64 a1), .v (.int .i64 d)]) = (D = D' ∧ g = g') := by
  refine propext ⟨fun h => ⟨h.1, h.2.1⟩, fun h => ⟨h.1, h.2, rfl, rfl, fun i hi => ?_⟩⟩
  obtain rfl : i = 0 := by omega
  rfl
theorem tysG_v2 {D D' : Option Addr} {g g' : Nat} {e : TypeId} {k r a0 a1 d k' r' b0 b1 f : Int} : tysG D 2 g (.rowV D' g' e 5 2 [.v (.int .i64 k), .v (.int .i64 r), .v (.int .i64 a0), .v (.int .i64 a1), .v (.int .i64 d), .v (.int .i64 k'), .v (.int .i64 r'), .v (.int .i64 b0), .v (.int .i64 b1), .v (.int .i64 f)]) = (D = D' ∧ g = g') := by
  refine propext ⟨fun h => ⟨h.1, h.2.1⟩, fun h => ⟨h.1, h.2, rfl, rfl, fun i hi => ?_⟩⟩
  have : i = 0 ∨ i = 1 := by omega
  rcases this with rfl | rfl <;> rfl
theorem unTy_v0 {D : Option Addr} {g n : Nat} {e : TypeId} {k r a0 a1 d : Int} {cs : List SV} : unTy (tysC 0 (.rowV D g e 5 n (.v (.int .i64 k) :: .v (.int .i64 r) :: .v (.int .i64 a0) :: .v (.int .i64 a1) :: .v (.int .i64 d) :: cs)) 0) = ⟨k, r, a0, a1, d⟩ := by cases cs <;> rfl
theorem unTy_v1 {D : Option Addr} {g : Nat} {e : TypeId} {k r a0 a1 d k' r' b0 b1 f : Int} : unTy (tysC 0 (.rowV D g e 5 2 [.v (.int .i64 k), .v (.int .i64 r), .v (.int .i64 a0), .v (.int .i64 a1), .v (.int .i64 d), .v (.int .i64 k'), .v (.int .i64 r'), .v (.int .i64 b0), .v (.int .i64 b1), .v (.int .i64 f)]) 1) = ⟨k', r', b0, b1, f⟩ := (rfl)
theorem tysG_w {D D' : Option Addr} {q q' g g' : Nat} {t : Nat → Ty} : tysG D q g (.recs D' g' 5 q' fun i => [.v (.int .i64 (t i).k), .v (.int .i64 (t i).r), .v (.int .i64 (t i).a0), .v (.int .i64 (t i).a1), .v (.int .i64 (t i).d)]) = (D = D' ∧ g = g' ∧ q = q') := tysG_r
theorem unTy_w {D : Option Addr} {q g j : Nat} {t : Nat → Ty} : unTy (tysC 0 (.recs D g 5 q fun i => [.v (.int .i64 (t i).k), .v (.int .i64 (t i).r), .v (.int .i64 (t i).a0), .v (.int .i64 (t i).a1), .v (.int .i64 (t i).d)]) j) = t j := (rfl)
theorem tmod_lab {us : List Int} {x : Int} (h : Lt us) (hx : 0 ≤ x) : labB us.length (x.tmod us.length) = true := by
  have h0 := (botI_spec h).1
  have h1 := h0.1; have h2 := h0.2
  exact labB_iff.2 ⟨Int.tmod_nonneg _ hx, Int.tmod_lt_of_pos _ (by omega)⟩
def tlGw : List (TypeId × TI) := [tyInt, tyU8, tyBool, tyStr, tyErr, tyStrs, tyBytes, tyInts, tyLat, tyI2, tyTy, tyTys, tyRule, tyAppl, tyB2]
theorem tlGw_ok : TyAll Tryz.prog (lookT tlGw) := tyAll_p tyInt_ok <| tyAll_p tyU8_ok <| tyAll_p tyBool_ok <| tyAll_p tyStr_ok <| tyAll_p tyErr_ok <| tyAll_p tyStrs_ok <| tyAll_p tyBytes_ok <| tyAll_p tyInts_ok <| tyAll_p tyLat_ok <| tyAll_p tyI2_ok <| tyAll_p tyTy_ok <| tyAll_p tyTys_ok <| tyAll_p tyRule_ok <| tyAll_p tyAppl_ok <| tyAll_p tyB2_ok tyAll_nil
def glGw : List (FuncId × Spc) := [(13, spLrg), (12, spTrue), (16, spRule), (20, spRaise), (21, spWithin), (22, spRLeq), (23, spTyC)]
theorem glGw_ok : GOk Tryz.prog (lookG glGw) := lG_cons (by kernel_rfl) spLrg_ok <| lG_cons (by kernel_rfl) spShown21_ok <| lG_cons (by kernel_rfl) spRule_ok <| lG_cons (by kernel_rfl) spRaise_ok <| lG_cons (by kernel_rfl) spWithin_ok <| lG_cons (by kernel_rfl) spRLeq_ok <| lG_cons (by kernel_rfl) spTyC_ok lG_nil
set_option maxRecDepth 100000 in
set_option maxHeartbeats 16000000 in
theorem grow_walk (p x0 x1 : Int) (hx0 : 0 ≤ x0 ∧ x0 ≤ 255) (hx1 : 0 ≤ x1 ∧ x1 ≤ 255) (n : Nat) (t : Nat → Ty) (A B D : Option Addr) (c e g : Nat) (ns : List ByteArray) (us : List Int) (hB : Bytes us) (bn on cn ba oa ca : Nat) (h4 : 4 ≤ cn) (h3 : 3 ≤ ca) (w : World) (hg : allRd w.heap.size w (ruHp bn on cn ba oa ca A B D c e g ns us n t)) :
    Calls Tryz.prog 7 (dens [.agg [.g 1001 A ns.length c, .g 1002 B us.length e], .agg [.v (.int .i64 p), .g 1003 D n g], .agg [.v (.int .u8 x0), .v (.int .u8 x1)]]).toArray w fun e' w' => e' = .returned (.bool true) ∧ Below w.heap.size w w' := by
  have hgd := rul_good (ns := ns) hB (p := p) (n := n) (t := t)
  refine calls_go (args := [.agg [.g 1001 A ns.length c, .g 1002 B us.length e], .agg [.v (.int .i64 p), .g 1003 D n g], .agg [.v (.int .u8 x0), .v (.int .u8 x1)]]) (hp := ruHp bn on cn ba oa ca A B D c e g ns us n t) (nx := 2000) (n := 1500) (U := [(10, 3), (1000000, 19)]) (V := []) (tl := tlGw) (gl := glGw) (post := fun s' ys => ys = [.v (.bool true)])
    followP tlGw_ok glGw_ok Tryz.func7 rfl (by kernel_rfl) (Nat.le_of_ble_eq_true (by kernel_rfl)) (by kernel_rfl) (by kernel_rfl) (hh_list hg) (free_list (by simp [allLt, ruHp, gHp])) ?_ ?_
  · rintro s ys w' rfl H
    exact ⟨rfl, H.below⟩
  intro L F T G nd va hE
  obtain ⟨hL, hF, hs, hv, hT, hG, hR, hI, hJ, hW⟩ := hE
  rw [Tryz.results7] at hF
  simp (maxSteps := 1000000) only [En.nN, En.E, En.evsC, List.map_cons, List.map_nil, Nat.reduceBEq, Nat.reduceAdd, Nat.reduceMul, Nat.reduceEqDiff, Nat.reduceLeDiff, Nat.reduceLT, ne_eq, reduceCtorEq, Int.reduceBEq, Int.reduceBNe, Int.reduceAdd, Int.reduceSub, Int.reduceMul, Int.reduceTDiv, Int.reduceTMod, Int.reduceNeg, En.bitN, Nat.testBit, Nat.reduceShiftRight, Nat.reduceShiftLeft, Nat.reduceAnd, Nat.reduceOr, Nat.reduceBNe, Int.reduceToNat, Nat.reduceSub, Int.reduceLE, Int.reduceLT] at hv
  simp only [En.at_nil, En.at_cons, En.ag_nil, En.ag_cons, and_true, tlGw, glGw, tyInt, tyU8, tyBool, tyStr, tyErr, tyStrs, tyBytes, tyInts, tyLat, tyI2, tyTy, tyTys, tyRule, tyAppl, tyB2] at hT hG
  cases hl : lrgV ns us
  · cases hn : decide ((2 : Int) < (n : Int))
    · cases he : ((rulV ns us p n t).err != 0)
      · obtain ⟨h0, l1, l2, RL⟩ := hgd he
        have e0 : (rulV ns us p n t).err = 0 := by simpa using he
        have hn2 := of_decide_eq_false hn
        have i1 : inr .i64 1 := by simp only [En.inr, En.lo, En.hi]; omega
        have i2 : inr .i64 2 := by simp only [En.inr, En.lo, En.hi]; omega
        have hb := (botI_spec l1).1
        have hb1 := hb.1; have hb2 := hb.2
        have n0 : ((ns.length : Int) == 0) = false := by
          have : (ns.length : Int) ≠ 0 := by omega
          simpa using this
        have ix0 : inr .i64 x0 := by simp only [En.inr, En.lo, En.hi]; omega
        have ix1 : inr .i64 x1 := by simp only [En.inr, En.lo, En.hi]; omega
        have n1 : ¬ (ns.length : Int) = 0 := by omega
        have t0 := tmod_lab l1 hx0.1
        have t1 := tmod_lab l1 hx1.1
        rw [l2] at t0 t1
        match n, hn2, hg with
        | 0, _, hg =>
          have e0 : (rulV ns us p 0 t).err = 0 := e0
          have hcz : ((chkV nmV ns us).2 != 0) = false := by rw [h0]; rfl
          have e0 : (bif (chkV nmV ns us).2 != 0 then rulZ (chkV nmV ns us).2 else rulZ (fitsV p [] []).2.2).err = 0 := e0
          rw [hcz] at e0
          have e0 : (fitsV p [] []).2.2 = 0 := e0
          have := fits_none (p := p)
          rw [e0] at this; cases this
        | 1, _, hg =>
          have hD : ¬ D = none := by
            obtain ⟨b, o, e, _⟩ := hg.2.2.1.1.1.2 (by decide)
            rw [e]; exact nofun
          have hx : rulV ns us p 1 t = rul1 us p (t 0) := rulW1_yes h0
          rw [hx] at e0 RL
          obtain ⟨g0, f0⟩ := rul1_ok e0
          have tl := t0
          rw [← l2] at tl
          obtain ⟨le, ey, RY⟩ := one_mono l1 (labB_iff.1 tl) g0 f0
          rw [l2] at le ey RY
          have hyy : rulW1 ns us p ⟨(t 0).k, (t 0).r, rz0 us (t 0).r (t 0).a0 (x0.tmod ns.length), rz1 us (t 0).r (t 0).a1 (x0.tmod ns.length), jI us (t 0).d (x0.tmod ns.length)⟩ = rul1 us p (raT us (t 0) (x0.tmod ns.length)) := rulW1_yes h0
          have hxx : rulW1 ns us p (t 0) = rul1 us p (t 0) := rulW1_yes h0
          generalize rul1 us p (t 0) = x at e0 RL le hxx
          generalize rul1 us p (raT us (t 0) (x0.tmod ns.length)) = y at le ey RY hyy
          have hw := wth_le l1 RL RY le
          have q1 := leq_lab h0 l2 RL.le RY.le
          have a1 := ask_zero h0 l2 RL.le RY.le
          have q2 := leq_lab h0 l2 RL.lc RY.lc
          have a2 := ask_zero h0 l2 RL.lc RY.lc
          rw [le.e] at q1
          rw [le.c] at q2
          have gx := RL.good
          have gy := RY.good
          rw [le.k, le.r] at gy
          have tk := tckV_yes (k := x.k) (r := x.r) (a0 := x.a0) (a1 := x.a1) (d := x.d) h0
          rw [gx] at tk
          have gv0 : goodV us (t 0).k (t 0).r (t 0).a0 (t 0).a1 (t 0).d = 0 := g0
          have yk := le.k
          have yr := le.r
          simp (maxSteps := 10000000) only [En.E, En.evsC, List.map_cons, List.map_nil, Nat.reduceBEq, Nat.reduceAdd, Nat.reduceMul, Nat.reduceEqDiff, Nat.reduceLeDiff, Nat.reduceLT, ne_eq, reduceCtorEq, Int.reduceBEq, Int.reduceBNe, Int.reduceAdd, Int.reduceSub, Int.reduceMul, Int.reduceTDiv, Int.reduceTMod, Int.reduceNeg, En.bitN, Nat.testBit, Nat.reduceShiftRight, Nat.reduceShiftLeft, Nat.reduceAnd, Nat.reduceOr, Nat.reduceBNe, Int.reduceToNat, Nat.reduceSub, Int.reduceLE, Int.reduceLT, En.vV, hs, hv, hT, hG, hF, ruHp, gHp, tyC, h4, h3, globR_q, latR_q, latN_q, latU_q, hB, spLrg_q, hl, spTrue_q, spRule_q, tysP_g, tysQ_g, tysT_g, tysG_w, unTy_w, tysG_v1, unTy_v0, rulV_1, hxx, hyy, rvS, ruS, tyS, e0, ey, n0, n1, ix0, ix1, i1, i2, Int.cast_ofNat_Int, spRaise_q, h0, gv0, l2, t0, hD, not_false_eq_true, yk, yr, spWithin_q, gx, gy, hw, spRLeq_q, q1, a1, q2, a2, spTyC_q, tk, and_self]
        | 2, _, hg =>
          have hD : ¬ D = none := by
            obtain ⟨b, o, e, _⟩ := hg.2.2.1.1.1.2 (by decide)
            rw [e]; exact nofun
          have hx : rulV ns us p 2 t = rul2 us p (t 0) (t 1) := rulW_yes h0
          rw [hx] at e0 RL
          obtain ⟨g0, g1, f0⟩ := rul2_ok e0
          have tl := t0
          have tl' := t1
          rw [← l2] at tl tl'
          obtain ⟨le, ey, RY⟩ := two_mono l1 (labB_iff.1 tl) (labB_iff.1 tl') g0 g1 f0
          rw [l2] at le ey RY
          have hyy : rulW ns us p ⟨(t 0).k, (t 0).r, rz0 us (t 0).r (t 0).a0 (x0.tmod ns.length), rz1 us (t 0).r (t 0).a1 (x0.tmod ns.length), jI us (t 0).d (x0.tmod ns.length)⟩ ⟨(t 1).k, (t 1).r, rz0 us (t 1).r (t 1).a0 (x1.tmod ns.length), rz1 us (t 1).r (t 1).a1 (x1.tmod ns.length), jI us (t 1).d (x1.tmod ns.length)⟩ = rul2 us p (raT us (t 0) (x0.tmod ns.length)) (raT us (t 1) (x1.tmod ns.length)) := rulW_yes h0
          have hxx : rulW ns us p (t 0) (t 1) = rul2 us p (t 0) (t 1) := rulW_yes h0
          generalize rul2 us p (t 0) (t 1) = x at e0 RL le hxx
          generalize rul2 us p (raT us (t 0) (x0.tmod ns.length)) (raT us (t 1) (x1.tmod ns.length)) = y at le ey RY hyy
          have hw := wth_le l1 RL RY le
          have q1 := leq_lab h0 l2 RL.le RY.le
          have a1 := ask_zero h0 l2 RL.le RY.le
          have q2 := leq_lab h0 l2 RL.lc RY.lc
          have a2 := ask_zero h0 l2 RL.lc RY.lc
          rw [le.e] at q1
          rw [le.c] at q2
          have gx := RL.good
          have gy := RY.good
          rw [le.k, le.r] at gy
          have tk := tckV_yes (k := x.k) (r := x.r) (a0 := x.a0) (a1 := x.a1) (d := x.d) h0
          rw [gx] at tk
          have gv0 : goodV us (t 0).k (t 0).r (t 0).a0 (t 0).a1 (t 0).d = 0 := g0
          have gv1 : goodV us (t 1).k (t 1).r (t 1).a0 (t 1).a1 (t 1).d = 0 := g1
          have yk := le.k
          have yr := le.r
          simp (maxSteps := 10000000) only [En.E, En.evsC, List.map_cons, List.map_nil, Nat.reduceBEq, Nat.reduceAdd, Nat.reduceMul, Nat.reduceEqDiff, Nat.reduceLeDiff, Nat.reduceLT, ne_eq, reduceCtorEq, Int.reduceBEq, Int.reduceBNe, Int.reduceAdd, Int.reduceSub, Int.reduceMul, Int.reduceTDiv, Int.reduceTMod, Int.reduceNeg, En.bitN, Nat.testBit, Nat.reduceShiftRight, Nat.reduceShiftLeft, Nat.reduceAnd, Nat.reduceOr, Nat.reduceBNe, Int.reduceToNat, Nat.reduceSub, Int.reduceLE, Int.reduceLT, En.vV, hs, hv, hT, hG, hF, ruHp, gHp, tyC, h4, h3, globR_q, latR_q, latN_q, latU_q, hB, spLrg_q, hl, spTrue_q, spRule_q, tysP_g, tysQ_g, tysT_g, tysG_w, unTy_w, tysG_v2, unTy_v0, unTy_v1, rulV_2, hxx, hyy, rvS, ruS, tyS, e0, ey, n0, n1, ix0, ix1, i1, i2, Int.cast_ofNat_Int, spRaise_q, h0, gv0, gv1, l2, t0, t1, hD, not_false_eq_true, yk, yr, spWithin_q, gx, gy, hw, spRLeq_q, q1, a1, q2, a2, spTyC_q, tk, and_self]
        | n + 3, h, _ => exact absurd h (by omega)
      · generalize hxx : rulV ns us p n t = x at he
        simp (maxSteps := 10000000) only [En.E, En.evsC, List.map_cons, List.map_nil, Nat.reduceBEq, Nat.reduceAdd, Nat.reduceMul, Nat.reduceEqDiff, Nat.reduceLeDiff, Nat.reduceLT, ne_eq, reduceCtorEq, Int.reduceBEq, Int.reduceBNe, Int.reduceAdd, Int.reduceSub, Int.reduceMul, Int.reduceTDiv, Int.reduceTMod, Int.reduceNeg, En.bitN, Nat.testBit, Nat.reduceShiftRight, Nat.reduceShiftLeft, Nat.reduceAnd, Nat.reduceOr, Nat.reduceBNe, Int.reduceToNat, Nat.reduceSub, Int.reduceLE, Int.reduceLT, En.vV, hs, hv, hT, hG, hF, ruHp, gHp, h4, h3, globR_q, latR_q, latN_q, latU_q, hB, spLrg_q, hl, hn, spTrue_q, spRule_q, tysP_g, tysQ_g, tysT_g, tysG_r, tysC_r, hxx, rvS, ruS, he, and_self]
    · simp (maxSteps := 10000000) only [En.E, En.evsC, List.map_cons, List.map_nil, Nat.reduceBEq, Nat.reduceAdd, Nat.reduceMul, Nat.reduceEqDiff, Nat.reduceLeDiff, Nat.reduceLT, ne_eq, reduceCtorEq, Int.reduceBEq, Int.reduceBNe, Int.reduceAdd, Int.reduceSub, Int.reduceMul, Int.reduceTDiv, Int.reduceTMod, Int.reduceNeg, En.bitN, Nat.testBit, Nat.reduceShiftRight, Nat.reduceShiftLeft, Nat.reduceAnd, Nat.reduceOr, Nat.reduceBNe, Int.reduceToNat, Nat.reduceSub, Int.reduceLE, Int.reduceLT, En.vV, hs, hv, hT, hG, hF, ruHp, gHp, h4, h3, globR_q, latR_q, latN_q, latU_q, hB, spLrg_q, hl, hn, spTrue_q, and_self]
  · simp (maxSteps := 10000000) only [En.E, En.evsC, List.map_cons, List.map_nil, Nat.reduceBEq, Nat.reduceAdd, Nat.reduceMul, Nat.reduceEqDiff, Nat.reduceLeDiff, Nat.reduceLT, ne_eq, reduceCtorEq, Int.reduceBEq, Int.reduceBNe, Int.reduceAdd, Int.reduceSub, Int.reduceMul, Int.reduceTDiv, Int.reduceTMod, Int.reduceNeg, En.bitN, Nat.testBit, Nat.reduceShiftRight, Nat.reduceShiftLeft, Nat.reduceAnd, Nat.reduceOr, Nat.reduceBNe, Int.reduceToNat, Nat.reduceSub, Int.reduceLE, Int.reduceLT, En.vV, hs, hv, hT, hG, hF, ruHp, gHp, h4, h3, globR_q, latR_q, latN_q, latU_q, hB, spLrg_q, hl, spTrue_q, and_self]
end Pr
end Go.Proofs.YtnpkmimbnjnicaaGreatDoor
