/-
The rules of primitives: results are good types; they grow with the operands' types (plain; chapter 21).
-/
import Derived.Test.YtnpkmimbnjnicaaGreatDoorRl2
set_option linter.unusedSimpArgs false
set_option linter.unusedVariables false
namespace Go.Proofs.YtnpkmimbnjnicaaGreatDoor
namespace Pr
open Go Go.RowKit En
open Lt
structure TyL (us : List Int) (t : Ty) : Prop where
  l0 : lab us t.a0
  l1 : lab us t.a1
  ld : lab us t.d
  u0 : leI us t.a0 t.d = true
  u1 : leI us t.a1 t.d = true
theorem tyL_good {us : List Int} (h : Lt us) {t : Ty} (hg : goodT us t = 0) : TyL us t := by
  obtain ⟨_, hr, h1, h2, h3, h4⟩ := good_of hg
  have l0 := labB_iff.1 h1
  have l1 := labB_iff.1 h2
  have ld := labB_iff.1 h3
  have bl := bot_le h ld
  unfold goodR at h4
  rcases hr with e | e | e <;> rw [e] at h4
  · cases e0 : (botI us == t.a0) <;> rw [e0] at h4
    · simp at h4
    · cases e1 : (botI us == t.a1) <;> rw [e1] at h4
      · simp at h4
      · have e0 := eq_of_beq e0
        have e1 := eq_of_beq e1
        exact ⟨l0, l1, ld, by rw [← e0]; exact bl, by rw [← e1]; exact bl⟩
  · cases e1 : (botI us == t.a1) <;> rw [e1] at h4
    · simp at h4
    · cases e2 : leI us t.a0 t.d <;> rw [e2] at h4
      · simp at h4
      · have e1 := eq_of_beq e1
        exact ⟨l0, l1, ld, e2, by rw [← e1]; exact bl⟩
  · cases e2 : leI us t.a0 t.d <;> rw [e2] at h4
    · simp at h4
    · cases e3 : leI us t.a1 t.d <;> rw [e3] at h4
      · simp at h4
      · exact ⟨l0, l1, ld, e2, e3⟩
theorem tyL_bot {us : List Int} (h : Lt us) : TyL us (botT us) := by
  have hb := (botI_spec h).1
  exact ⟨hb, hb, hb, leI_refl h hb, leI_refl h hb⟩
def flat (m : Nat) : Prop := m = 3 ∨ m = 8 ∨ m = 12
structure MrL (us : List Int) (m : Nat) (v : MR) : Prop where
  l0 : lab us v.x0
  ld : lab us v.dt
  le : lab us v.er
  lc : lab us v.co
  u0 : leI us v.x0 v.dt = true
  l1 : ¬ flat m → lab us v.x1 ∧ leI us v.x1 v.dt = true
theorem mr_good {us : List Int} (h : Lt us) {m : Nat} {t u : Ty} (ht : TyL us t) (hu : TyL us u) : MrL us m (mrV us m t u) := by
  have hb := (botI_spec h).1
  have J := fun {a b : Int} (ha : lab us a) (hb : lab us b) => (jI_spec h ha hb).1
  have D := J ht.ld hu.ld
  have S := J ht.l0 ht.l1
  have R := J hu.l0 hu.l1
  have X := J S R
  have dD : leI us t.d (jI us t.d u.d) = true := leI_l h ht.ld hu.ld
  have fD : leI us u.d (jI us t.d u.d) = true := leI_r h ht.ld hu.ld
  have T := fun {a b c : Int} (ha : lab us a) (hb : lab us b) (hc : lab us c) (p : leI us a b = true) (q : leI us b c = true) => leI_trans h ha hb hc p q
  have lub := fun {a b c : Int} (ha : lab us a) (hb : lab us b) (hc : lab us c) (p : leI us a c = true) (q : leI us b c = true) => show leI us (jI us a b) c = true by rw [leI_lub h ha hb hc, p, q]; rfl
  have a0D := T ht.l0 ht.ld D ht.u0 dD
  have a1D := T ht.l1 ht.ld D ht.u1 dD
  have b0D := T hu.l0 hu.ld D hu.u0 fD
  have b1D := T hu.l1 hu.ld D hu.u1 fD
  have sD := lub ht.l0 ht.l1 D a0D a1D
  have rD := lub hu.l0 hu.l1 D b0D b1D
  have xD := lub S R D sD rD
  have sX := leI_l h S R
  have rX := leI_r h S R
  have a0X := T ht.l0 S X (leI_l h ht.l0 ht.l1) sX
  have a1X := T ht.l1 S X (leI_r h ht.l0 ht.l1) sX
  have bX := bot_le h X
  have bD := bot_le h D
  have XD := J X ht.ld
  have dR := J ht.ld R
  have dRD := lub ht.ld R D dD rD
  have c0 := J ht.l0 hu.l0
  have c1 := J ht.l1 hu.l1
  have c0D := lub ht.l0 hu.l0 D a0D b0D
  have c1D := lub ht.l1 hu.l1 D a1D b1D
  unfold mrV mres axX
  match m with
  | 0 => exact ⟨ht.l0, D, D, X, a0D, fun _ => ⟨ht.l1, a1D⟩⟩
  | 1 => exact ⟨ht.l0, D, hb, X, a0D, fun _ => ⟨ht.l1, a1D⟩⟩
  | 2 => exact ⟨hb, X, hb, X, bX, fun _ => ⟨hb, bX⟩⟩
  | 3 => exact ⟨X, D, hb, X, xD, fun h => absurd (.inl rfl) h⟩
  | 4 => exact ⟨ht.l1, D, hb, X, a1D, fun _ => ⟨ht.l0, a0D⟩⟩
  | 5 => exact ⟨ht.ld, D, ht.ld, XD, dD, fun _ => ⟨ht.ld, dD⟩⟩
  | 6 => exact ⟨ht.l0, D, X, X, a0D, fun _ => ⟨ht.l1, a1D⟩⟩
  | 7 => exact ⟨ht.l0, X, hb, X, a0X, fun _ => ⟨ht.l1, a1X⟩⟩
  | 8 => exact ⟨dR, D, hb, X, dRD, fun h => absurd (.inr (.inl rfl)) h⟩
  | 9 => exact ⟨ht.ld, D, dR, XD, dD, fun _ => ⟨ht.ld, dD⟩⟩
  | 10 => exact ⟨c0, D, X, X, c0D, fun _ => ⟨c1, c1D⟩⟩
  | 11 => exact ⟨hu.l0, D, J S hu.ld, X, b0D, fun _ => ⟨hu.l1, b1D⟩⟩
  | 12 => exact ⟨dR, D, X, X, dRD, fun h => absurd (.inr (.inr rfl)) h⟩
  | 13 =>
    cases h1 : decide (u.r < t.r)
    · cases h2 : decide (t.r < u.r)
      · cases h3 : decide (0 < t.r)
        · exact ⟨c0, D, hb, X, c0D, fun _ => ⟨c1, c1D⟩⟩
        · exact ⟨c0, D, X, X, c0D, fun _ => ⟨c1, c1D⟩⟩
      · exact ⟨hu.l0, D, hb, X, b0D, fun _ => ⟨hu.l1, b1D⟩⟩
    · exact ⟨ht.l0, D, hb, X, a0D, fun _ => ⟨ht.l1, a1D⟩⟩
  | m + 14 =>
    cases h1 : decide (u.r < t.r)
    · cases h2 : decide (t.r < u.r)
      · exact ⟨c0, D, D, X, c0D, fun _ => ⟨c1, c1D⟩⟩
      · exact ⟨hu.l0, D, D, X, b0D, fun _ => ⟨hu.l1, b1D⟩⟩
    · exact ⟨ht.l0, D, D, X, a0D, fun _ => ⟨ht.l1, a1D⟩⟩
end Pr
end Go.Proofs.YtnpkmimbnjnicaaGreatDoor
/-
A rule's type is good, its labels are labels; Public (plain; chapter 21).
-/
set_option linter.unusedSimpArgs false
set_option linter.unusedVariables false
namespace Go.Proofs.YtnpkmimbnjnicaaGreatDoor
namespace Pr
open Go Go.RowKit En
open Lt
theorem goodV_mk {us : List Int} {k r a0 a1 d : Int} (hk : k = 1 ∨ k = 2) (hr : r = 0 ∨ r = 1 ∨ r = 2) (h0 : lab us a0) (h1 : lab us a1) (hd : lab us d) (hg : goodR us r a0 a1 d = 0) : goodV us k r a0 a1 d = 0 := by
  have e1 : (bif k != 1 then k != 2 else false) = false := by rcases hk with rfl | rfl <;> rfl
  unfold goodV
  rw [e1, decide_eq_false (by omega : ¬ r < 0), decide_eq_false (by omega : ¬ 2 < r), labB_iff.2 h0, labB_iff.2 h1, labB_iff.2 hd]
  exact hg
structure RvL (us : List Int) (x : Rv) : Prop where
  good : goodV us x.k x.r x.a0 x.a1 x.d = 0
  le : lab us x.e
  lc : lab us x.c
theorem fin_good {us : List Int} (h : Lt us) {m : Nat} {kk rr : Int} {t u : Ty} (ht : TyL us t) (hu : TyL us u) (hk : kk = 1 ∨ kk = 2) (hr : 0 ≤ rr ∧ rr ≤ 2) (hf : flat m → rr = 1) : RvL us (finV us m kk rr t u) := by
  have M := mr_good h ht hu (m := m)
  have hb := (botI_spec h).1
  have hrr : rr = 0 ∨ rr = 1 ∨ rr = 2 := by omega
  unfold finV
  refine ⟨?_, M.le, M.lc⟩
  rcases hrr with rfl | rfl | rfl
  · refine goodV_mk hk (.inl rfl) hb hb M.ld ?_
    show goodR us 0 (botI us) (botI us) _ = 0
    unfold goodR
    rw [beq_self_eq_true, beq_self_eq_true]; rfl
  · refine goodV_mk hk (.inr (.inl rfl)) M.l0 hb M.ld ?_
    show goodR us 1 _ (botI us) _ = 0
    unfold goodR
    show (bif (botI us == botI us) then (bif leI us (mrV us m t u).x0 (mrV us m t u).dt then (0 : Int) else 25) else 6) = 0
    rw [beq_self_eq_true, M.u0]; rfl
  · obtain ⟨l1, u1⟩ := M.l1 fun hfl => absurd (hf hfl) (by decide)
    refine goodV_mk hk (.inr (.inr rfl)) M.l0 l1 M.ld ?_
    show goodR us 2 _ _ _ = 0
    unfold goodR
    show (bif leI us (mrV us m t u).x0 (mrV us m t u).dt then (bif leI us (mrV us m t u).x1 (mrV us m t u).dt then (0 : Int) else 25) else 25) = 0
    rw [M.u0, u1]; rfl
theorem flat_fin : ∀ i : Fin 41, (mcd (i.val : Int) = 3 ∨ mcd (i.val : Int) = 8 ∨ mcd (i.val : Int) = 12) → (i.val : Int) = 5 ∨ (i.val : Int) = 33 ∨ (i.val : Int) = 34 ∨ (i.val : Int) = 40 := by decide +kernel
theorem flat_p {p : Int} (h1 : 1 ≤ p) (h2 : p ≤ 40) (h : flat (mcd p)) : p = 5 ∨ p = 33 ∨ p = 34 ∨ p = 40 := by
  have := flat_fin ⟨p.toNat, by omega⟩
  have e : ((p.toNat : Nat) : Int) = p := Int.toNat_of_nonneg (by omega)
  simp only [e] at this
  exact this h
theorem one_good {us : List Int} (h : Lt us) {p : Int} {t : Ty} (hg : goodT us t = 0) (he : (fitsV p [t.k] [t.r]).2.2 = 0) : RvL us (finV us (mcd p) (fitsV p [t.k] [t.r]).1 (fitsV p [t.k] [t.r]).2.1 t (botT us)) := by
  have hrg := fits_rng (p := p) (ks := [t.k]) (rs := [t.r]) he
  have p14 : p ≤ 14 := by
    have := hrg.2.2
    simp only [List.length_cons, List.length_nil] at this
    split at this <;> omega
  obtain ⟨hk, hr⟩ := fShape1 (p := p) hrg.1 p14 t.k t.r (good_kind hg) he
  refine fin_good h (tyL_good h hg) (tyL_bot h) hk hr fun hf => rank_at1 ?_ he
  have := flat_p hrg.1 hrg.2.1 hf
  omega
theorem two_good {us : List Int} (h : Lt us) {p : Int} {t u : Ty} (hg : goodT us t = 0) (hu : goodT us u = 0) (he : (fitsV p [t.k, u.k] [t.r, u.r]).2.2 = 0) : RvL us (finV us (mcd p) (fitsV p [t.k, u.k] [t.r, u.r]).1 (fitsV p [t.k, u.k] [t.r, u.r]).2.1 t u) := by
  have hrg := fits_rng (p := p) (ks := [t.k, u.k]) (rs := [t.r, u.r]) he
  have p15 : 15 ≤ p := by
    have := hrg.2.2
    simp only [List.length_cons, List.length_nil] at this
    split at this <;> omega
  obtain ⟨hk, hr⟩ := fShape2 (p := p) p15 hrg.2.1 t.k u.k t.r u.r (good_kind hg) (good_kind hu) he
  refine fin_good h (tyL_good h hg) (tyL_good h hu) hk hr fun hf => rank_at2 ?_ he
  have := flat_p hrg.1 hrg.2.1 hf
  omega
theorem rul_good {ns : List ByteArray} {us : List Int} (hB : Bytes us) {p : Int} {n : Nat} {t : Nat → Ty} (h : ((rulV ns us p n t).err != 0) = false) : (chkV nmV ns us).2 = 0 ∧ Lt us ∧ us.length = ns.length ∧ RvL us (rulV ns us p n t) := by
  unfold rulV at h ⊢
  cases hn : decide (2 < (n : Int)) <;> rw [hn] at h
  · have hn2 := of_decide_eq_false hn
    cases hc : ((chkV nmV ns us).2 != 0) <;> rw [hc] at h
    · have h0 : (chkV nmV ns us).2 = 0 := by simpa using hc
      obtain ⟨l1, l2, _, _⟩ := lt_of_chk hB h0
      refine ⟨h0, l1, l2, ?_⟩
      match n, hn2 with
      | 0, _ =>
        have h : ((fitsV p [] []).2.2 != 0) = false := h
        rw [fits_none] at h; cases h
      | 1, _ =>
        have h : ((rul1 us p (t 0)).err != 0) = false := h
        show RvL us (rul1 us p (t 0))
        unfold rul1 at h ⊢
        cases hg0 : (goodT us (t 0) != 0) <;> rw [hg0] at h
        · cases he : ((fitsV p [(t 0).k] [(t 0).r]).2.2 != 0) <;> rw [he] at h
          · exact one_good l1 (by simpa using hg0) (by simpa using he)
          · simp only [cond_true, cond_false, rulZ] at h
            rw [he] at h; cases h
        · simp only [cond_true, rulZ] at h
          rw [hg0] at h; cases h
      | 2, _ =>
        have h : ((rul2 us p (t 0) (t 1)).err != 0) = false := h
        show RvL us (rul2 us p (t 0) (t 1))
        unfold rul2 at h ⊢
        cases hg0 : (goodT us (t 0) != 0) <;> rw [hg0] at h
        · cases hg1 : (goodT us (t 1) != 0) <;> rw [hg1] at h
          · cases he : ((fitsV p [(t 0).k, (t 1).k] [(t 0).r, (t 1).r]).2.2 != 0) <;> rw [he] at h
            · exact two_good l1 (by simpa using hg0) (by simpa using hg1) (by simpa using he)
            · simp only [cond_true, cond_false, rulZ] at h
              rw [he] at h; cases h
          · simp only [cond_true, cond_false, rulZ] at h
            rw [hg1] at h; cases h
        · simp only [cond_true, rulZ] at h
          rw [hg0] at h; cases h
      | n + 3, h => exact absurd h (by omega)
    · simp only [cond_true, cond_false, rulZ] at h
      rw [hc] at h; cases h
  · simp only [cond_true, rulZ] at h
    cases h
def pubV (ns : List ByteArray) (us : List Int) (x : Rv) (o : Int) : Bool × Int := bif x.err != 0 then (false, x.err) else bif labB us.length o then (leI us (jI us x.e x.c) o, 0) else (false, 7)
theorem aft_own {ns : List ByteArray} {us : List Int} (h : Lt us) (hc : (chkV nmV ns us).2 = 0) {x : Rv} (hx : RvL us x) : aftV ns us x.e x.k x.r x.a0 x.a1 x.d x.e x.c = (jI us x.e x.c, 0) := by
  unfold aftV
  rw [tckV_yes hc, hx.good]
  show aft2 us x.e x.e x.c = _
  unfold aft2
  rw [labB_iff.2 hx.le, labB_iff.2 hx.lc, jI_self h hx.le]; rfl
theorem ask_zero {ns : List ByteArray} {us : List Int} (hc : (chkV nmV ns us).2 = 0) (hl : us.length = ns.length) {a b : Int} (ha : lab us a) (hb : lab us b) : askV ns us [a, b] = 0 := by
  unfold askV
  have h1 := ha.1; have h2 := ha.2; have h3 := hb.1; have h4 := hb.2
  rw [hc, ← hl]
  simp only [List.any_cons, List.any_nil]
  rw [decide_eq_false (by omega : ¬ a < 0), decide_eq_false (by omega : ¬ b < 0), decide_eq_false (by omega : ¬ (us.length : Int) ≤ a), decide_eq_false (by omega : ¬ (us.length : Int) ≤ b)]; rfl
theorem leq_lab {ns : List ByteArray} {us : List Int} (hc : (chkV nmV ns us).2 = 0) (hl : us.length = ns.length) {a b : Int} (ha : lab us a) (hb : lab us b) : leqV ns us a b = leI us a b := by
  unfold leqV
  rw [ask_zero hc hl ha hb]; rfl
end Pr
end Go.Proofs.YtnpkmimbnjnicaaGreatDoor
