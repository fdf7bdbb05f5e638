/-
What prims.Fits says, for the rules of types (chapters 12, 21).
-/
import Derived.Test.YtnpkmimbnjnicaaGreatDoorPa7
import Derived.Test.YtnpkmimbnjnicaaGreatDoorRl1
set_option linter.unusedSimpArgs false
set_option linter.unusedVariables false
namespace Go.Proofs.YtnpkmimbnjnicaaGreatDoor
namespace Pr
open Go Go.RowKit En
theorem knownIn {p : Int} (h1 : 1 ≤ p) (h2 : p ≤ 40) : known40 p = true := by unfold known40; simp; omega
theorem arOne {p : Int} (h1 : 1 ≤ p) (h2 : p ≤ 14) : arityOf p = 1 := by
  have hk := knownIn h1 (by omega : p ≤ 40)
  have := arE_val hk
  rw [show arE p = arityOf p from if_pos hk, if_pos h2] at this
  exact this
theorem arTwo {p : Int} (h1 : 15 ≤ p) (h2 : p ≤ 40) : arityOf p = 2 := by
  have hk := knownIn (p := p) (by omega) h2
  have := arE_val hk
  rw [show arE p = arityOf p from if_pos hk, if_neg (by omega)] at this
  exact this
theorem fitsOne {p : Int} (h1 : 1 ≤ p) (h2 : p ≤ 14) (k r : Int) : fitsV p [k] [r] = rFitsF p [k] [r] :=
  (fits_val (knownIn h1 (by omega)) (by rw [arOne h1 h2]; rfl) (by rw [arOne h1 h2]; rfl)).2.2
theorem fitsTwo {p : Int} (h1 : 15 ≤ p) (h2 : p ≤ 40) (k l r s : Int) : fitsV p [k, l] [r, s] = rFitsF p [k, l] [r, s] :=
  (fits_val (knownIn (by omega) h2) (by rw [arTwo h1 h2]; rfl) (by rw [arTwo h1 h2]; rfl)).2.2
theorem fits_rng {p : Int} {ks rs : List Int} (h : (fitsV p ks rs).2.2 = 0) : 1 ≤ p ∧ p ≤ 40 ∧ (ks.length : Int) = if p ≤ 14 then 1 else 2 := by
  unfold fitsV at h
  split at h
  · next hk =>
    obtain ⟨_, _, h1, h2⟩ := known_yes hk
    split at h
    · next ha =>
      have := arE_val hk
      rw [show arE p = arityOf p from if_pos hk] at this
      exact ⟨h1, h2, ha.1.trans this⟩
    · simp at h
  · simp at h
theorem fits_none {p : Int} : ((fitsV p [] []).2.2 != 0) = true := by
  cases h : ((fitsV p [] []).2.2 != 0)
  · have h0 : (fitsV p [] []).2.2 = 0 := by simpa using h
    have := (fits_rng h0).2.2
    split at this <;> simp at this
  · rfl
def fShape (v : Int × Int × Int) : Prop := v.2.2 = 0 → (v.1 = 1 ∨ v.1 = 2) ∧ 0 ≤ v.2.1 ∧ v.2.1 ≤ 2
theorem fShape_of {p : Int} {ks rs : List Int} (hk : rKind p ks = 1 ∨ rKind p ks = 2) (hr : rRanks p rs ≤ 2) : fShape (rFitsF p ks rs) := by
  unfold fShape rFitsF
  split
  · split
    · simp
    · next h => simp; omega
  · simp
theorem fShape1 {p : Int} (h1 : 1 ≤ p) (h2 : p ≤ 14) (k r : Int) (hk : k = 1 ∨ k = 2) : fShape (fitsV p [k] [r]) := by
  rw [fitsOne h1 h2]
  have hc : p = 1 ∨ p = 2 ∨ p = 3 ∨ p = 4 ∨ p = 5 ∨ p = 6 ∨ p = 7 ∨ p = 8 ∨ p = 9 ∨ p = 10 ∨ p = 11 ∨ p = 12 ∨ p = 13 ∨ p = 14 := by omega
  refine fShape_of ?_ ?_
  · rcases hc with rfl | rfl | rfl | rfl | rfl | rfl | rfl | rfl | rfl | rfl | rfl | rfl | rfl | rfl <;> simp [rKind, hk]
  · rcases hc with rfl | rfl | rfl | rfl | rfl | rfl | rfl | rfl | rfl | rfl | rfl | rfl | rfl | rfl <;> (simp [rRanks, rTab1, badR, pickRank, Bool.cond_eq_ite]; grind)
theorem fShape2 {p : Int} (h1 : 15 ≤ p) (h2 : p ≤ 40) (k l r s : Int) (hk : k = 1 ∨ k = 2) (hl : l = 1 ∨ l = 2) : fShape (fitsV p [k, l] [r, s]) := by
  rw [fitsTwo h1 h2]
  have hc : p = 15 ∨ p = 16 ∨ p = 17 ∨ p = 18 ∨ p = 19 ∨ p = 20 ∨ p = 21 ∨ p = 22 ∨ p = 23 ∨ p = 24 ∨ p = 25 ∨ p = 26 ∨ p = 27 ∨ p = 28 ∨ p = 29 ∨ p = 30 ∨ p = 31 ∨ p = 32 ∨ p = 33 ∨ p = 34 ∨ p = 35 ∨ p = 36 ∨ p = 37 ∨ p = 38 ∨ p = 39 ∨ p = 40 := by omega
  refine fShape_of ?_ ?_
  · rcases hc with rfl | rfl | rfl | rfl | rfl | rfl | rfl | rfl | rfl | rfl | rfl | rfl | rfl | rfl | rfl | rfl | rfl | rfl | rfl | rfl | rfl | rfl | rfl | rfl | rfl | rfl <;> simp [rKind, hk, hl]
  · rcases hc with rfl | rfl | rfl | rfl | rfl | rfl | rfl | rfl | rfl | rfl | rfl | rfl | rfl | rfl | rfl | rfl | rfl | rfl | rfl | rfl | rfl | rfl | rfl | rfl | rfl | rfl <;> (simp [rRanks, rTab2, badR, pickRank, Bool.cond_eq_ite]; grind)
theorem rank_at1 {p k r : Int} (hp : p = 5 ∨ p = 8) (h : (fitsV p [k] [r]).2.2 = 0) : (fitsV p [k] [r]).2.1 = 1 := by
  rw [fitsOne (by omega) (by omega)] at h ⊢
  rcases hp with rfl | rfl <;> (simp [rFitsF, rKinds, rInts, okK, rRanks, rTab1, badR, pickRank, rKind, Bool.cond_eq_ite] at h ⊢; grind)
theorem rank_at2 {p k l r s : Int} (hp : p = 33 ∨ p = 34 ∨ p = 35 ∨ p = 40) (h : (fitsV p [k, l] [r, s]).2.2 = 0) : (fitsV p [k, l] [r, s]).2.1 = 1 := by
  rw [fitsTwo (by omega) (by omega)] at h ⊢
  rcases hp with rfl | rfl | rfl | rfl <;> (simp [rFitsF, rKinds, rInts, okK, rRanks, rTab2, badR, pickRank, rKind, Bool.cond_eq_ite] at h ⊢; grind)
end Pr
end Go.Proofs.YtnpkmimbnjnicaaGreatDoor
/-
The table of rules (chapter 21).
-/
set_option linter.unusedSimpArgs false
set_option linter.unusedVariables false
namespace Go.Proofs.YtnpkmimbnjnicaaGreatDoor
namespace Pr
open Go Go.RowKit En
open Lt
def mcdL : List Nat := [0, 0, 0, 1, 2, 3, 1, 4, 5, 0, 6, 6, 7, 0, 1, 14, 14, 14, 14, 14, 13, 13, 13, 13, 13, 13, 13, 13, 13, 13, 13, 13, 13, 8, 8, 5, 9, 10, 11, 1, 12]
def mcd (p : Int) : Nat := mcdL.getD p.toNat 0
def fidL : List FuncId := [64, 65, 66, 67, 68, 69, 70, 71, 72, 73, 74, 75, 76, 77, 78]
def mfid (m : Nat) : FuncId := fidL.getD m 0
def tabS : List SV := .v .nilFunc :: (mcdL.drop 1).map fun m => .v (.func (.func (mfid m)) #[] #[])
set_option maxRecDepth 100000 in
set_option maxHeartbeats 4000000 in
theorem all_any (w : World) : Calls Tryz.prog 37 #[] w fun e w' => e = .returned (den (.agg tabS)) ∧ Below w.heap.size w w' := by
  refine calls_go (args := []) (hp := []) (nx := 1000) (n := 2000) (U := [(3, 19), (1000000, 3)]) (V := []) (tl := tlRu) (gl := gl0) (post := fun s ys => ys = [.agg tabS])
    followP tlRu_ok gl0_ok Tryz.func37 rfl (by kernel_rfl) (Nat.le_of_ble_eq_true (by kernel_rfl)) (by kernel_rfl) (by kernel_rfl) (hh_list trivial) (fun _ _ => rfl) ?_ ?_
  · rintro s ys w' rfl H
    exact ⟨rfl, H.below⟩
  intro L F T G nd va hE
  obtain ⟨hL, hF, hs, hv, hT, hG, hR, hI, hJ, hW⟩ := hE
  rw [Tryz.results37] at hF
  simp (maxSteps := 1000000) only [En.nN, En.E, En.evsC, List.map_cons, List.map_nil, ne_eq, En.bitN, Nat.testBit, seval] at hv
  simp only [En.at_nil, En.at_cons, En.ag_nil, En.ag_cons, and_true, tlRu, gl0, tyInt, tyU8, tyBool, tyErr, tyStrs, tyBytes, tyInts, tyLat, tyI2, tyTy, tyTys, tyRule, tyTwo, tyLook, tyTab, tyRFn] at hT hG
  have i : ∀ n : Int, 0 ≤ n → n ≤ 100 → inr .i64 n := fun n _ _ => by simp only [En.inr, En.lo, En.hi]; omega
  simp (maxSteps := 10000000) only [En.E, En.evsC, List.map_cons, List.map_nil, ne_eq, En.bitN, Nat.testBit, seval, En.vV, hs, hv, hT, hG, hF, i 16 (by decide) (by decide), i 17 (by decide) (by decide), i 18 (by decide) (by decide), i 19 (by decide) (by decide), i 20 (by decide) (by decide), i 21 (by decide) (by decide), i 22 (by decide) (by decide), i 23 (by decide) (by decide), i 24 (by decide) (by decide), i 25 (by decide) (by decide), i 26 (by decide) (by decide), i 27 (by decide) (by decide), i 28 (by decide) (by decide), i 29 (by decide) (by decide), i 30 (by decide) (by decide), i 31 (by decide) (by decide), i 32 (by decide) (by decide), i 33 (by decide) (by decide)]
  rfl
def spAll : Spc
  | [], _, _ => .is (True) (.agg tabS)
  | _, _, _ => .bad
theorem spAll_q  {H : Nat → Ch} {nx : Nat} : spAll [] H nx = .is (True) (.agg tabS) := (rfl)
theorem spAll_ok : SpecOk Tryz.prog 37 spAll := specOk_is fun args H nx => by
  unfold spAll; split
  · exact fun _ w => all_any w
  · trivial
theorem tab_nth : ∀ p : Fin 41, p.val = 0 ∨ nth tabS p.val = .v (.func (.func (mfid (mcdL.getD p.val 0))) #[] #[]) := by
  have key : ∀ (l : List SV) (i : Nat), nth l i = l.getD i .un := by
    intro l
    induction l with
    | nil => intro i; cases i <;> rfl
    | cons x l ih =>
      intro i
      cases i with
      | zero => rfl
      | succ i => exact ih i
  intro p
  by_cases h : p.val = 0
  · exact .inl h
  · right
    obtain ⟨k, hk⟩ : ∃ k, p.val = k + 1 := ⟨p.val - 1, by omega⟩
    have hl : k < (mcdL.drop 1).length := by have := p.isLt; show k < 40; omega
    rw [hk]
    show nth ((mcdL.drop 1).map fun m => SV.v (.func (.func (mfid m)) #[] #[])) k = _
    rw [key, List.getD_eq_getElem?_getD, List.getElem?_map, List.getElem?_eq_getElem hl]
    simp only [Option.map_some, Option.getD_some]
    rw [List.getD_eq_getElem?_getD, List.getElem?_eq_getElem (by show k + 1 < 41; omega)]
    simp
end Pr
end Go.Proofs.YtnpkmimbnjnicaaGreatDoor
/-
rules.Rule (chapter 21).
-/
set_option linter.unusedSimpArgs false
set_option linter.unusedVariables false
namespace Go.Proofs.YtnpkmimbnjnicaaGreatDoor
namespace Pr
open Go Go.RowKit En
open Lt
structure Ty where
  k : Int
  r : Int
  a0 : Int
  a1 : Int
  d : Int
def tyC (t : Ty) : List SV := [.v (.int .i64 t.k), .v (.int .i64 t.r), .v (.int .i64 t.a0), .v (.int .i64 t.a1), .v (.int .i64 t.d)]
def ruHp (bn on cn ba oa ca : Nat) (A B D : Option Addr) (c e g : Nat) (ns : List ByteArray) (us : List Int) (n : Nat) (t : Nat → Ty) : Hp := (1001, .strs A c ns) :: (1002, .ints B e .u8 us) :: (1003, .recs D g 5 n fun i => tyC (t i)) :: gHp bn on cn ba oa ca
def glRr : List (FuncId × Spc) := [(34, spChk3), (35, spBot), (23, spTyC), (36, spFits), (37, spAll), (64, spMth 0), (65, spMth 1), (66, spMth 2), (67, spMth 3), (68, spMth 4), (69, spMth 5), (70, spMth 6), (71, spMth 7), (72, spMth 8), (73, spMth 9), (74, spMth 10), (75, spMth 11), (76, spMth 12), (77, spMth 13), (78, spMth 14)]
theorem glRr_ok : GOk Tryz.prog (lookG glRr) := lG_cons (by kernel_rfl) spChk3_ok <| lG_cons (by kernel_rfl) spBot_ok <| lG_cons (by kernel_rfl) spTyC_ok <| lG_cons (by kernel_rfl) spFits_ok <| lG_cons (by kernel_rfl) spAll_ok <| lG_cons (by kernel_rfl) spM_checked_ok <| lG_cons (by kernel_rfl) spM_same_ok <| lG_cons (by kernel_rfl) spM_shaped_ok <| lG_cons (by kernel_rfl) spM_ravel_ok <| lG_cons (by kernel_rfl) spM_flip_ok <| lG_cons (by kernel_rfl) spM_made_ok <| lG_cons (by kernel_rfl) spM_ends_ok <| lG_cons (by kernel_rfl) spM_count_ok <| lG_cons (by kernel_rfl) spM_cut_ok <| lG_cons (by kernel_rfl) spM_grid_ok <| lG_cons (by kernel_rfl) spM_cat_ok <| lG_cons (by kernel_rfl) spM_at_ok <| lG_cons (by kernel_rfl) spM_pick_ok <| lG_cons (by kernel_rfl) spM_extended_ok <| lG_cons (by kernel_rfl) spM_exact_ok lG_nil
structure Rv where
  k : Int
  r : Int
  a0 : Int
  a1 : Int
  d : Int
  e : Int
  c : Int
  err : Int
def rulZ (e : Int) : Rv := ⟨0, 0, 0, 0, 0, 0, 0, e⟩
def botT (us : List Int) : Ty := ⟨0, 0, botI us, botI us, botI us⟩
def goodT (us : List Int) (t : Ty) : Int := goodV us t.k t.r t.a0 t.a1 t.d
def mrV (us : List Int) (m : Nat) (t u : Ty) : MR := mres m us t.r u.r t.a0 t.a1 t.d u.a0 u.a1 u.d (botI us)
def cut0 (us : List Int) (rr x : Int) : Int := bif decide (0 < rr) then x else botI us
def cut1 (us : List Int) (rr x : Int) : Int := bif decide (1 < rr) then x else botI us
def finV (us : List Int) (m : Nat) (kk rr : Int) (t u : Ty) : Rv := ⟨kk, rr, cut0 us rr (mrV us m t u).x0, cut1 us rr (mrV us m t u).x1, (mrV us m t u).dt, (mrV us m t u).er, (mrV us m t u).co, 0⟩
def rul1 (us : List Int) (p : Int) (t : Ty) : Rv := bif goodT us t != 0 then rulZ (goodT us t) else bif (fitsV p [t.k] [t.r]).2.2 != 0 then rulZ (fitsV p [t.k] [t.r]).2.2 else finV us (mcd p) (fitsV p [t.k] [t.r]).1 (fitsV p [t.k] [t.r]).2.1 t (botT us)
def rul2 (us : List Int) (p : Int) (t u : Ty) : Rv := bif goodT us t != 0 then rulZ (goodT us t) else bif goodT us u != 0 then rulZ (goodT us u) else bif (fitsV p [t.k, u.k] [t.r, u.r]).2.2 != 0 then rulZ (fitsV p [t.k, u.k] [t.r, u.r]).2.2 else finV us (mcd p) (fitsV p [t.k, u.k] [t.r, u.r]).1 (fitsV p [t.k, u.k] [t.r, u.r]).2.1 t u
def rulV (ns : List ByteArray) (us : List Int) (p : Int) (n : Nat) (t : Nat → Ty) : Rv :=
  bif decide (2 < (n : Int)) then rulZ 3 else bif (chkV nmV ns us).2 != 0 then rulZ (chkV nmV ns us).2 else match n with
    | 0 => rulZ (fitsV p [] []).2.2
    | 1 => rul1 us p (t 0)
    | _ => rul2 us p (t 0) (t 1)
theorem tab_at {p : Int} (h1 : 1 ≤ p) (h2 : p ≤ 40) : nth tabS p.toNat = .v (.func (.func (mfid (mcd p))) #[] #[]) := by
  rcases tab_nth ⟨p.toNat, by omega⟩ with h | h
  · simp only at h; omega
  · exact h
theorem mcd_le : ∀ p : Fin 41, mcdL.getD p.val 0 ≤ 14 := by decide
theorem mcd_lt {p : Int} (h1 : 1 ≤ p) (h2 : p ≤ 40) : mcd p ≤ 14 := mcd_le ⟨p.toNat, by omega⟩
theorem good_lab {us : List Int} {t : Ty} (h : goodT us t = 0) : labB us.length t.a0 = true ∧ labB us.length t.a1 = true ∧ labB us.length t.d = true := by
  obtain ⟨_, _, h1, h2, h3, _⟩ := good_of h
  exact ⟨h1, h2, h3⟩
theorem good_kind {us : List Int} {t : Ty} (h : goodT us t = 0) : t.k = 1 ∨ t.k = 2 := (good_of h).1
theorem labB_bot {us : List Int} (h : Lt us) : labB us.length (botI us) = true := labB_iff.2 (botI_spec h).1
theorem mM_of {G : Gam} {m : Nat} (hm : m ≤ 14) (h : ∀ k, k ≤ 14 → G (mfid k) = spMth k) : G (mfid m) = spMth m := h m hm
set_option maxRecDepth 100000 in
set_option maxHeartbeats 16000000 in
theorem rule_any (p : Int) (n : Nat) (t : Nat → Ty) (A B D : Option Addr) (c e g : Nat) (ns : List ByteArray) (us : List Int) (hB : Bytes us) (bn on cn ba oa ca : Nat) (h4 : 4 ≤ cn) (h3 : 3 ≤ ca) (w : World) (hg : allRd w.heap.size w (ruHp bn on cn ba oa ca A B D c e g ns us n t)) :
    Calls Tryz.prog 16 (dens [.agg [.g 1001 A ns.length c, .g 1002 B us.length e], .v (.int .i64 p), .g 1003 D n g]).toArray w fun e' w' => e' = .returned (den (.tup [.agg (ruS (rulV ns us p n t).k (rulV ns us p n t).r (rulV ns us p n t).a0 (rulV ns us p n t).a1 (rulV ns us p n t).d (rulV ns us p n t).e (rulV ns us p n t).c), .v (.int .i64 (rulV ns us p n t).err)])) ∧ Below w.heap.size w w' := by
  obtain ⟨x, hx⟩ : ∃ x, x = rulV ns us p n t := ⟨_, rfl⟩
  rw [← hx]
  refine calls_go (args := [.agg [.g 1001 A ns.length c, .g 1002 B us.length e], .v (.int .i64 p), .g 1003 D n g]) (hp := ruHp bn on cn ba oa ca A B D c e g ns us n t) (nx := 2000) (n := 2000) (U := [(13, 3), (27, 4), (1000000, 56)]) (V := [(19, ([(4, 8656), (9, 11216)], [(2, [8656, 11216]), (7, [8656, 11216]), (4, [11216]), (9, [8656])]))]) (tl := tlRu) (gl := glRr) (post := fun s' ys => ys = [.agg (ruS x.k x.r x.a0 x.a1 x.d x.e x.c), .v (.int .i64 x.err)])
    followP tlRu_ok glRr_ok Tryz.func16 rfl (by kernel_rfl) (Nat.le_of_ble_eq_true (by kernel_rfl)) (by kernel_rfl) (by kernel_rfl) (hh_list hg) (free_list (by simp [allLt, ruHp, gHp])) ?_ ?_
  · rintro s ys w' rfl H
    exact ⟨rfl, H.below⟩
  intro L F T G nd va hE
  obtain ⟨hL, hF, hs, hv, hT, hG, hR, hI, hJ, hW⟩ := hE
  rw [Tryz.results16] at hF
  simp (maxSteps := 1000000) only [En.nN, En.E, En.evsC, List.map_cons, List.map_nil, ne_eq, En.bitN, Nat.testBit, seval] at hv
  simp only [En.at_nil, En.at_cons, En.ag_nil, En.ag_cons, and_true, tlRu, glRr, tyInt, tyU8, tyBool, tyErr, tyStrs, tyBytes, tyInts, tyLat, tyI2, tyTy, tyTys, tyRule, tyTwo, tyLook, tyTab, tyRFn] at hT hG
  have i1 : inr .i64 1 := by simp only [En.inr, En.lo, En.hi]; omega
  have i2 : inr .i64 2 := by simp only [En.inr, En.lo, En.hi]; omega
  unfold rulV at hx
  cases hn : decide (2 < (n : Int)) <;> rw [hn] at hx
  · have hn2 := of_decide_eq_false hn
    cases hc : ((chkV nmV ns us).2 != 0) <;> rw [hc] at hx
    · have h0 : (chkV nmV ns us).2 = 0 := by simpa using hc
      obtain ⟨l1, l2, l3', l4⟩ := lt_of_chk hB h0
      have hb : botV ns us = botI us := by unfold botV; rw [hc]; rfl
      have hk : ∀ q : Ty, tckV ns us q.k q.r q.a0 q.a1 q.d = goodT us q := fun q => tckV_yes h0
      match n, hn2, hg with
      | 0, _, hg =>
        have hx : x = rulZ (fitsV p [] []).2.2 := hx
        have hf := fits_none (p := p)
        obtain ⟨⟨kk, rr, ee⟩, hfv⟩ : ∃ v, v = fitsV p [] [] := ⟨_, rfl⟩
        rw [← hfv] at hx hf
        subst hx
        simp (maxSteps := 10000000) only [En.E, En.evsC, List.map_cons, List.map_nil, ne_eq, En.bitN, Nat.testBit, seval, En.vV, hs, hv, hT, hG, hF, ruHp, gHp, tyC, spChk3_q, spBot_q, latR_q, latN_q, latU_q, hB, h0, hb, spTyC_q, i1, i2, Int.cast_ofNat_Int, spFits_q, fitsR_q, globR_q, getN_q, getN_nil, getNC, intsOf, if_true, Option.map_some, h4, h3, ← hfv, hf, rulZ, ruS]
      | 1, _, hg =>
        have hx : x = rul1 us p (t 0) := hx
        unfold rul1 at hx
        cases hg0 : (goodT us (t 0) != 0) <;> rw [hg0] at hx
        · have g0 : goodT us (t 0) = 0 := by simpa using hg0
          have k0 : tckV ns us (t 0).k (t 0).r (t 0).a0 (t 0).a1 (t 0).d = 0 := (hk _).trans g0
          have hrg := fits_rng (p := p) (ks := [(t 0).k]) (rs := [(t 0).r])
          have hsh := fun h1 h2 => fShape1 (p := p) h1 h2 (t 0).k (t 0).r (good_kind g0)
          obtain ⟨⟨kk, rr, ee⟩, hfv⟩ : ∃ v, v = fitsV p [(t 0).k] [(t 0).r] := ⟨_, rfl⟩
          rw [← hfv] at hx hrg hsh
          simp only at hx hrg
          cases he : (ee != 0) <;> rw [he] at hx
          · have e0 : ee = 0 := by simpa using he
            have hr := hrg e0
            have p14 : p ≤ 14 := by
              have := hr.2.2
              simp only [List.length_cons, List.length_nil] at this
              split at this <;> omega
            have hsp := hsh hr.1 p14 e0
            simp only at hsp
            have t1 := tab_at hr.1 hr.2.1
            have t2 : lenS tabS = 41 := rfl
            have p0 : 0 ≤ p := by omega
            have p1 : p < 41 := by omega
            have p2 : p.toNat < 41 := by omega
            have hM : G (mfid (mcd p)) = spMth (mcd p) := mM_of (mcd_lt hr.1 hr.2.1) (fun k hk => by
              obtain ⟨q1, q2, q3, q4, q5, r0, r1, r2, r3, r4, r5, r6, r7, r8, r9, r10, r11, r12, r13, r14⟩ := hG
              match k, hk with
              | 0, _ => exact r0
              | 1, _ => exact r1
              | 2, _ => exact r2
              | 3, _ => exact r3
              | 4, _ => exact r4
              | 5, _ => exact r5
              | 6, _ => exact r6
              | 7, _ => exact r7
              | 8, _ => exact r8
              | 9, _ => exact r9
              | 10, _ => exact r10
              | 11, _ => exact r11
              | 12, _ => exact r12
              | 13, _ => exact r13
              | 14, _ => exact r14)
            obtain ⟨a1, a2, a3⟩ := good_lab g0
            have a4 := labB_bot l1
            have hx : x = finV us (mcd p) kk rr (t 0) (botT us) := hx
            have hrr : rr = 0 ∨ rr = 1 ∨ rr = 2 := by omega
            unfold finV mrV botT at hx
            simp only at hx
            generalize hmr : mres (mcd p) us (t 0).r 0 (t 0).a0 (t 0).a1 (t 0).d (botI us) (botI us) (botI us) (botI us) = v at hx
            rcases hrr with rfl | rfl | rfl
            · subst hx
              simp (maxSteps := 10000000) only [En.E, En.evsC, List.map_cons, List.map_nil, ne_eq, En.bitN, Nat.testBit, seval, En.vV, hs, hv, hT, hG, hF, ruHp, gHp, tyC, spChk3_q, spBot_q, latR_q, latN_q, latU_q, hB, h0, hb, spTyC_q, i1, i2, Int.cast_ofNat_Int, spFits_q, fitsR_q, globR_q, getN_q, getN_nil, getNC, intsOf, if_true, Option.map_some, h4, h3, k0, ← hfv, spAll_q, he, t1, t2, p0, p1, p2, hM, spMth_q, lkR, l1, a1, a2, a3, a4, hmr, ruS, cut0, cut1, and_self]
            · subst hx
              simp (maxSteps := 10000000) only [En.E, En.evsC, List.map_cons, List.map_nil, ne_eq, En.bitN, Nat.testBit, seval, En.vV, hs, hv, hT, hG, hF, ruHp, gHp, tyC, spChk3_q, spBot_q, latR_q, latN_q, latU_q, hB, h0, hb, spTyC_q, i1, i2, Int.cast_ofNat_Int, spFits_q, fitsR_q, globR_q, getN_q, getN_nil, getNC, intsOf, if_true, Option.map_some, h4, h3, k0, ← hfv, spAll_q, he, t1, t2, p0, p1, p2, hM, spMth_q, lkR, l1, a1, a2, a3, a4, hmr, ruS, cut0, cut1, and_self]
            · subst hx
              simp (maxSteps := 10000000) only [En.E, En.evsC, List.map_cons, List.map_nil, ne_eq, En.bitN, Nat.testBit, seval, En.vV, hs, hv, hT, hG, hF, ruHp, gHp, tyC, spChk3_q, spBot_q, latR_q, latN_q, latU_q, hB, h0, hb, spTyC_q, i1, i2, Int.cast_ofNat_Int, spFits_q, fitsR_q, globR_q, getN_q, getN_nil, getNC, intsOf, if_true, Option.map_some, h4, h3, k0, ← hfv, spAll_q, he, t1, t2, p0, p1, p2, hM, spMth_q, lkR, l1, a1, a2, a3, a4, hmr, ruS, cut0, cut1, and_self]
          · have hx : x = rulZ ee := hx
            subst hx
            simp (maxSteps := 10000000) only [En.E, En.evsC, List.map_cons, List.map_nil, ne_eq, En.bitN, Nat.testBit, seval, En.vV, hs, hv, hT, hG, hF, ruHp, gHp, tyC, spChk3_q, spBot_q, latR_q, latN_q, latU_q, hB, h0, hb, spTyC_q, i1, i2, Int.cast_ofNat_Int, spFits_q, fitsR_q, globR_q, getN_q, getN_nil, getNC, intsOf, if_true, Option.map_some, h4, h3, k0, ← hfv, he, rulZ, ruS]
        · have hx : x = rulZ (goodT us (t 0)) := hx
          subst hx
          have k0 := hk (t 0)
          simp (maxSteps := 10000000) only [En.E, En.evsC, List.map_cons, List.map_nil, ne_eq, En.bitN, Nat.testBit, seval, En.vV, hs, hv, hT, hG, hF, ruHp, gHp, tyC, spChk3_q, spBot_q, latR_q, latN_q, latU_q, hB, h0, hb, spTyC_q, i1, i2, Int.cast_ofNat_Int, spFits_q, fitsR_q, globR_q, getN_q, getN_nil, getNC, intsOf, if_true, Option.map_some, h4, h3, k0, hg0, rulZ, ruS]
      | 2, _, hg =>
        have hx : x = rul2 us p (t 0) (t 1) := hx
        unfold rul2 at hx
        cases hg0 : (goodT us (t 0) != 0) <;> rw [hg0] at hx
        · have g0 : goodT us (t 0) = 0 := by simpa using hg0
          have k0 : tckV ns us (t 0).k (t 0).r (t 0).a0 (t 0).a1 (t 0).d = 0 := (hk _).trans g0
          cases hg1 : (goodT us (t 1) != 0) <;> rw [hg1] at hx
          · have g1 : goodT us (t 1) = 0 := by simpa using hg1
            have k1 : tckV ns us (t 1).k (t 1).r (t 1).a0 (t 1).a1 (t 1).d = 0 := (hk _).trans g1
            have hrg := fits_rng (p := p) (ks := [(t 0).k, (t 1).k]) (rs := [(t 0).r, (t 1).r])
            have hsh := fun h1 h2 => fShape2 (p := p) h1 h2 (t 0).k (t 1).k (t 0).r (t 1).r (good_kind g0) (good_kind g1)
            obtain ⟨⟨kk, rr, ee⟩, hfv⟩ : ∃ v, v = fitsV p [(t 0).k, (t 1).k] [(t 0).r, (t 1).r] := ⟨_, rfl⟩
            rw [← hfv] at hx hrg hsh
            simp only at hx hrg
            cases he : (ee != 0) <;> rw [he] at hx
            · have e0 : ee = 0 := by simpa using he
              have hr := hrg e0
              have p15 : 15 ≤ p := by
                have := hr.2.2
                simp only [List.length_cons, List.length_nil] at this
                split at this <;> omega
              have hsp := hsh p15 hr.2.1 e0
              simp only at hsp
              have t1 := tab_at hr.1 hr.2.1
              have t2 : lenS tabS = 41 := rfl
              have p0 : 0 ≤ p := by omega
              have p1 : p < 41 := by omega
              have p2 : p.toNat < 41 := by omega
              have hM : G (mfid (mcd p)) = spMth (mcd p) := mM_of (mcd_lt hr.1 hr.2.1) (fun k hk => by
                obtain ⟨q1, q2, q3, q4, q5, r0, r1, r2, r3, r4, r5, r6, r7, r8, r9, r10, r11, r12, r13, r14⟩ := hG
                match k, hk with
                | 0, _ => exact r0
                | 1, _ => exact r1
                | 2, _ => exact r2
                | 3, _ => exact r3
                | 4, _ => exact r4
                | 5, _ => exact r5
                | 6, _ => exact r6
                | 7, _ => exact r7
                | 8, _ => exact r8
                | 9, _ => exact r9
                | 10, _ => exact r10
                | 11, _ => exact r11
                | 12, _ => exact r12
                | 13, _ => exact r13
                | 14, _ => exact r14)
              obtain ⟨a1, a2, a3⟩ := good_lab g0
              obtain ⟨a4, a5, a6⟩ := good_lab g1
              have hx : x = finV us (mcd p) kk rr (t 0) (t 1) := hx
              have hrr : rr = 0 ∨ rr = 1 ∨ rr = 2 := by omega
              unfold finV mrV at hx
              generalize hmr : mres (mcd p) us (t 0).r (t 1).r (t 0).a0 (t 0).a1 (t 0).d (t 1).a0 (t 1).a1 (t 1).d (botI us) = v at hx
              rcases hrr with rfl | rfl | rfl
              · subst hx
                simp (maxSteps := 10000000) only [En.E, En.evsC, List.map_cons, List.map_nil, ne_eq, En.bitN, Nat.testBit, seval, En.vV, hs, hv, hT, hG, hF, ruHp, gHp, tyC, spChk3_q, spBot_q, latR_q, latN_q, latU_q, hB, h0, hb, spTyC_q, i1, i2, Int.cast_ofNat_Int, spFits_q, fitsR_q, globR_q, getN_q, getN_nil, getNC, intsOf, if_true, Option.map_some, h4, h3, k0, k1, ← hfv, spAll_q, he, t1, t2, p0, p1, p2, hM, spMth_q, lkR, l1, a1, a2, a3, a4, a5, a6, hmr, ruS, cut0, cut1, and_self]
              · subst hx
                simp (maxSteps := 10000000) only [En.E, En.evsC, List.map_cons, List.map_nil, ne_eq, En.bitN, Nat.testBit, seval, En.vV, hs, hv, hT, hG, hF, ruHp, gHp, tyC, spChk3_q, spBot_q, latR_q, latN_q, latU_q, hB, h0, hb, spTyC_q, i1, i2, Int.cast_ofNat_Int, spFits_q, fitsR_q, globR_q, getN_q, getN_nil, getNC, intsOf, if_true, Option.map_some, h4, h3, k0, k1, ← hfv, spAll_q, he, t1, t2, p0, p1, p2, hM, spMth_q, lkR, l1, a1, a2, a3, a4, a5, a6, hmr, ruS, cut0, cut1, and_self]
              · subst hx
                simp (maxSteps := 10000000) only [En.E, En.evsC, List.map_cons, List.map_nil, ne_eq, En.bitN, Nat.testBit, seval, En.vV, hs, hv, hT, hG, hF, ruHp, gHp, tyC, spChk3_q, spBot_q, latR_q, latN_q, latU_q, hB, h0, hb, spTyC_q, i1, i2, Int.cast_ofNat_Int, spFits_q, fitsR_q, globR_q, getN_q, getN_nil, getNC, intsOf, if_true, Option.map_some, h4, h3, k0, k1, ← hfv, spAll_q, he, t1, t2, p0, p1, p2, hM, spMth_q, lkR, l1, a1, a2, a3, a4, a5, a6, hmr, ruS, cut0, cut1, and_self]
            · have hx : x = rulZ ee := hx
              subst hx
              simp (maxSteps := 10000000) only [En.E, En.evsC, List.map_cons, List.map_nil, ne_eq, En.bitN, Nat.testBit, seval, En.vV, hs, hv, hT, hG, hF, ruHp, gHp, tyC, spChk3_q, spBot_q, latR_q, latN_q, latU_q, hB, h0, hb, spTyC_q, i1, i2, Int.cast_ofNat_Int, spFits_q, fitsR_q, globR_q, getN_q, getN_nil, getNC, intsOf, if_true, Option.map_some, h4, h3, k0, k1, ← hfv, he, rulZ, ruS]
          · have hx : x = rulZ (goodT us (t 1)) := hx
            subst hx
            have k1 := hk (t 1)
            simp (maxSteps := 10000000) only [En.E, En.evsC, List.map_cons, List.map_nil, ne_eq, En.bitN, Nat.testBit, seval, En.vV, hs, hv, hT, hG, hF, ruHp, gHp, tyC, spChk3_q, spBot_q, latR_q, latN_q, latU_q, hB, h0, hb, spTyC_q, i1, i2, Int.cast_ofNat_Int, spFits_q, fitsR_q, globR_q, getN_q, getN_nil, getNC, intsOf, if_true, Option.map_some, h4, h3, k0, k1, hg1, rulZ, ruS]
        · have hx : x = rulZ (goodT us (t 0)) := hx
          subst hx
          have k0 := hk (t 0)
          simp (maxSteps := 10000000) only [En.E, En.evsC, List.map_cons, List.map_nil, ne_eq, En.bitN, Nat.testBit, seval, En.vV, hs, hv, hT, hG, hF, ruHp, gHp, tyC, spChk3_q, spBot_q, latR_q, latN_q, latU_q, hB, h0, hb, spTyC_q, i1, i2, Int.cast_ofNat_Int, spFits_q, fitsR_q, globR_q, getN_q, getN_nil, getNC, intsOf, if_true, Option.map_some, h4, h3, k0, hg0, rulZ, ruS]
      | n + 3, h, _ => omega
    · have hx : x = rulZ (chkV nmV ns us).2 := hx
      subst hx
      simp (maxSteps := 10000000) only [En.E, En.evsC, List.map_cons, List.map_nil, ne_eq, En.bitN, Nat.testBit, seval, En.vV, hs, hv, hT, hG, hF, ruHp, gHp, tyC, spChk3_q, latR_q, latN_q, latU_q, hB, hn, hc, rulZ, ruS]
  · have hx : x = rulZ 3 := hx
    subst hx
    simp (maxSteps := 10000000) only [En.E, En.evsC, List.map_cons, List.map_nil, ne_eq, En.bitN, Nat.testBit, seval, En.vV, hs, hv, hT, hG, hF, ruHp, gHp, hn, rulZ, ruS]
end Pr
end Go.Proofs.YtnpkmimbnjnicaaGreatDoor
/-
rules.Rule as a contract; After (chapter 21).
-/
set_option linter.unusedSimpArgs false
set_option linter.unusedVariables false
namespace Go.Proofs.YtnpkmimbnjnicaaGreatDoor
namespace Pr
open Go Go.RowKit En
open Lt
def unTy : List SV → Ty
  | [.v (.int .i64 k), .v (.int .i64 r), .v (.int .i64 a0), .v (.int .i64 a1), .v (.int .i64 d)] => ⟨k, r, a0, a1, d⟩
  | _ => ⟨0, 0, 0, 0, 0⟩
def tysC (o : Nat) : Ch → Nat → List SV
  | .recs _ _ 5 _ f, i => f i
  | .rowV _ _ _ 5 _ cs, i => cut cs (i * 5) 5
  | .blk _ cs _, i => cut cs (o + i * 5) 5
  | _, _ => []
def tysQ : SV → Nat
  | .g _ _ q _ => q
  | .gp _ _ _ q _ => q
  | _ => 0
def tysT (H : Nat → Ch) : SV → Nat → Ty
  | .g k _ _ _, i => unTy (tysC 0 (H k) i)
  | .gp k _ o _ _, i => unTy (tysC o (H k) i)
  | _, _ => ⟨0, 0, 0, 0, 0⟩
def tysG (D : Option Addr) (q g : Nat) : Ch → Prop
  | .recs D' g' 5 q' f => D = D' ∧ g = g' ∧ q = q' ∧ ∀ i, i < q → f i = tyC (unTy (f i))
  | .rowV D' g' _ 5 q' cs => D = D' ∧ g = g' ∧ q = q' ∧ lenS cs = q * 5 ∧ ∀ i, i < q → cut cs (i * 5) 5 = tyC (unTy (cut cs (i * 5) 5))
  | _ => False
def tysB (b o q g : Nat) : Ch → Prop
  | .blk b' cs _ => q ≤ g ∧ b = b' ∧ o + q * 5 ≤ lenS cs ∧ ∀ i, i < q → cut cs (o + i * 5) 5 = tyC (unTy (cut cs (o + i * 5) 5))
  | _ => False
def tysP (H : Nat → Ch) : SV → Prop
  | .g k D q g => tysG D q g (H k)
  | .gp k b o q g => tysB b o q g (H k)
  | _ => False
theorem tysP_g {H : Nat → Ch} {k q g : Nat} {D : Option Addr} : tysP H (.g k D q g) = tysG D q g (H k) := (rfl)
theorem tysP_gp {H : Nat → Ch} {k b o q g : Nat} : tysP H (.gp k b o q g) = tysB b o q g (H k) := (rfl)
theorem tysG_r {D D' : Option Addr} {q q' g g' : Nat} {t : Nat → Ty} : tysG D q g (.recs D' g' 5 q' fun i => tyC (t i)) = (D = D' ∧ g = g' ∧ q = q') := by
  apply propext
  constructor
  · rintro ⟨h1, h2, h3, _⟩; exact ⟨h1, h2, h3⟩
  · rintro ⟨h1, h2, h3⟩; exact ⟨h1, h2, h3, fun i _ => rfl⟩
theorem tysT_g {H : Nat → Ch} {k q g : Nat} {D : Option Addr} : tysT H (.g k D q g) = fun i => unTy (tysC 0 (H k) i) := by funext i; rfl
theorem tysT_gp {H : Nat → Ch} {k b o q g : Nat} : tysT H (.gp k b o q g) = fun i => unTy (tysC o (H k) i) := by funext i; rfl
theorem tysC_r {D : Option Addr} {q g : Nat} {t : Nat → Ty} : (fun i => unTy (tysC 0 (.recs D g 5 q fun i => tyC (t i)) i)) = t := by funext i; rfl
theorem tysQ_g {k q g : Nat} {D : Option Addr} : tysQ (.g k D q g) = q := (rfl)
theorem tysQ_gp {k b o q g : Nat} : tysQ (.gp k b o q g) = q := (rfl)
theorem tys_hold {O : Nat → Prop} {w0 w : World} {hp : Hp} {L : SV} (H : HH w0 O hp w) (h : tysP (lookH hp) L) : ∃ D g, den L = .slice D (tysQ L) g ∧ ∀ B, Hold B w (.recs D g 5 (tysQ L) fun i => tyC (tysT (lookH hp) L i)) := by
  unfold tysP at h
  split at h
  · next k D q g =>
    have hk := H.hold k
    unfold tysG at h
    split at h
    · next D' g' q' f e =>
      obtain ⟨rfl, rfl, rfl, hf⟩ := h
      rw [e] at hk
      refine ⟨D, g, rfl, fun B => ⟨hk.1.congr fun i hi j hj => ?_, fun i hi => rfl⟩⟩
      show _ = (dens (tyC (unTy (tysC 0 (lookH hp k) i)))).getD j undef
      rw [e]
      show _ = (dens (tyC (unTy (f i)))).getD j undef
      rw [← hf i hi]
    · next D' g' ty q' cs e =>
      obtain ⟨rfl, rfl, rfl, hl, hf⟩ := h
      rw [e] at hk
      rw [lenS_eq] at hl
      refine ⟨D, g, rfl, fun B => ⟨(row_sl hk).congr fun i hi j hj => ?_, fun i hi => rfl⟩⟩
      show _ = (dens (tyC (unTy (tysC 0 (lookH hp k) i)))).getD j undef
      rw [e]
      show _ = (dens (tyC (unTy (cut cs (i * 5) 5)))).getD j undef
      rw [← hf i hi, dens_cut, cut_eq]
      have hq : i * 5 + 5 ≤ q * 5 := by omega
      simp [List.getD_eq_getElem?_getD, List.getElem?_take, hj]
    · exact h.elim
  · next k b o q g =>
    have hk := H.hold k
    unfold tysB at h
    split at h
    · next b' cs ty e =>
      obtain ⟨hqg, rfl, hl, hf⟩ := h
      rw [e] at hk
      rw [lenS_eq] at hl
      refine ⟨some ⟨b, o, none⟩, g, rfl, fun B => ⟨⟨hqg, fun _ => ⟨b, o, rfl, lt_of_cells hk.2, fun i hi j hj => ?_⟩⟩, fun i hi => rfl⟩⟩
      show w.cell? _ = some ((dens (tyC (unTy (tysC o (lookH hp k) i)))).getD j undef)
      rw [e]
      show w.cell? _ = some ((dens (tyC (unTy (cut cs (o + i * 5) 5)))).getD j undef)
      rw [← hf i hi, dens_cut, cut_eq, cell_blk hk.2]
      have hi : i < q := hi
      have hlt : o + (i * 5 + j) < (dens cs).length := by rw [dens_len]; omega
      have e2 : o + i * 5 + j = o + (i * 5 + j) := by omega
      simp [List.getD_eq_getElem?_getD, List.getElem?_take, hj, e2, hlt]
    · exact h.elim
  · exact h.elim
def rvS (x : Rv) : SV := .tup [.agg (ruS x.k x.r x.a0 x.a1 x.d x.e x.c), .v (.int .i64 x.err)]
def spRule : Spc
  | [.agg [.g i A n c, .g j B m e], .v (.int .i64 p), L], H, _ => .is (globR (H 0) (H 1) (H 2) (H 3) ∧ latR A n c B m e (H i) (H j) ∧ tysP H L) (rvS (rulV (latN (H i)) (latU (H j)) p (tysQ L) (tysT H L)))
  | _, _, _ => .bad
theorem spRule_q {i n c j m e : Nat} {A B : Option Addr} {p : Int} {L : SV} {H : Nat → Ch} {nx : Nat} : spRule [.agg [.g i A n c, .g j B m e], .v (.int .i64 p), L] H nx = .is (globR (H 0) (H 1) (H 2) (H 3) ∧ latR A n c B m e (H i) (H j) ∧ tysP H L) (rvS (rulV (latN (H i)) (latU (H j)) p (tysQ L) (tysT H L))) := (rfl)
theorem spRule_ok : SpecOk Tryz.prog 16 spRule := by
  intro args hp nx w0 O w H hv
  unfold spRule at hv ⊢
  split at hv
  · next i A n c j B m e p L =>
    obtain ⟨hG, hl, hty⟩ := hv
    obtain ⟨bn, on, cn, ba, oa, ca, hr, h4, h3, _⟩ := globR_ok H hG
    obtain ⟨D, g, e1, hh⟩ := tys_hold H hty
    obtain ⟨x1, x2, x3, x4, x5⟩ := latR_of hl
    have h1 := H.hold i
    have h2 := H.hold j
    rw [x1] at h1
    rw [x2] at h2
    have := rule_any p (tysQ L) (tysT (lookH hp) L) A B D c e g (latN (lookH hp i)) (latU (lookH hp j)) x5 bn on cn ba oa ca h4 h3 w ⟨⟨h1, rfl⟩, ⟨h2, rfl⟩, ⟨hh _, rfl⟩, hr⟩
    rw [show dens [.agg [.g i A n c, .g j B m e], .v (.int .i64 p), L] = dens [.agg [.g 1001 A (latN (lookH hp i)).length c, .g 1002 B (latU (lookH hp j)).length e], .v (.int .i64 p), .g 1003 D (tysQ L) g] by rw [← x3, ← x4]; simp [dens, den, e1]]
    refine this.mono ?_
    rintro e w' ⟨rfl, hb⟩
    exact ⟨⟨0, none, 0, none, 0, mz⟩, rfl, .still hb⟩
  · exact hv.elim
def aft2 (us : List Int) (ec er co : Int) : Int × Int := bif labB us.length ec then (bif labB us.length er then (bif labB us.length co then (jI us (jI us ec er) co, 0) else (0, 7)) else (0, 7)) else (0, 7)
def aftV (ns : List ByteArray) (us : List Int) (ec k r a0 a1 d er co : Int) : Int × Int := bif tckV ns us k r a0 a1 d != 0 then (0, tckV ns us k r a0 a1 d) else aft2 us ec er co
def glAf : List (FuncId × Spc) := [(23, spTyC), (30, spIxU)]
theorem glAf_ok : GOk Tryz.prog (lookG glAf) := lG_cons (by kernel_rfl) spTyC_ok <| lG_cons (by kernel_rfl) spIxU_ok lG_nil
theorem tck_zero {ns : List ByteArray} {us : List Int} {k r a0 a1 d : Int} (h : (tckV ns us k r a0 a1 d != 0) = false) : (chkV nmV ns us).2 = 0 ∧ goodV us k r a0 a1 d = 0 := by
  unfold tckV at h
  cases hc : ((chkV nmV ns us).2 != 0) <;> rw [hc] at h
  · exact ⟨by simpa using hc, by simpa using h⟩
  · simp only [cond_true] at h; rw [hc] at h; cases h
theorem lab_neg {n : Nat} {a : Int} (h : labB n a = true) : decide (a < 0) = false ∧ decide ((n : Int) ≤ a) = false := by
  unfold labB at h
  cases h1 : decide (0 ≤ a) <;> rw [h1] at h
  · cases h
  · have := of_decide_eq_true h1
    have h2 := of_decide_eq_true h
    exact ⟨decide_eq_false (by omega), decide_eq_false (by omega)⟩
theorem lab_bad {n : Nat} {a : Int} (h : labB n a = false) : (bif decide (a < 0) then true else decide ((n : Int) ≤ a)) = true := by
  unfold labB at h
  cases h1 : decide (0 ≤ a) <;> rw [h1] at h
  · have := of_decide_eq_false h1
    rw [decide_eq_true (by omega : a < 0)]; rfl
  · have := of_decide_eq_true h1
    have h2 := of_decide_eq_false h
    rw [decide_eq_false (by omega : ¬ a < 0)]
    exact decide_eq_true (by omega)
set_option maxRecDepth 100000 in
set_option maxHeartbeats 8000000 in
theorem after_any (ns : List ByteArray) (us : List Int) (A B : Option Addr) (c e : Nat) (ec k r a0 a1 d er co : Int) (hB : Bytes us) (w : World) (hg : allRd w.heap.size w [(1001, .strs A c ns), (1002, .ints B e .u8 us)]) :
    Calls Tryz.prog 14 (dens [.agg [.g 1001 A ns.length c, .g 1002 B us.length e], .v (.int .i64 ec), .agg (ruS k r a0 a1 d er co)]).toArray w fun e' w' => e' = .returned (.tuple #[.int .i64 (aftV ns us ec k r a0 a1 d er co).1, .int .i64 (aftV ns us ec k r a0 a1 d er co).2]) ∧ Below w.heap.size w w' := by
  obtain ⟨q, hq⟩ : ∃ q, q = aftV ns us ec k r a0 a1 d er co := ⟨_, rfl⟩
  rw [← hq]
  refine calls_go (args := [.agg [.g 1001 A ns.length c, .g 1002 B us.length e], .v (.int .i64 ec), .agg (ruS k r a0 a1 d er co)]) (hp := [(1001, .strs A c ns), (1002, .ints B e .u8 us)]) (nx := 2000) (n := 900) (U := [(6, 4), (12, 3), (1000000, 50)]) (V := []) (tl := tlRu) (gl := glAf) (post := fun s' ys => ys = [.v (.int .i64 q.1), .v (.int .i64 q.2)])
    followP tlRu_ok glAf_ok Tryz.func14 rfl (by kernel_rfl) (Nat.le_of_ble_eq_true (by kernel_rfl)) (by kernel_rfl) (by kernel_rfl) (hh_list hg) (free_list (by simp [allLt])) ?_ ?_
  · rintro s ys w' rfl H
    exact ⟨rfl, H.below⟩
  intro L F T G nd va hE
  obtain ⟨hL, hF, hs, hv, hT, hG, hR, hI, hJ, hW⟩ := hE
  rw [Tryz.results14] at hF
  simp (maxSteps := 1000000) only [En.nN, En.E, En.evsC, List.map_cons, List.map_nil, ne_eq, En.bitN, Nat.testBit, seval] at hv
  simp only [En.at_nil, En.at_cons, En.ag_nil, En.ag_cons, and_true, tlRu, glAf, tyInt, tyU8, tyBool, tyErr, tyStrs, tyBytes, tyInts, tyLat, tyI2, tyTy, tyTys, tyRule, tyTwo, tyLook, tyTab, tyRFn] at hT hG
  have i1 : inr .i64 1 := by simp only [En.inr, En.lo, En.hi]; omega
  have i2 : inr .i64 2 := by simp only [En.inr, En.lo, En.hi]; omega
  have i3 : inr .i64 3 := by simp only [En.inr, En.lo, En.hi]; omega
  unfold aftV at hq
  cases ht : (tckV ns us k r a0 a1 d != 0) <;> rw [ht] at hq
  · obtain ⟨hc, hgd⟩ := tck_zero ht
    have h0 : tckV ns us k r a0 a1 d = 0 := by simpa using ht
    obtain ⟨l1, l2, l3, l4⟩ := lt_of_chk hB hc
    have h9 : us.length ≤ 100000 := by omega
    have hq : q = aft2 us ec er co := hq
    unfold aft2 at hq
    cases c1 : labB us.length ec <;> rw [c1] at hq
    · have e1 := lab_bad c1
      have hq : q = (0, 7) := hq
      simp (maxSteps := 10000000) only [En.E, En.evsC, List.map_cons, List.map_nil, ne_eq, En.bitN, Nat.testBit, seval, En.vV, hs, hv, hT, hG, hF, ruS, spTyC_q, latR_q, latN_q, latU_q, hB, h0, i1, i2, i3, ← l2, e1, hq]
      exact fun h => by rw [h]; rfl
    · obtain ⟨e1, e1'⟩ := lab_neg c1
      cases c2 : labB us.length er <;> rw [c2] at hq
      · have e2 := lab_bad c2
        have hq : q = (0, 7) := hq
        simp (maxSteps := 10000000) only [En.E, En.evsC, List.map_cons, List.map_nil, ne_eq, En.bitN, Nat.testBit, seval, En.vV, hs, hv, hT, hG, hF, ruS, spTyC_q, latR_q, latN_q, latU_q, hB, h0, i1, i2, i3, ← l2, e1, e1', e2, hq]
        exact fun h => by rw [h]; rfl
      · obtain ⟨e2, e2'⟩ := lab_neg c2
        cases c3 : labB us.length co <;> rw [c3] at hq
        · have e3 := lab_bad c3
          have hq : q = (0, 7) := hq
          simp (maxSteps := 10000000) only [En.E, En.evsC, List.map_cons, List.map_nil, ne_eq, En.bitN, Nat.testBit, seval, En.vV, hs, hv, hT, hG, hF, ruS, spTyC_q, latR_q, latN_q, latU_q, hB, h0, i1, i2, i3, ← l2, e1, e1', e2, e2', e3, hq]
          exact fun h => by rw [h]; rfl
        · obtain ⟨e3, e3'⟩ := lab_neg c3
          have hq : q = (jI us (jI us ec er) co, 0) := hq
          have lx := labB_iff.1 c1
          have ly := labB_iff.1 c2
          have lz := labB_iff.1 c3
          have lj := (jI_spec l1 lx ly).1
          have x0 := lx.1; have x1 := lx.2; have y0 := ly.1; have y1 := ly.2; have z0 := lz.1; have z1 := lz.2; have j0 := lj.1; have j1 := lj.2
          simp (maxSteps := 10000000) only [En.E, En.evsC, List.map_cons, List.map_nil, ne_eq, En.bitN, Nat.testBit, seval, En.vV, hs, hv, hT, hG, hF, ruS, spTyC_q, latR_q, latN_q, latU_q, hB, h0, i1, i2, i3, ← l2, e1, e1', e2, e2', e3, e3', spIxU_q, byR_q, h9, jI_fold, hq]
          exact ⟨⟨x0, x1⟩, ⟨x0, by omega⟩, ⟨y0, y1⟩, ⟨y0, by omega⟩, ⟨j0, j1⟩, ⟨j0, by omega⟩, ⟨z0, z1⟩, z0, by omega⟩
  · have hq : q = (0, tckV ns us k r a0 a1 d) := hq
    simp (maxSteps := 10000000) only [En.E, En.evsC, List.map_cons, List.map_nil, ne_eq, En.bitN, Nat.testBit, seval, En.vV, hs, hv, hT, hG, hF, ruS, spTyC_q, latR_q, latN_q, latU_q, hB, ht, hq]
def spAft : Spc
  | [.agg [.g i A n c, .g j B m e], .v (.int .i64 ec), .agg [.v (.int .i64 k), .v (.int .i64 r), .v (.int .i64 a0), .v (.int .i64 a1), .v (.int .i64 d), .v (.int .i64 er), .v (.int .i64 co)]], H, _ => .is (latR A n c B m e (H i) (H j)) (.tup [.v (.int .i64 (aftV (latN (H i)) (latU (H j)) ec k r a0 a1 d er co).1), .v (.int .i64 (aftV (latN (H i)) (latU (H j)) ec k r a0 a1 d er co).2)])
  | _, _, _ => .bad
theorem spAft_q {i n c j m e : Nat} {A B : Option Addr} {ec k r a0 a1 d er co : Int} {H : Nat → Ch} {nx : Nat} : spAft [.agg [.g i A n c, .g j B m e], .v (.int .i64 ec), .agg [.v (.int .i64 k), .v (.int .i64 r), .v (.int .i64 a0), .v (.int .i64 a1), .v (.int .i64 d), .v (.int .i64 er), .v (.int .i64 co)]] H nx = .is (latR A n c B m e (H i) (H j)) (.tup [.v (.int .i64 (aftV (latN (H i)) (latU (H j)) ec k r a0 a1 d er co).1), .v (.int .i64 (aftV (latN (H i)) (latU (H j)) ec k r a0 a1 d er co).2)]) := (rfl)
theorem spAft_of {fid : FuncId} (h : ∀ (ns : List ByteArray) (us : List Int) (A B : Option Addr) (c e : Nat) (ec k r a0 a1 d er co : Int) (hB : Bytes us) (w : World) (hg : allRd w.heap.size w [(1001, .strs A c ns), (1002, .ints B e .u8 us)]), Calls Tryz.prog fid (dens [.agg [.g 1001 A ns.length c, .g 1002 B us.length e], .v (.int .i64 ec), .agg (ruS k r a0 a1 d er co)]).toArray w fun e' w' => e' = .returned (.tuple #[.int .i64 (aftV ns us ec k r a0 a1 d er co).1, .int .i64 (aftV ns us ec k r a0 a1 d er co).2]) ∧ Below w.heap.size w w') : SpecOk Tryz.prog fid spAft := by
  intro args hp nx w0 O w H hv
  unfold spAft at hv ⊢
  split at hv
  · next i A n c j B m e ec k r a0 a1 d er co =>
    obtain ⟨x1, x2, x3, x4, x5⟩ := latR_of hv
    have h1 := H.hold i
    have h2 := H.hold j
    rw [x1] at h1
    rw [x2] at h2
    have := h (latN (lookH hp i)) (latU (lookH hp j)) A B c e ec k r a0 a1 d er co x5 w ⟨⟨h1, rfl⟩, ⟨h2, rfl⟩, trivial⟩
    rw [← x3, ← x4] at this
    refine this.mono ?_
    rintro e w' ⟨rfl, hb⟩
    exact ⟨⟨0, none, 0, none, 0, mz⟩, rfl, .still hb⟩
  · exact hv.elim
theorem spAft_ok : SpecOk Tryz.prog 14 spAft := spAft_of after_any
end Pr
end Go.Proofs.YtnpkmimbnjnicaaGreatDoor
/-
Chapter 20's line of three labels; chapter 21's examples.
-/
set_option linter.unusedSimpArgs false
set_option linter.unusedVariables false
namespace Go.Proofs.YtnpkmimbnjnicaaGreatDoor
namespace Pr
open Go Go.RowKit En
open Lt
def lineN : List ByteArray := [⟨#[108, 111, 119]⟩, ⟨#[115, 116, 97, 102, 102]⟩, ⟨#[104, 105, 103, 104]⟩]
def lineU : List Int := [7, 6, 4]
def tlSw : List (TypeId × TI) := [tyInt, tyU8, tyBool, tyStr, tyErr, tyStrs, tyBytes, tyInts, tyLat, tyI2, tyTy, tyTys, tyRule]
theorem tlSw_ok : TyAll Tryz.prog (lookT tlSw) := tyAll_p tyInt_ok <| tyAll_p tyU8_ok <| tyAll_p tyBool_ok <| tyAll_p tyStr_ok <| tyAll_p tyErr_ok <| tyAll_p tyStrs_ok <| tyAll_p tyBytes_ok <| tyAll_p tyInts_ok <| tyAll_p tyLat_ok <| tyAll_p tyI2_ok <| tyAll_p tyTy_ok <| tyAll_p tyTys_ok <| tyAll_p tyRule_ok tyAll_nil
theorem blk_cell {B : Nat} {w : World} {b : Nat} {cs : List SV} {t : TypeId} {i : Nat} (h : Hold B w (.blk b cs t)) (hi : i < cs.length) : w.cell? ⟨b, i, none⟩ = some (den cs[i]) := by
  rw [cell_blk h.2, List.getElem?_toArray, dens_eq, List.getElem?_map, List.getElem?_eq_getElem hi]; rfl
theorem line_any (w : World) : Calls Tryz.prog 27 #[] w fun e w' => ∃ b d, e = .returned (den (.agg [.g 0 (some ⟨b, 0, none⟩) 3 3, .g 0 (some ⟨d, 0, none⟩) 3 3])) ∧ Below w.heap.size w w' ∧ Hold w.heap.size w' (.strs (some ⟨b, 0, none⟩) 3 lineN) ∧ Hold w.heap.size w' (.ints (some ⟨d, 0, none⟩) 3 .u8 lineU) ∧ w.heap.size ≤ b ∧ w.heap.size ≤ d := by
  refine calls_go (args := []) (hp := []) (nx := 1000) (n := 200) (U := []) (V := []) (tl := tlSw) (gl := gl0) (post := fun s ys => ∃ k b t k' d t', ys = [.agg [.gp k b 0 3 3, .gp k' d 0 3 3]] ∧ lookH s.hp k = .blk b [.v (.string ⟨#[108, 111, 119]⟩), .v (.string ⟨#[115, 116, 97, 102, 102]⟩), .v (.string ⟨#[104, 105, 103, 104]⟩)] t ∧ lookH s.hp k' = .blk d [.v (.int .u8 7), .v (.int .u8 6), .v (.int .u8 4)] t')
    followP tlSw_ok gl0_ok Tryz.func27 rfl (by kernel_rfl) (Nat.le_of_ble_eq_true (by kernel_rfl)) (by kernel_rfl) (by kernel_rfl) (hh_list trivial) (fun _ _ => rfl) ?_ ?_
  · rintro s ys w' ⟨k, b, t, k', d, t', rfl, hk, hk'⟩ H
    have h1 := hk ▸ H.hold k
    have h2 := hk' ▸ H.hold k'
    refine ⟨b, d, rfl, H.below, ?_, ?_, h1.1, h2.1⟩
    · refine ⟨Nat.le_refl _, fun _ => ⟨b, 0, rfl, lt_of_cells h1.2, fun i hi j hj => ?_⟩⟩
      obtain rfl : j = 0 := by omega
      have hi : i < 3 := hi
      match i, hi with
      | 0, _ => exact blk_cell (i := 0) h1 (by decide)
      | 1, _ => exact blk_cell (i := 1) h1 (by decide)
      | 2, _ => exact blk_cell (i := 2) h1 (by decide)
    · refine ⟨Nat.le_refl _, fun _ => ⟨d, 0, rfl, lt_of_cells h2.2, fun i hi j hj => ?_⟩⟩
      obtain rfl : j = 0 := by omega
      have hi : i < 3 := hi
      match i, hi with
      | 0, _ => exact blk_cell (i := 0) h2 (by decide)
      | 1, _ => exact blk_cell (i := 1) h2 (by decide)
      | 2, _ => exact blk_cell (i := 2) h2 (by decide)
  intro L F T G nd va hE
  obtain ⟨hL, hF, hs, hv, hT, hG, hR, hI, hJ, hW⟩ := hE
  rw [Tryz.results27] at hF
  simp (maxSteps := 1000000) only [En.nN, En.E, En.evsC, List.map_cons, List.map_nil, ne_eq, En.bitN, Nat.testBit, seval] at hv
  simp only [En.at_nil, En.at_cons, En.ag_nil, En.ag_cons, and_true, tlSw, gl0, tyInt, tyU8, tyBool, tyStr, tyErr, tyStrs, tyBytes, tyInts, tyLat, tyI2, tyTy, tyTys, tyRule] at hT hG
  simp (maxSteps := 10000000) only [En.E, En.evsC, List.map_cons, List.map_nil, ne_eq, En.bitN, Nat.testBit, seval, En.vV, hs, hv, hT, hG, hF, ]
  exact fun b b1 b2 => ⟨1512, b1, _, 2024, b2, _, rfl, rfl, rfl⟩
def spLine : Spc
  | [], _, nx => .val2 True fun A c B d => (.agg [.g nx A 3 c, .g (nx + 1) B 3 d], [(nx, .strs A c lineN), (nx + 1, .ints B d .u8 lineU)])
  | _, _, _ => .bad
theorem spLine_q {H : Nat → Ch} {nx : Nat} : spLine [] H nx = .val2 True fun A c B d => (.agg [.g nx A 3 c, .g (nx + 1) B 3 d], [(nx, .strs A c lineN), (nx + 1, .ints B d .u8 lineU)]) := (rfl)
theorem spLine_ok : SpecOk Tryz.prog 27 spLine := by
  intro args hp nx w0 O w H hv
  unfold spLine at hv ⊢
  split at hv
  · refine (line_any w).mono ?_
    rintro e w' ⟨b, d, rfl, hb, h1, h2, g1, g2⟩
    refine ⟨⟨0, some ⟨b, 0, none⟩, 3, some ⟨d, 0, none⟩, 3, mz⟩, rfl, Stp.rd hb ⟨⟨h1, rfl⟩, ⟨h2, rfl⟩, trivial⟩ fun k b' hx => .inl ?_⟩
    refine foot_lookL (Q := fun b => w.heap.size ≤ b) (l := [(_, _), (_, _)]) ⟨?_, ?_, trivial⟩ hx
    · rintro _ ⟨_, a, h, rfl⟩; cases h; exact g1
    · rintro _ ⟨_, a, h, rfl⟩; cases h; exact g2
  · exact hv.elim
theorem vect_any (a d : Int) (w : World) : Calls Tryz.prog 28 #[.int .i64 a, .int .i64 d] w fun e w' => e = .returned (den (.agg (tyS 1 1 a 0 d))) ∧ Below w.heap.size w w' := by
  refine calls_go (args := [.v (.int .i64 a), .v (.int .i64 d)]) (hp := []) (nx := 1000) (n := 200) (U := []) (V := []) (tl := tlSw) (gl := gl0) (post := fun s ys => ys = [.agg (tyS 1 1 a 0 d)])
    followP tlSw_ok gl0_ok Tryz.func28 rfl (by kernel_rfl) (Nat.le_of_ble_eq_true (by kernel_rfl)) (by kernel_rfl) (by kernel_rfl) (hh_list trivial) (fun _ _ => rfl) ?_ ?_
  · rintro s ys w' rfl H
    exact ⟨rfl, H.below⟩
  intro L F T G nd va hE
  obtain ⟨hL, hF, hs, hv, hT, hG, hR, hI, hJ, hW⟩ := hE
  rw [Tryz.results28] at hF
  simp (maxSteps := 1000000) only [En.nN, En.E, En.evsC, List.map_cons, List.map_nil, ne_eq, En.bitN, Nat.testBit, seval] at hv
  simp only [En.at_nil, En.at_cons, En.ag_nil, En.ag_cons, and_true, tlSw, gl0, tyInt, tyU8, tyBool, tyStr, tyErr, tyStrs, tyBytes, tyInts, tyLat, tyI2, tyTy, tyTys, tyRule] at hT hG
  simp (maxSteps := 10000000) only [En.E, En.evsC, List.map_cons, List.map_nil, ne_eq, En.bitN, Nat.testBit, seval, En.vV, hs, hv, hT, hG, hF, tyS]
theorem numb_any (d : Int) (w : World) : Calls Tryz.prog 29 #[.int .i64 d] w fun e w' => e = .returned (den (.agg (tyS 1 0 0 0 d))) ∧ Below w.heap.size w w' := by
  refine calls_go (args := [.v (.int .i64 d)]) (hp := []) (nx := 1000) (n := 200) (U := []) (V := []) (tl := tlSw) (gl := gl0) (post := fun s ys => ys = [.agg (tyS 1 0 0 0 d)])
    followP tlSw_ok gl0_ok Tryz.func29 rfl (by kernel_rfl) (Nat.le_of_ble_eq_true (by kernel_rfl)) (by kernel_rfl) (by kernel_rfl) (hh_list trivial) (fun _ _ => rfl) ?_ ?_
  · rintro s ys w' rfl H
    exact ⟨rfl, H.below⟩
  intro L F T G nd va hE
  obtain ⟨hL, hF, hs, hv, hT, hG, hR, hI, hJ, hW⟩ := hE
  rw [Tryz.results29] at hF
  simp (maxSteps := 1000000) only [En.nN, En.E, En.evsC, List.map_cons, List.map_nil, ne_eq, En.bitN, Nat.testBit, seval] at hv
  simp only [En.at_nil, En.at_cons, En.ag_nil, En.ag_cons, and_true, tlSw, gl0, tyInt, tyU8, tyBool, tyStr, tyErr, tyStrs, tyBytes, tyInts, tyLat, tyI2, tyTy, tyTys, tyRule] at hT hG
  simp (maxSteps := 10000000) only [En.E, En.evsC, List.map_cons, List.map_nil, ne_eq, En.bitN, Nat.testBit, seval, En.vV, hs, hv, hT, hG, hF, tyS]
def spVect : Spc
  | [.v (.int .i64 a), .v (.int .i64 d)], _, _ => .is (True) (.agg (tyS 1 1 a 0 d))
  | _, _, _ => .bad
theorem spVect_q {a d : Int} {H : Nat → Ch} {nx : Nat} : spVect [.v (.int .i64 a), .v (.int .i64 d)] H nx = .is (True) (.agg (tyS 1 1 a 0 d)) := (rfl)
theorem spVect_ok : SpecOk Tryz.prog 28 spVect := specOk_is fun args H nx => by
  unfold spVect; split
  · exact fun _ w => vect_any _ _ w
  · trivial
def spNumb : Spc
  | [.v (.int .i64 d)], _, _ => .is (True) (.agg (tyS 1 0 0 0 d))
  | _, _, _ => .bad
theorem spNumb_q {d : Int} {H : Nat → Ch} {nx : Nat} : spNumb [.v (.int .i64 d)] H nx = .is (True) (.agg (tyS 1 0 0 0 d)) := (rfl)
theorem spNumb_ok : SpecOk Tryz.prog 29 spNumb := specOk_is fun args H nx => by
  unfold spNumb; split
  · exact fun _ w => numb_any _ w
  · trivial
def rulW (ns : List ByteArray) (us : List Int) (p : Int) (t u : Ty) : Rv := bif (chkV nmV ns us).2 != 0 then rulZ (chkV nmV ns us).2 else rul2 us p t u
def rulW1 (ns : List ByteArray) (us : List Int) (p : Int) (t : Ty) : Rv := bif (chkV nmV ns us).2 != 0 then rulZ (chkV nmV ns us).2 else rul1 us p t
theorem rulV_2 {ns : List ByteArray} {us : List Int} {p : Int} {f : Nat → Ty} : rulV ns us p 2 f = rulW ns us p (f 0) (f 1) := (rfl)
theorem rulV_1 {ns : List ByteArray} {us : List Int} {p : Int} {f : Nat → Ty} : rulV ns us p 1 f = rulW1 ns us p (f 0) := (rfl)
theorem unTy_0 {b : Nat} {k r a0 a1 d : Int} {cs : List SV} {ty : TypeId} : unTy (tysC 0 (.blk b (.v (.int .i64 k) :: .v (.int .i64 r) :: .v (.int .i64 a0) :: .v (.int .i64 a1) :: .v (.int .i64 d) :: cs) ty) 0) = ⟨k, r, a0, a1, d⟩ := by cases cs <;> rfl
theorem unTy_1 {b : Nat} {k r a0 a1 d k' r' b0 b1 f : Int} {ty : TypeId} : unTy (tysC 0 (.blk b [.v (.int .i64 k), .v (.int .i64 r), .v (.int .i64 a0), .v (.int .i64 a1), .v (.int .i64 d), .v (.int .i64 k'), .v (.int .i64 r'), .v (.int .i64 b0), .v (.int .i64 b1), .v (.int .i64 f)] ty) 1) = ⟨k', r', b0, b1, f⟩ := (rfl)
theorem tysB_1 {b c : Nat} {k r a0 a1 d : Int} {ty : TypeId} : tysB b 0 1 1 (.blk c [.v (.int .i64 k), .v (.int .i64 r), .v (.int .i64 a0), .v (.int .i64 a1), .v (.int .i64 d)] ty) = (b = c) := by
  refine propext ⟨fun h => h.2.1, fun h => ⟨Nat.le_refl _, h, by show 5 ≤ 5; omega, fun i hi => ?_⟩⟩
  obtain rfl : i = 0 := by omega
  rfl
theorem tysB_2 {b c : Nat} {k r a0 a1 d k' r' b0 b1 f : Int} {ty : TypeId} : tysB b 0 2 2 (.blk c [.v (.int .i64 k), .v (.int .i64 r), .v (.int .i64 a0), .v (.int .i64 a1), .v (.int .i64 d), .v (.int .i64 k'), .v (.int .i64 r'), .v (.int .i64 b0), .v (.int .i64 b1), .v (.int .i64 f)] ty) = (b = c) := by
  refine propext ⟨fun h => h.2.1, fun h => ⟨Nat.le_refl _, h, by show 10 ≤ 10; omega, fun i hi => ?_⟩⟩
  have : i = 0 ∨ i = 1 := by omega
  rcases this with rfl | rfl <;> rfl
theorem sw1 : rulW lineN lineU 27 ⟨1, 1, 1, 0, 2⟩ ⟨1, 0, 0, 0, 0⟩ = ⟨1, 1, 1, 0, 2, 0, 1, 0⟩ := by kernel_rfl
theorem sw2 : rulW lineN lineU 15 ⟨1, 1, 1, 0, 2⟩ ⟨1, 0, 0, 0, 0⟩ = ⟨1, 1, 1, 0, 2, 2, 1, 0⟩ := by kernel_rfl
theorem sw3 : rulW lineN lineU 40 ⟨1, 1, 1, 0, 2⟩ ⟨1, 1, 1, 0, 2⟩ = ⟨1, 1, 2, 0, 2, 1, 1, 0⟩ := by kernel_rfl
theorem sw4 : rulW1 lineN lineU 12 ⟨1, 1, 1, 0, 2⟩ = ⟨1, 0, 0, 0, 1, 0, 1, 0⟩ := by kernel_rfl
theorem sw5 : rulW1 lineN lineU 8 ⟨1, 1, 1, 0, 2⟩ = rulZ 22 := by kernel_rfl
theorem lineB : Bytes lineU := by
  intro i
  match i with
  | 0 => decide
  | 1 => decide
  | 2 => decide
  | _ + 3 => simp [lineU]
def glSw : List (FuncId × Spc) := [(27, spLine), (28, spVect), (29, spNumb), (16, spRule)]
theorem glSw_ok : GOk Tryz.prog (lookG glSw) := lG_cons (by kernel_rfl) spLine_ok <| lG_cons (by kernel_rfl) spVect_ok <| lG_cons (by kernel_rfl) spNumb_ok <| lG_cons (by kernel_rfl) spRule_ok lG_nil
set_option maxRecDepth 100000 in
set_option maxHeartbeats 8000000 in
theorem shown21_any (bn on cn ba oa ca : Nat) (h4 : 4 ≤ cn) (h3 : 3 ≤ ca) (w : World) (hg : allRd w.heap.size w (gHp bn on cn ba oa ca)) :
    Calls Tryz.prog 12 #[] w fun e w' => e = .returned (.bool true) ∧ Below w.heap.size w w' := by
  refine calls_go (args := []) (hp := gHp bn on cn ba oa ca) (nx := 1000) (n := 500) (U := [(1000000, 14)]) (V := []) (tl := tlSw) (gl := glSw) (post := fun s ys => ys = [.v (.bool true)])
    followP tlSw_ok glSw_ok Tryz.func12 rfl (by kernel_rfl) (Nat.le_of_ble_eq_true (by kernel_rfl)) (by kernel_rfl) (by kernel_rfl) (hh_list hg) (free_list (by simp [allLt, gHp])) ?_ ?_
  · rintro s ys w' rfl H
    exact ⟨rfl, H.below⟩
  intro L F T G nd va hE
  obtain ⟨hL, hF, hs, hv, hT, hG, hR, hI, hJ, hW⟩ := hE
  rw [Tryz.results12] at hF
  simp (maxSteps := 1000000) only [En.nN, En.E, En.evsC, List.map_cons, List.map_nil, ne_eq, En.bitN, Nat.testBit, seval] at hv
  simp only [En.at_nil, En.at_cons, En.ag_nil, En.ag_cons, and_true, tlSw, glSw, tyInt, tyU8, tyBool, tyStr, tyErr, tyStrs, tyBytes, tyInts, tyLat, tyI2, tyTy, tyTys, tyRule] at hT hG
  have hB := lineB
  have n3 : lineN.length = 3 := rfl
  have u3 : lineU.length = 3 := rfl
  simp (maxSteps := 10000000) only [En.E, En.evsC, List.map_cons, List.map_nil, ne_eq, En.bitN, Nat.testBit, seval, En.vV, hs, hv, hT, hG, hF, gHp, h4, h3, globR_q, spLine_q, spVect_q, spNumb_q, spRule_q, latR_q, latN_q, latU_q, hB, n3, u3, tysP_gp, tysQ_gp, tysT_gp, tysB_1, tysB_2, rulV_1, rulV_2, unTy_0, unTy_1, sw1, sw2, sw3, sw4, sw5, rulZ, rvS, ruS, tyS]
def spTrue : Spc
  | [], H, _ => .is (globR (H 0) (H 1) (H 2) (H 3)) (.v (.bool true))
  | _, _, _ => .bad
theorem spTrue_q {H : Nat → Ch} {nx : Nat} : spTrue [] H nx = .is (globR (H 0) (H 1) (H 2) (H 3)) (.v (.bool true)) := (rfl)
theorem spShown21_ok : SpecOk Tryz.prog 12 spTrue := by
  intro args hp nx w0 O w H hv
  unfold spTrue at hv ⊢
  split at hv
  · obtain ⟨bn, on, cn, ba, oa, ca, hr, h4, h3, hk⟩ := globR_ok H hv
    refine (shown21_any bn on cn ba oa ca h4 h3 w hr).mono ?_
    rintro e w' ⟨rfl, hb⟩
    exact ⟨⟨0, none, 0, none, 0, mz⟩, rfl, .still hb⟩
  · exact hv.elim
def glKw : List (FuncId × Spc) := [(12, spTrue)]
theorem glKw_ok : GOk Tryz.prog (lookG glKw) := lG_cons (by kernel_rfl) spShown21_ok lG_nil
theorem rulesKnown_walk (bn on cn ba oa ca : Nat) (h4 : 4 ≤ cn) (h3 : 3 ≤ ca) (w : World) (hg : allRd w.heap.size w (gHp bn on cn ba oa ca)) :
    Calls Tryz.prog 4 #[] w fun e w' => e = .returned (.bool true) ∧ Below w.heap.size w w' := by
  refine calls_go (args := []) (hp := gHp bn on cn ba oa ca) (nx := 1000) (n := 500) (U := [(1000000, 4)]) (V := []) (tl := tlSw) (gl := glKw) (post := fun s ys => ys = [.v (.bool true)])
    followP tlSw_ok glKw_ok Tryz.func4 rfl (by kernel_rfl) (Nat.le_of_ble_eq_true (by kernel_rfl)) (by kernel_rfl) (by kernel_rfl) (hh_list hg) (free_list (by simp [allLt, gHp])) ?_ ?_
  · rintro s ys w' rfl H
    exact ⟨rfl, H.below⟩
  intro L F T G nd va hE
  obtain ⟨hL, hF, hs, hv, hT, hG, hR, hI, hJ, hW⟩ := hE
  rw [Tryz.results4] at hF
  simp (maxSteps := 1000000) only [En.nN, En.E, En.evsC, List.map_cons, List.map_nil, ne_eq, En.bitN, Nat.testBit, seval] at hv
  simp only [En.at_nil, En.at_cons, En.ag_nil, En.ag_cons, and_true, tlSw, glKw, tyInt, tyU8, tyBool, tyStr, tyErr, tyStrs, tyBytes, tyInts, tyLat, tyI2, tyTy, tyTys, tyRule] at hT hG
  simp (maxSteps := 10000000) only [En.E, En.evsC, List.map_cons, List.map_nil, ne_eq, En.bitN, Nat.testBit, seval, En.vV, hs, hv, hT, hG, hF, gHp, h4, h3, globR_q, spTrue_q]
end Pr
end Go.Proofs.YtnpkmimbnjnicaaGreatDoor
