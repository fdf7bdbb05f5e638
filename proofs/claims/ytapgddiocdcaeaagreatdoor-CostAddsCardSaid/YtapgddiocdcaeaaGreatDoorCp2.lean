/-
Chapter 25, plainly: what a node with operands costs.
-/
import Derived.Test.YtapgddiocdcaeaaGreatDoorOpC
import Derived.Test.YtapgddiocdcaeaaGreatDoorRe2
set_option linter.unusedSimpArgs false
set_option linter.unusedVariables false
namespace Go.Proofs.YtapgddiocdcaeaaGreatDoor
namespace Pr
open Go Go.RowKit En
namespace Wn
open Ex
/-! ### a window of a list of nodes -/
section
variable {n n' p e : Nat} {M K M' K' : Nat → Nat}
/-- the nodes from p to e, seen alone -/
structure Win (n n' p e : Nat) (M K M' K' : Nat → Nat) : Prop where
  len : n' = e - p
  le : e ≤ n
  ge : p ≤ e
  m : ∀ i, i < n' → M' i = M (p + i)
  k : ∀ i, i < n' → K' i = K (p + i)
theorem win_ends (h : Win n n' p e M K M' K') (hK : Fine n K) : ∀ (d k a x : Nat), n - (p + a) ≤ d → p + a ≤ n → ends n M K k (p + a) = some x → x ≤ e →
    ends n' M' K' k a = some (x - p) ∧ nodes n' M' K' k a = (nodes n M K k (p + a)).map (· - p) ∧ ∀ q ∈ nodes n M K k (p + a), p ≤ q := by
  intro d
  induction d with
  | zero =>
    intro k a x hd ha hx hle
    cases k with
    | zero => rw [ends_zero] at hx; cases hx; rw [ends_zero, Ex.nodes_zero, Ex.nodes_zero]; exact ⟨by congr 1; omega, rfl, fun q hq => (by cases hq)⟩
    | succ k => rw [ends_out n M K (by omega)] at hx; cases hx
  | succ d ih =>
    intro k a x hd ha hx hle
    cases k with
    | zero => rw [ends_zero] at hx; cases hx; rw [ends_zero, Ex.nodes_zero, Ex.nodes_zero]; exact ⟨by congr 1; omega, rfl, fun q hq => (by cases hq)⟩
    | succ k =>
      by_cases hn : p + a < n
      · have hb := ends_bound hK ha hx
        rw [ends_in n M K hn] at hx
        have hK' := hK _ hn
        have h1 := h.len
        have ha' : a < n' := by omega
        obtain ⟨i1, i2, i3⟩ := ih (k + M (p + a)) (a + 1 + K (p + a)) x (by omega) (by omega) (by rw [show p + (a + 1 + K (p + a)) = p + a + 1 + K (p + a) by omega]; exact hx) hle
        rw [show p + (a + 1 + K (p + a)) = p + a + 1 + K (p + a) by omega] at i2 i3
        rw [ends_in n' M' K' ha', Ex.nodes_in ha', Ex.nodes_in hn, h.m a ha', h.k a ha', i1, i2]
        refine ⟨rfl, by rw [List.map_cons]; congr 1; omega, fun q hq => ?_⟩
        rcases List.mem_cons.1 hq with rfl | hq
        · omega
        · exact i3 q hq
      · rw [ends_out n M K (by omega)] at hx; cases hx
theorem win_plc (h : Win n n' p e M K M' K') (hK : Fine n K) : ∀ (m a x : Nat), p + a ≤ n → ends n M K m (p + a) = some x → x ≤ e →
    plcP n' M' K' m a = (plcP n M K m (p + a)).map (· - p) ∧ ∀ q ∈ plcP n M K m (p + a), p ≤ q ∧ EndR n M K q ≤ e ∧ Whole n M K q
  | 0, a, x, _, _, _ => ⟨rfl, fun q hq => (by cases hq)⟩
  | m + 1, a, x, ha, hx, hle => by
    rw [ends_succ] at hx
    cases h1 : ends n M K 1 (p + a) with
    | none => rw [h1] at hx; cases hx
    | some y =>
      rw [h1] at hx
      have hy := ends_bound hK ha h1
      have hxy := ends_bound hK hy.2 hx
      have hw : Whole n M K (p + a) := by rw [Whole, h1]; rfl
      obtain ⟨w1, _, _⟩ := win_ends h hK _ 1 a y (Nat.le_refl _) ha h1 (by omega)
      have e1 : EndP n M K (p + a) = y := by rw [EndP, h1]; rfl
      have e2 : EndP n' M' K' a = y - p := by rw [EndP, w1]; rfl
      have e3 : EndR n M K (p + a) = y := by rw [EndR, h1]; rfl
      have hl := h.len
      obtain ⟨r1, r2⟩ := win_plc h hK m (y - p) x (by omega) (by rw [show p + (y - p) = y by omega]; exact hx) hle
      rw [show p + (y - p) = y by omega] at r1 r2
      rw [plcP, plcP, if_neg (by omega), if_neg (by have := hw.lt; omega), e1, e2, r1]
      refine ⟨by rw [List.map_cons]; congr 1; omega, fun q hq => ?_⟩
      rcases List.mem_cons.1 hq with rfl | hq
      · exact ⟨by omega, by omega, hw⟩
      · exact r2 q hq
theorem win_dep (h : Win n n' p e M K M' K') (hK : Fine n K) (hK' : Fine n' K') : ∀ (d a : Nat), n - (p + a) ≤ d → Whole n M K (p + a) → EndR n M K (p + a) ≤ e → Dep n' M' K' a = Dep n M K (p + a) := by
  intro d
  induction d with
  | zero => intro a hd hw _; have := hw.lt; omega
  | succ d ih =>
    intro a hd hw he
    have hlt := hw.lt
    have hx := hw
    rw [Whole] at hx
    obtain ⟨x, hx⟩ := Option.isSome_iff_exists.1 hx
    have hxe : EndR n M K (p + a) = x := by rw [EndR, hx]; rfl
    have hb := ends_bound hK (Nat.le_of_lt hlt) hx
    have hl := h.len
    have ha' : a < n' := by omega
    rw [ends_one n M K hlt] at hx
    have hf := hK _ hlt
    obtain ⟨w1, w2⟩ := win_plc h hK (M (p + a)) (a + 1 + K (p + a)) x (by omega) (by rw [show p + (a + 1 + K (p + a)) = p + a + 1 + K (p + a) by omega]; exact hx) (by omega)
    rw [show p + (a + 1 + K (p + a)) = p + a + 1 + K (p + a) by omega] at w1 w2
    have k1 : kidsP n' M' K' a = (kidsP n M K (p + a)).map (· - p) := by rw [kidsP, kidsP, h.m a ha', h.k a ha', w1]
    rw [Dep_rec hK' ha', Dep_rec hK hlt, k1, List.map_map]
    congr 2
    refine List.map_congr_left fun q hq => ?_
    obtain ⟨q1, q2, q3⟩ := w2 q hq
    have q4 := kidsP_in hK hq
    show Dep n' M' K' (q - p) = Dep n M K q
    have := ih (q - p) (by omega) (by rw [show p + (q - p) = q by omega]; exact q3) (by rw [show p + (q - p) = q by omega]; exact q2)
    rwa [show p + (q - p) = q by omega] at this
end
end Wn
open Ex Wn
/-- a subtree, alone -/
def sub (l : List Nd) (p : Nat) : List Nd := (l.drop p).take (eR l p - p)
theorem ndAt_sub {l : List Nd} {p m i : Nat} (hi : i < m) : ndAt ((l.drop p).take m) i = ndAt l (p + i) := by
  simp [ndAt, List.getD_eq_getElem?_getD, List.getElem?_take, hi, List.getElem?_drop]
theorem plain_of {l : List Nd} (hg : Good l) (hb : ∀ i, i < l.length → badL l i = false) : Plain l.length (Ms l) (Ks l) := by
  intro j hj hk
  have h3 : (ndAt l j).k = 3 := by
    by_cases e : (ndAt l j).k = 3
    · exact e
    · have : Ks l j = 0 := if_neg e
      omega
  refine ⟨by simp [Ms, Mn, opN, h3], fun q h1 h2 => ?_⟩
  have := bad_num (hb j hj) h3 (q - (j + 1)) (by omega)
  rw [show j + 1 + (q - (j + 1)) = q by omega] at this
  exact ⟨by simp [Ms, Mn, opN, this], by simp [Ks, Kn, this]⟩
theorem clF_iff (ns : Fs) (l : List Nd) : ∀ (f i : Nat), l.length ≤ i + f → (clF ns l f i = 0 ↔ ∀ j, i ≤ j → j < l.length → (ndAt l j).k = 6 → ¬ lastI ns (ndAt l j).nm < 0 ∧ ((nsAt ns (lastI ns (ndAt l j).nm).toNat).2 : Int) = (ndAt l j).c)
  | 0, i, hf => ⟨fun _ j h1 h2 => by omega, fun _ => rfl⟩
  | f + 1, i, hf => by
    rw [clF]
    have ih := clF_iff ns l f (i + 1) (by omega)
    by_cases hi : l.length ≤ i
    · rw [if_pos hi]; exact ⟨fun _ j h1 h2 => by omega, fun _ => rfl⟩
    · rw [if_neg hi]
      have step : (∀ j, i ≤ j → j < l.length → (ndAt l j).k = 6 → ¬ lastI ns (ndAt l j).nm < 0 ∧ ((nsAt ns (lastI ns (ndAt l j).nm).toNat).2 : Int) = (ndAt l j).c) ↔ (((ndAt l i).k = 6 → ¬ lastI ns (ndAt l i).nm < 0 ∧ ((nsAt ns (lastI ns (ndAt l i).nm).toNat).2 : Int) = (ndAt l i).c) ∧ ∀ j, i + 1 ≤ j → j < l.length → (ndAt l j).k = 6 → ¬ lastI ns (ndAt l j).nm < 0 ∧ ((nsAt ns (lastI ns (ndAt l j).nm).toNat).2 : Int) = (ndAt l j).c) := by
        refine ⟨fun h => ⟨h i (Nat.le_refl _) (by omega), fun j h1 h2 => h j (by omega) h2⟩, fun h j h1 h2 => ?_⟩
        by_cases e : j = i
        · subst e; exact h.1
        · exact h.2 j (by omega) h2
      rw [step, ← ih]
      by_cases h6 : (ndAt l i).k = 6
      · simp only [h6, ne_eq, not_true_eq_false, if_false, true_implies]
        by_cases h1 : lastI ns (ndAt l i).nm < 0
        · simp [h1]
        · by_cases h2 : ((nsAt ns (lastI ns (ndAt l i).nm).toNat).2 : Int) = (ndAt l i).c
          · simp [h1, h2]
          · simp [h1, h2]
      · simp [h6]
/-- a subtree of an expression without errors is one -/
theorem sub_ok {l : List Nd} (h0 : (chkV l).2 = 0) {p : Nat} (hp : p < l.length) (hn : nuV l p = false) (hd : dpV l p ≤ 24) :
    p < eR l p ∧ eR l p ≤ l.length ∧ (sub l p).length = eR l p - p ∧ (chkV (sub l p)).2 = 0 ∧ Win l.length (sub l p).length p (eR l p) (Ms l) (Ks l) (Ms (sub l p)) (Ks (sub l p)) ∧ ends l.length (Ms l) (Ks l) 1 p = some (eR l p) := by
  obtain ⟨k0, k1, hg, k4⟩ := chk_ok h0
  have hb := chk_bad h0
  have hF := hg.fine
  have hP := plain_of hg hb
  obtain ⟨t1, t2, t3⟩ := chk_tree h0
  have hw := all_whole hF hP t1 t2 hp hn
  have hc := clean_of hP (Nat.le_of_lt hp) hn
  have hx := hw
  rw [Whole] at hx
  obtain ⟨e, he⟩ := Option.isSome_iff_exists.1 hx
  have hee : eR l p = e := by rw [eR, EndR, he]; rfl
  have hbe := ends_bound hF (Nat.le_of_lt hp) he
  have hce := (nodes_filter hF hP _ 1 p e (Nat.le_refl _) (Nat.le_of_lt hp) hc he).2
  have hlen : (sub l p).length = eR l p - p := by rw [sub, List.length_take, List.length_drop]; omega
  have hat : ∀ i, i < eR l p - p → ndAt (sub l p) i = ndAt l (p + i) := fun i hi => ndAt_sub hi
  have hW : Win l.length (sub l p).length p (eR l p) (Ms l) (Ks l) (Ms (sub l p)) (Ks (sub l p)) :=
    ⟨hlen, by omega, by omega, fun i hi => by rw [hlen] at hi; simp only [Ms, hat i hi], fun i hi => by rw [hlen] at hi; simp only [Ks, hat i hi]⟩
  have f1 : ∀ i, i < (sub l p).length → faultV (ndAt (sub l p) i) = 0 := fun i hi => by
    rw [hlen] at hi; rw [hat i hi]
    by_cases hx : 0 ≤ faultF l
    · exfalso
      have hany : ((List.range l.length).any fun i => faultV (ndAt l i) != 0) = true := by rw [← idxV_any]; exact decide_eq_true hx
      rw [chkV, if_neg k0, if_neg (by omega), if_pos hx] at h0
      have hq : faultF l = ((List.range l.length).find? fun i => faultV (ndAt l i) != 0).elim (-1) fun i => (i : Int) := rfl
      cases ef : (List.range l.length).find? fun i => faultV (ndAt l i) != 0 with
      | none => rw [ef] at hq; rw [hq] at hx; exact absurd hx (by decide)
      | some i =>
        rw [ef] at hq
        have hp := (List.find?_range_eq_some.1 ef).1
        rw [hq] at h0
        simp only [Option.elim, Int.toNat_natCast] at h0
        rw [h0] at hp; cases hp
    · simpa using idxV_neg hx (p + i) (by omega)
  have f2 : ∀ i, i < (sub l p).length → badL (sub l p) i = false := fun i hi => by
    have hi' := hi
    rw [hlen] at hi
    by_cases h3 : (ndAt l (p + i)).k = 3
    · have hk : ((ndAt (sub l p) i).k == 3) = true := by rw [hat i hi, h3]; rfl
      have hK : Ks (sub l p) i = Ks l (p + i) := hW.k i hi'
      have hcl := hce (p + i) (by omega)
      rw [badL, hk, Bool.true_and, Bool.or_eq_false_iff, hK]
      refine ⟨decide_eq_false (by omega), List.any_eq_false.2 fun j hj => ?_⟩
      have hj' := List.mem_range.1 hj
      rw [hat _ (by omega), show p + (i + 1 + j) = p + i + 1 + j by omega, bad_num (hb (p + i) (by omega)) h3 j hj']
      simp
    · have hk : ((ndAt (sub l p) i).k == 3) = false := by rw [hat i hi]; simpa using h3
      rw [badL, hk]; rfl
  have s0 : ¬ (sub l p).length = 0 := by omega
  have s1 : ¬ 400 < (sub l p).length := by omega
  have hg' := good_of (by omega) f1 f2
  have w1 := (win_ends hW hF _ 1 0 e (Nat.le_refl _) (by omega) he (by omega)).1
  have w2 := win_dep hW hF hg'.fine _ 0 (Nat.le_refl _) hw (by show eR l p ≤ _; exact Nat.le_refl _)
  refine ⟨by omega, by omega, hlen, ?_, hW, by rw [hee]; exact he⟩
  have e0 : EndR (sub l p).length (Ms (sub l p)) (Ks (sub l p)) 0 = (sub l p).length := by rw [EndR, w1, hlen, hee]; rfl
  rw [chk4 s0 s1 f1 f2, lastV, last_same hg'.fine (by omega), lastR, e0, if_neg (by omega), if_neg (by omega), if_neg (by rw [w2]; show ¬ 24 < dpV l p; omega)]
  rfl
/-! ### steps, node by node -/
def wN (ns : Fs) (bs : List Int) (l : List Nd) (j : Nat) : Int := if (ndAt l j).k = 6 then 1 + bs.getD (lastI ns (ndAt l j).nm).toNat 0 else 1
def sumN (f : Nat → Int) : List Nat → Int
  | [] => 0
  | j :: l => f j + sumN f l
theorem sumN_app (f : Nat → Int) : ∀ a b : List Nat, sumN f (a ++ b) = sumN f a + sumN f b
  | [], b => by simp [sumN]
  | x :: a, b => by rw [List.cons_append, sumN, sumN, sumN_app f a b]; omega
theorem exF_sum (ns : Fs) (bs : List Int) (l : List Nd) (hF : Fine l.length (Ks l)) : ∀ (f k a : Nat) (s : Int), l.length ≤ a + f → a ≤ l.length → ends l.length (Ms l) (Ks l) k a = some l.length →
    exF ns bs l f a s = s + sumN (wN ns bs l) (nodes l.length (Ms l) (Ks l) k a)
  | 0, k, a, s, hf, ha, he => by
    have : a = l.length := by omega
    subst this
    cases k with
    | zero => rw [Ex.nodes_zero, exF, sumN]; omega
    | succ k => rw [Ex.nodes_out (Nat.le_refl _), exF, sumN]; omega
  | f + 1, k, a, s, hf, ha, he => by
    cases k with
    | zero =>
      rw [ends_zero] at he
      cases he
      rw [Ex.nodes_zero, exF, if_pos (Nat.le_refl _), sumN]; omega
    | succ k =>
      by_cases hn : a < l.length
      · rw [ends_in _ _ _ hn] at he
        rw [exF, if_neg (by omega), Ex.nodes_in hn, sumN, exF_sum ns bs l hF f (k + Ms l a) (a + 1 + Ks l a) _ (by omega) (hF a hn) he]
        rw [wN]
        split <;> omega
      · rw [ends_out _ _ _ (by omega)] at he; cases he
def stepsT (ns : Fs) (bs : List Int) (l : List Nd) (p : Nat) : Int := sumN (wN ns bs l) (nodes l.length (Ms l) (Ks l) 1 p)
theorem exV_all {ns : Fs} {bs : List Int} {l : List Nd} (h0 : (chkV l).2 = 0) : exV ns bs l = minV (stepsT ns bs l 0) := by
  obtain ⟨t1, t2, _⟩ := chk_tree h0
  have hg := (chk_ok h0).2.2.1
  have hx := t1
  rw [Whole] at hx
  obtain ⟨e, he⟩ := Option.isSome_iff_exists.1 hx
  have hee : eR l 0 = e := by rw [eR, EndR, he]; rfl
  rw [exV, exF_sum ns bs l hg.fine l.length 1 0 0 (by omega) (Nat.zero_le _) (by rw [he, ← hee, t2]), stepsT]
  congr 1; omega
theorem sumN_map (f g : Nat → Int) (h : Nat → Nat) : ∀ l : List Nat, (∀ j ∈ l, f (h j) = g j) → sumN f (l.map h) = sumN g l
  | [], _ => rfl
  | x :: l, hx => by
    rw [List.map_cons, sumN, sumN, hx x (List.mem_cons_self ..), sumN_map f g h l fun j hj => hx j (List.mem_cons_of_mem _ hj)]
theorem exV_sub {ns : Fs} {bs : List Int} {l : List Nd} (h0 : (chkV l).2 = 0) {p : Nat} (hp : p < l.length) (hn : nuV l p = false) (hd : dpV l p ≤ 24) : exV ns bs (sub l p) = minV (stepsT ns bs l p) := by
  obtain ⟨a1, a2, a3, a4, hW, a6⟩ := sub_ok h0 hp hn hd
  have hg := (chk_ok h0).2.2.1
  rw [exV_all a4, stepsT, stepsT]
  obtain ⟨w1, w2, w3⟩ := win_ends hW hg.fine _ 1 0 _ (Nat.le_refl _) (by omega) a6 (Nat.le_refl _)
  rw [Nat.add_zero] at w2 w3
  rw [w2]
  congr 1
  refine sumN_map _ _ _ _ fun j hj => ?_
  have hj1 := w3 j hj
  have hj2 := (nodes_whole hg.fine _ 1 p _ (Nat.le_refl _) (Nat.le_of_lt hp) a6 j hj)
  have hj3 := EndR_gt (M := Ms l) hg.fine hj2.1.lt
  have : ndAt (sub l p) (j - p) = ndAt l j := by
    rw [sub, ndAt_sub (by omega), show p + (j - p) = j by omega]
  rw [wN, wN, this]
theorem sumN_flat (f : Nat → Int) (g : Nat → List Nat) : ∀ l : List Nat, sumN f (l.flatMap g) = sumN (fun p => sumN f (g p)) l
  | [] => rfl
  | x :: l => by rw [List.flatMap_cons, sumN_app, sumN, sumN_flat f g l]
theorem sumN_pos {f : Nat → Int} : ∀ l : List Nat, (∀ j, 1 ≤ f j) → (l.length : Int) ≤ sumN f l
  | [], _ => Int.le_refl 0
  | x :: l, h => by
    have := sumN_pos l h
    have := h x
    rw [sumN, List.length_cons]; omega
theorem wN_pos (ns : Fs) {bs : List Int} (hb : bsOk bs) (l : List Nd) (j : Nat) : 1 ≤ wN ns bs l j := by
  rw [wN]
  split
  · have := hb (lastI ns (ndAt l j).nm).toNat; omega
  · exact Int.le_refl 1
/-- the steps of the first node, and of its operands -/
theorem steps_root {ns : Fs} {bs : List Int} {l : List Nd} (h0 : (chkV l).2 = 0) : stepsT ns bs l 0 = wN ns bs l 0 + sumN (stepsT ns bs l) (kidsR l.length (Ms l) (Ks l) 0) := by
  obtain ⟨t1, t2, _⟩ := chk_tree h0
  obtain ⟨k0, _, hg, _⟩ := chk_ok h0
  have hl : 0 < l.length := by omega
  have hx := t1
  rw [Whole] at hx
  obtain ⟨e, he⟩ := Option.isSome_iff_exists.1 hx
  rw [ends_one _ _ _ hl] at he
  rw [stepsT, nodes_one hl, sumN, nodes_plc hg.fine _ _ e (hg.fine 0 hl) he, ← (t1.kids hg.fine).1, sumN_flat]
  rfl
theorem ord_le {ns : Fs} {bs : List Int} (hb : bsOk bs) {l : List Nd} (h0 : (chkV l).2 = 0) : ((ordI l 0).length : Int) ≤ exV ns bs l := by
  obtain ⟨t1, _, _⟩ := chk_tree h0
  obtain ⟨_, _, hg, _⟩ := chk_ok h0
  have hlen := hg.len
  have h1 := ordI_len hg t1
  rw [exV_all h0]
  have h2 : (ordI l 0).length = (nodes l.length (Ms l) (Ks l) 1 0).length := by rw [ordI, List.length_map, Ord_nodes hg.fine _ 0 (Nat.le_refl _) t1, List.length_reverse]
  have h3 := sumN_pos (f := wN ns bs l) (nodes l.length (Ms l) (Ks l) 1 0) (wN_pos ns hb l)
  rw [minV]
  rw [stepsT] at *
  split <;> omega
end Pr
end Go.Proofs.YtapgddiocdcaeaaGreatDoor
/-
Chapter 25: the walk of CostAdds.
-/
set_option linter.unusedSimpArgs false
set_option linter.unusedVariables false
namespace Go.Proofs.YtapgddiocdcaeaaGreatDoor
namespace Pr
open Go Go.RowKit En
open Ex Wn
theorem rex_ok {ds : List Df} {l : List Nd} (h : (rexV ds l).2 = 0) : ds.length ≤ 16 ∧ rbE [] ds = 0 ∧ (chkV l).2 = 0 ∧ calV (nsOf ds) l = 0 ∧ (rexV ds l).1 = exV (nsOf ds) (bT ds ds.length) l := by
  rw [bT, List.take_length]
  rw [rexV] at h ⊢
  by_cases h1 : 16 < ds.length
  · rw [if_pos h1] at h; cases h
  · rw [if_neg h1] at h ⊢
    by_cases h2 : rbE [] ds = 0
    · rw [if_neg (by simp [h2])] at h ⊢
      by_cases h3 : (chkV l).2 = 0
      · rw [if_neg (by simp [h3])] at h ⊢
        by_cases h4 : calV (nsOf ds) l = 0
        · rw [if_neg (by simp [h4])]
          exact ⟨by omega, h2, h3, h4, rfl⟩
        · rw [if_pos h4] at h; exact absurd h h4
      · rw [if_pos h3] at h; exact absurd h h3
    · rw [if_pos h2] at h; exact absurd h h2
theorem rex_bad {ds : List Df} {l : List Nd} (h : (rexV ds l).2 ≠ 0) : (rexV ds l).1 = 0 := by
  rw [rexV] at h ⊢
  split
  · rfl
  · split
    · rfl
    · split
      · rfl
      · split
        · rfl
        · next h1 h2 h3 h4 => rw [if_neg h1, if_neg h2, if_neg h3, if_neg h4] at h; exact absurd rfl h
theorem rex_mk {ds : List Df} {l : List Nd} (h1 : ds.length ≤ 16) (h2 : rbE [] ds = 0) (h3 : (chkV l).2 = 0) (h4 : calV (nsOf ds) l = 0) : rexV ds l = (exV (nsOf ds) (bT ds ds.length) l, 0) := by
  rw [bT, List.take_length, rexV, if_neg (by omega), if_neg (by simp [h2]), if_neg (by simp [h3]), if_neg (by simp [h4])]
theorem rbE_take : ∀ (ds : List Df) (ns : Fs) (k : Nat), rbE ns ds = 0 → rbE ns (ds.take k) = 0
  | [], ns, k, h => by rw [List.take_nil]; exact h
  | d :: ds, ns, 0, h => rfl
  | d :: ds, ns, k + 1, h => by
    rw [List.take_succ_cons, rbE]
    rw [rbE] at h
    by_cases h1 : (chkV d.body).2 = 0
    · rw [if_neg (by simp [h1])] at h ⊢
      by_cases h2 : calV ns d.body = 0
      · rw [if_neg (by simp [h2])] at h ⊢
        exact rbE_take ds _ k h
      · rw [if_pos h2] at h; exact absurd h h2
    · rw [if_pos h1] at h; exact absurd h h1
theorem bT_at {ds : List Df} {k : Nat} : ∀ i, i ≤ ds.length → k < i → (bT ds i).getD k 0 = exV (nsOf (ds.take k)) (bT ds k) (dfAt ds k).body
  | 0, _, h => absurd h (Nat.not_lt_zero k)
  | i + 1, hi, h => by
    have hl := bT_len ds i (by omega)
    rw [bT_succ (by omega)]
    by_cases e : k = i
    · subst e
      rw [List.getD_eq_getElem?_getD, List.getElem?_append_right (by omega), hl]
      simp
    · rw [List.getD_eq_getElem?_getD, List.getElem?_append_left (by omega), ← List.getD_eq_getElem?_getD]
      exact bT_at i (by omega) (by omega)
theorem body_expr {ds : List Df} (h1 : ds.length ≤ 16) (h2 : rbE [] ds = 0) {k : Nat} (hk : k < ds.length) : exprV (ds.take k) (dfAt ds k).body = ((bT ds ds.length).getD k 0, 0) := by
  obtain ⟨r1, r2⟩ := rbE_ok ds [] h2 k hk
  rw [List.nil_append] at r2
  have hl : (ds.take k).length = k := by simp; omega
  rw [exprV_eq, rex_mk (by omega) (rbE_take ds [] k h2) r1 r2, bT_at _ (Nat.le_refl _) hk, hl]
  rw [bT, bT, List.take_take, Nat.min_self]
theorem dep_kid {l : List Nd} (h0 : (chkV l).2 = 0) {p : Nat} (hp : p ∈ kidsR l.length (Ms l) (Ks l) 0) : p < l.length ∧ nuV l p = false ∧ dpV l p ≤ 24 := by
  obtain ⟨t1, t2, t3⟩ := chk_tree h0
  obtain ⟨k0, _, hg, _⟩ := chk_ok h0
  have hF := hg.fine
  have hP := plain_of hg (chk_bad h0)
  have hk := t1.kids hF
  have hpP : p ∈ kidsP l.length (Ms l) (Ks l) 0 := by rw [hk.1]; exact hp
  have hin := kidsP_in hF hpP
  have hl : 0 < l.length := by omega
  have hx := t1
  rw [Whole] at hx
  obtain ⟨e, he⟩ := Option.isSome_iff_exists.1 hx
  have he1 := he
  rw [ends_one _ _ _ hl] at he1
  have hmem : p ∈ nodes l.length (Ms l) (Ks l) 1 0 := by
    rw [nodes_one hl, nodes_plc hF _ _ e (hF 0 hl) he1]
    refine List.mem_cons_of_mem _ (List.mem_flatMap.2 ⟨p, hpP, ?_⟩)
    rw [nodes_one hin.2]; exact List.mem_cons_self
  rw [(nodes_filter hF hP _ 1 0 e (Nat.le_refl _) (Nat.zero_le _) Clean.zero he).1, List.mem_filter] at hmem
  refine ⟨hin.2, by simpa [nuV] using hmem.2, ?_⟩
  have hm : ∀ (xs : List Nat) (z : Nat), z ≤ xs.foldl max z ∧ ∀ x ∈ xs, x ≤ xs.foldl max z := by
    intro xs
    induction xs with
    | nil => exact fun z => ⟨Nat.le_refl z, fun x hx => by cases hx⟩
    | cons y xs ih =>
      intro z
      obtain ⟨i1, i2⟩ := ih (max z y)
      rw [List.foldl_cons]
      refine ⟨by omega, fun x hx => ?_⟩
      rcases List.mem_cons.1 hx with rfl | hx
      · omega
      · exact i2 x hx
  have hr := Dep_recR hF t1
  have := (hm ((kidsR l.length (Ms l) (Ks l) 0).map (Dep l.length (Ms l) (Ks l))) 0).2 (dpV l p) (List.mem_map.2 ⟨p, hp, rfl⟩)
  rw [most] at hr
  simp only [dpV] at t3 this ⊢
  omega
theorem kid_facts {ds : List Df} {l : List Nd} (h1 : ds.length ≤ 16) (h2 : rbE [] ds = 0) (h0 : (chkV l).2 = 0) (h4 : calV (nsOf ds) l = 0) {p : Nat} (hp : p ∈ kidsR l.length (Ms l) (Ks l) 0) :
    p < eR l p ∧ eR l p ≤ l.length ∧ askV l p = 0 ∧ (sub l p).length = eR l p - p ∧ exprV ds (sub l p) = (minV (stepsT (nsOf ds) (bT ds ds.length) l p), 0) := by
  obtain ⟨k1, k2, k3⟩ := dep_kid h0 hp
  obtain ⟨a1, a2, a3, a4, hW, a6⟩ := sub_ok h0 k1 k2 k3
  refine ⟨a1, a2, ?_, a3, ?_⟩
  · rw [askV, if_neg (by simp [h0]), Int.toNat_natCast, k2, if_neg (by simp; omega)]
  · rw [exprV_eq, rex_mk h1 h2 a4 ?_, exV_sub h0 k1 k2 k3]
    rw [calV, clF_iff _ _ _ _ (by omega)] at h4 ⊢
    intro j _ hj h6
    rw [a3] at hj
    have e : ndAt (sub l p) j = ndAt l (p + j) := ndAt_sub hj
    rw [e] at h6 ⊢
    exact h4 (p + j) (Nat.zero_le _) (by omega) h6
theorem minV_add (c s : Int) (hc : 0 ≤ c) (hs : 0 ≤ s) : minV (c + minV s) = minV (c + s) := by
  unfold minV
  repeat' split
  all_goals omega
theorem min_sum {f : Nat → Int} : ∀ (L : List Nat) (c : Int), 0 ≤ c → (∀ p ∈ L, 0 ≤ f p) → minV (c + sumN (fun p => minV (f p)) L) = minV (c + sumN f L) ∧ 0 ≤ sumN f L ∧ 0 ≤ sumN (fun p => minV (f p)) L
  | [], c, _, _ => ⟨rfl, Int.le_refl 0, Int.le_refl 0⟩
  | p :: L, c, hc, h => by
    have hp := h p (List.mem_cons_self ..)
    have hm : 0 ≤ minV (f p) := by unfold minV; split <;> omega
    obtain ⟨i1, i2, i3⟩ := min_sum L (c + f p) (by omega) fun q hq => h q (List.mem_cons_of_mem _ hq)
    rw [sumN, sumN]
    refine ⟨?_, by omega, by omega⟩
    have e1 : c + (minV (f p) + sumN (fun p => minV (f p)) L) = (c + sumN (fun p => minV (f p)) L) + minV (f p) := by omega
    rw [e1, minV_add _ _ (by omega) hp, show c + sumN (fun p => minV (f p)) L + f p = c + f p + sumN (fun p => minV (f p)) L by omega, i1]
    congr 1; omega
theorem NdR_s {l : List Nd} {p m y : Nat} {X : Option Addr} : NdR X m y (.recs X y 7 m fun i => ndC (ndAt l (p + i))) = True := by
  refine eq_true ⟨rfl, rfl, rfl, fun i hi => ?_⟩
  have : ndAt (nodesL m fun i => ndC (ndAt l (p + i))) i = ndAt l (p + i) := by
    simp only [ndAt, nodesL, List.getD_eq_getElem?_getD, List.getElem?_map, List.getElem?_range hi, Option.map_some, Option.getD_some]
    rfl
  rw [this]
theorem chL_s {l : List Nd} {p m y : Nat} {X : Option Addr} (h : p + m ≤ l.length) : chL m (.recs X y 7 m fun i => ndC (ndAt l (p + i))) = (l.drop p).take m := by
  apply List.ext_getElem
  · simp [chL, nodesL]; omega
  · intro i h1 h2
    have hi : i < m := by simpa [chL, nodesL] using h1
    simp only [chL, nodesL, List.getElem_map, List.getElem_range, List.getElem_take, List.getElem_drop]
    have : unNd (ndC (ndAt l (p + i))) = ndAt l (p + i) := rfl
    rw [this]
    simp [ndAt, List.getD_eq_getElem?_getD, show p + i < l.length by omega]
theorem DfR_p {kb k c : Nat} {ds : List Df} {X : Option Addr} (h : k ≤ ds.length) : dsL k (.recs X c 3 k fun j => dfC kb (dfAt ds j)) (dfD ds) = ds.take k ∧ DfR X k c (.recs X c 3 k fun j => dfC kb (dfAt ds j)) (dfD ds) := by
  have e : dsL k (.recs X c 3 k fun j => dfC kb (dfAt ds j)) (dfD ds) = ds.take k := by
    apply List.ext_getElem
    · simp [dsL, dfD]; omega
    · intro i h1 h2
      have hi : i < k := by simp at h2; omega
      simp only [dsL, dfD, List.getElem_map, List.getElem_range, nodesL_q, List.getElem_take]
      simp [dfC, unDf, dfAt, show i < ds.length by omega]
  refine ⟨e, ?_⟩
  simp only [dfD] at e
  simp only [DfR, dfD, true_and, e, nodesL_q, implies_true, and_true]
  refine ⟨h, kb, fun i hi => ?_⟩
  have : dfAt (ds.take k) i = dfAt ds i := by simp [dfAt, List.getD_eq_getElem?_getD, List.getElem?_take, hi]
  rw [this]
theorem zs_sub {l : List Nd} (hz : zsN l) {p : Nat} (h : eR l p ≤ l.length) (hl : (sub l p).length = eR l p - p) : zsN (sub l p) := by
  intro i hi
  rw [hl] at hi
  rw [sub, ndAt_sub hi]
  exact hz (p + i) (by omega)
theorem dfOk_take {ds : List Df} (h : dfOk ds) (k : Nat) : dfOk (ds.take k) := by
  intro i hi
  have hi' : i < k ∧ i < ds.length := by simp at hi; omega
  have : dfAt (ds.take k) i = dfAt ds i := by simp [dfAt, List.getD_eq_getElem?_getD, List.getElem?_take, hi'.1]
  rw [this]; exact h i hi'.2
theorem nsAt_of {ds : List Df} {j : Nat} (h : j < ds.length) : (nsAt (nsOf ds) j).1 = (dfAt ds j).nm := by
  simp [nsAt, nsOf, dfAt, List.getD_eq_getElem?_getD, h]
def glCa2 : List (FuncId × Spc) := [(17, spFar), (18, spExpr25), (24, spROrder), (25, spRKids), (26, spRSize), (12, spAwake25)]
theorem glCa2_ok : GOk Tryz.prog (lookG glCa2) := lG_cons (by kernel_rfl) spFar_ok <| lG_cons (by kernel_rfl) spExpr25_ok <| lG_cons (by kernel_rfl) spROrder_ok <| lG_cons (by kernel_rfl) spRKids_ok <| lG_cons (by kernel_rfl) spRSize_ok <| lG_cons (by kernel_rfl) spAwake25_ok lG_nil
def tlCd : List (TypeId × TI) := [tyInt, tyI64, tyBool, tyStr, tyStrs, tyErr, tyNode, tyNodes, tyDef, tyDefs, tyInts]
theorem tlCd_ok : TyAll Tryz.prog (lookT tlCd) := tyAll_p tyInt_ok <| tyAll_p tyI64_ok <| tyAll_p tyBool_ok <| tyAll_p tyStr_ok <| tyAll_p tyStrs_ok <| tyAll_p tyErr_ok <| tyAll_p tyNode_ok <| tyAll_p tyNodes_ok <| tyAll_p tyDef_ok <| tyAll_p tyDefs_ok <| tyAll_p tyInts_ok tyAll_nil
section
variable (ds : List Df) (A : Option Addr) (c : Nat) (l : List Nd) (B : Option Addr) (d bn on cn ba oa ca : Nat) (E : Option Addr) (e : Nat) (n : Int)
def adI (i : Nat) (s : Int) : SS := ⟨[(0, .g 1000 A ds.length c), (1, .g 1003 B l.length d), (5, .v (.int .i64 n)), (9, .g 1005 E (kidI l 0).length e), (11, .v (.int .i64 s)), (12, .v (.int .i64 i))], (1005, .ints E e .i64 (kidI l 0)) :: exH ds A c l B d bn on cn ba oa ca, 30000⟩
def adJ (j : Nat) (s : Int) : SS := ⟨[(0, .g 1000 A ds.length c), (1, .g 1003 B l.length d), (5, .v (.int .i64 n)), (11, .v (.int .i64 s)), (17, .v (.int .i64 ((j : Int) - 1)))], exH ds A c l B d bn on cn ba oa ca, 30000⟩
end
set_option maxRecDepth 100000 in
set_option maxHeartbeats 8000000 in
theorem costAdds_walk (ds : List Df) (hn : ds.length ≤ 9223372036854775807) (hd : dfM ds) (A : Option Addr) (c : Nat) (l : List Nd) (hlen : l.length ≤ 9223372036854775807) (hz : zsM l) (B : Option Addr) (d : Nat) (bn on cn ba oa ca : Nat) (h4 : 4 ≤ cn) (h3 : 3 ≤ ca) (w : World)
    (h : allRd w.heap.size w (exH ds A c l B d bn on cn ba oa ca)) :
    Calls Tryz.prog 6 #[.slice A ds.length c, .slice B l.length d] w fun e w' => e = .returned (.bool true) ∧ Below w.heap.size w w' := by
  refine calls_go (args := [.g 1000 A ds.length c, .g 1003 B l.length d]) (hp := exH ds A c l B d bn on cn ba oa ca) (nx := 1004) (n := 4000) (U := [(1000000, 20)]) (V := []) (tl := tlCd) (gl := glCa2) (post := fun s ys => ys = [.v (.bool true)])
    followP tlCd_ok glCa2_ok Tryz.func6 rfl (by kernel_rfl) (Nat.le_of_ble_eq_true (by kernel_rfl)) (by kernel_rfl) (by kernel_rfl) (hh_list h) (free_list (by simp [allLt, exH, gHu, gHp])) ?_ ?_
  · rintro s ys w' rfl H
    exact ⟨rfl, H.below⟩
  intro L F T G nd va hE
  obtain ⟨hL, hF, hs, hv, hT, hG, hR, hI, hJ, hW⟩ := hE
  rw [Tryz.results6] at hF
  simp (maxSteps := 1000000) only [En.nN, En.E, En.evsC, List.map_cons, List.map_nil, Nat.reduceBEq, Nat.reduceAdd, Nat.reduceMul, Nat.reduceEqDiff, Nat.reduceLeDiff, Nat.reduceLT, ne_eq, reduceCtorEq, Int.reduceBEq, Int.reduceBNe, Int.reduceAdd, Int.reduceSub, Int.reduceMul, Int.reduceTDiv, Int.reduceTMod, Int.reduceNeg, En.bitN, Nat.testBit, Nat.reduceShiftRight, Nat.reduceShiftLeft, Nat.reduceAnd, Nat.reduceOr, Nat.reduceBNe, Int.reduceToNat, Nat.reduceSub, Int.reduceLE, Int.reduceLT] at hv
  simp only [En.at_nil, En.at_cons, En.ag_nil, En.ag_cons, and_true, tlCd, glCa2, tyInt, tyI64, tyBool, tyStr, tyStrs, tyErr, tyNode, tyNodes, tyDef, tyDefs, tyInts] at hT hG
  cases hf : farV ds l with
  | true =>
    simp (maxSteps := 10000000) only [En.E, En.evsC, List.map_cons, List.map_nil, Nat.reduceBEq, Nat.reduceAdd, Nat.reduceMul, Nat.reduceEqDiff, Nat.reduceLeDiff, Nat.reduceLT, ne_eq, reduceCtorEq, Int.reduceBEq, Int.reduceBNe, Int.reduceAdd, Int.reduceSub, Int.reduceMul, Int.reduceTDiv, Int.reduceTMod, Int.reduceNeg, En.bitN, Nat.testBit, Nat.reduceShiftRight, Nat.reduceShiftLeft, Nat.reduceAnd, Nat.reduceOr, Nat.reduceBNe, Int.reduceToNat, Nat.reduceSub, Int.reduceLE, Int.reduceLT, En.vV, hs, hv, hT, hG, hF, exH, gHu, gHp, spFar_q, dfMo, DfR_q, dsL_q, NdR_q, chL_q, hn, hd, hlen, hz, hf, spAwake25_q, globR_q, globU_q, h4, h3]
  | false =>
    obtain ⟨f1, f2, f3, f4⟩ := far_no hf
    have f5 : ds.length ≤ 100000 := by omega
    have f6 : l.length ≤ 100000 := by omega
    obtain ⟨q, hq⟩ : ∃ q, q = rexV ds l := ⟨_, rfl⟩
    by_cases h0 : q.2 = 0
    · have d0 : (q.2 != 0) = false := by rw [h0]; rfl
      obtain ⟨r1, r2, r3, r4, r5⟩ := rex_ok (by rw [← hq]; exact h0)
      rw [← hq] at r5
      have hbo := bT_ok ds ds.length (Nat.le_refl _)
      have hvx := exV_in (nsOf ds) hbo l
      have hol := ord_le (ns := nsOf ds) hbo r3
      rw [← r5] at hvx hol
      have d1 : decide (q.1 < ((ordI l 0).length : Int)) = false := decide_eq_false (by omega)
      have d2 : decide (q.1 > 1000000000) = false := decide_eq_false (by omega)
      have hg := (chk_ok r3).2.2.1
      have hl0 : 0 < l.length := by have := (chk_ok r3).1; omega
      have ha0 : askV l 0 = 0 := by
        rw [askV, if_neg (by simp [r3]), if_neg]
        rintro (h | h | h)
        · omega
        · omega
        · cases h
      have i0 : inr .i64 ((ordI l 0).length : Int) := by
        have := ordI_len hg (chk_tree r3).1
        simp only [En.inr, En.lo, En.hi]; omega
      have z0 : (0 : Int).toNat = 0 := rfl
      simp (maxSteps := 10000000) only [En.E, En.evsC, List.map_cons, List.map_nil, Nat.reduceBEq, Nat.reduceAdd, Nat.reduceMul, Nat.reduceEqDiff, Nat.reduceLeDiff, Nat.reduceLT, ne_eq, reduceCtorEq, Int.reduceBEq, Int.reduceBNe, Int.reduceAdd, Int.reduceSub, Int.reduceMul, Int.reduceTDiv, Int.reduceTMod, Int.reduceNeg, En.bitN, Nat.testBit, Nat.reduceShiftRight, Nat.reduceShiftLeft, Nat.reduceAnd, Nat.reduceOr, Nat.reduceBNe, Int.reduceToNat, Nat.reduceSub, Int.reduceLE, Int.reduceLT, En.vV, hs, hv, hT, hG, hF, exH, gHu, gHp, spFar_q, dfMo, DfR_q, dsL_q, NdR_q, chL_q, hn, hd, hlen, hz, hf, spExpr25_q, dfCo, ckR, globR_q, globU_q, h4, h3, f2, f4, f5, f6, exprV_eq, ← hq, d0, spROrder_q, lsR_y r3, spRKids_q, lsR_y ha0, d1, d2, i0, z0]
      intro A1 c1 E e
      obtain ⟨ks, hks⟩ : ∃ ks, ks = kidsR l.length (Ms l) (Ks l) 0 := ⟨_, rfl⟩
      obtain ⟨sf, hsf⟩ : ∃ sf : Nat → Int, sf = fun p => minV (stepsT (nsOf ds) (bT ds ds.length) l p) := ⟨_, rfl⟩
      have hkl : (kidI l 0).length = ks.length := by rw [kidI_len, hks]
      have hk2 : ks.length ≤ 2 := by
        have hk := (chk_tree r3).1.kids hg.fine
        rw [hks, ← hk.1, hk.2.2]
        rcases M_lt hg hl0 with h | h | h <;> omega
      have spos : ∀ p, 0 ≤ stepsT (nsOf ds) (bT ds ds.length) l p := fun p => by
        have := sumN_pos (f := wN (nsOf ds) (bT ds ds.length) l) (nodes l.length (Ms l) (Ks l) 1 p) (wN_pos (nsOf ds) hbo l)
        rw [stepsT]; omega
      have sfb : ∀ p, 0 ≤ sf p ∧ sf p ≤ 1000000000 := fun p => by
        have := spos p
        rw [hsf]; simp only [minV]; split <;> omega
      have sumb : ∀ L : List Nat, 0 ≤ sumN sf L ∧ sumN sf L ≤ 1000000000 * L.length := by
        intro L
        induction L with
        | nil => exact ⟨Int.le_refl 0, by simp [sumN]⟩
        | cons x L ih => have := sfb x; rw [sumN, List.length_cons]; omega
      have hfin : q.1 = minV (wN (nsOf ds) (bT ds ds.length) l 0 + sumN sf ks) := by
        rw [r5, exV_all r3, steps_root r3, hsf, hks]
        exact (min_sum _ _ (by have := wN_pos (nsOf ds) hbo l 0; omega) fun p _ => spos p).1.symm
      refine hI {i : Nat // i ≤ ks.length} (fun x => adI ds A c l B d bn on cn ba oa ca E e q.1 x.1 (1 + sumN sf (ks.take x.1))) (fun x => ks.length - x.1) _ _ _
        ⟨0, Nat.zero_le _⟩ (sle_all [1516, 1003, 1000, 1001, 4, 5, 0, 1, 2, 3] (by decide) (by simp only [En.E, En.evsC, List.map_cons, List.map_nil, Nat.reduceBEq, Nat.reduceAdd, Nat.reduceMul, Nat.reduceEqDiff, Nat.reduceLeDiff, Nat.reduceLT, ne_eq, reduceCtorEq, Int.reduceBEq, Int.reduceBNe, Int.reduceAdd, Int.reduceSub, Int.reduceMul, Int.reduceTDiv, Int.reduceTMod, Int.reduceNeg, En.bitN, Nat.testBit, Nat.reduceShiftRight, Nat.reduceShiftLeft, Nat.reduceAnd, Nat.reduceOr, Nat.reduceBNe, Int.reduceToNat, Nat.reduceSub, Int.reduceLE, Int.reduceLT, En.slLe, En.hpLe, En.chE, En.allLt, adI, exH, gHu, gHp, dfH, dfD, den_gg, List.take_zero, sumN, Int.cast_ofNat_Int])) ?_
      rintro ⟨i, hi⟩
      refine hR 4000 _ _ ?_
      by_cases hlt : i < ks.length
      · have d3 : decide ((i : Int) < ((kidI l 0).length : Int)) = true := by rw [hkl]; exact decide_eq_true (by omega)
        have i1 : inr .i64 ((i : Int) + 1) := by simp only [En.inr, En.lo, En.hi]; omega
        obtain ⟨p, hp⟩ : ∃ p, p = ks[i] := ⟨_, rfl⟩
        have hpm : p ∈ kidsR l.length (Ms l) (Ks l) 0 := by rw [← hks, hp]; exact List.getElem_mem hlt
        obtain ⟨b1, b2, b3, b4, b5⟩ := kid_facts r1 r2 r3 r4 hpm
        have e1 : (kidI l 0).getD i 0 = (p : Int) := by
          have := kidI_at (l := l) (a := 0) (i := i) (by rw [← hks]; exact hlt)
          rw [this]; congr 1; rw [hp]; congr 1; rw [hks]
        have g1 : (0 : Int) ≤ i ∧ (i : Int) < (kidI l 0).length := by rw [hkl]; omega
        have g2 : (0 : Int) ≤ i ∧ i < (kidI l 0).length := by rw [hkl]; omega
        have s1 : sizV l (p : Int) = (eR l p : Int) - p := by rw [sizV, if_pos b3, Int.toNat_natCast]
        have s2 : (p : Int) + ((eR l p : Int) - p) = eR l p := by omega
        have i2 : inr .i64 (eR l p : Int) := by simp only [En.inr, En.lo, En.hi]; omega
        have s3 : (0 : Int) ≤ p ∧ (p : Int) ≤ eR l p ∧ (eR l p : Int) ≤ l.length := by omega
        have s4 : (0 : Int) ≤ p := by omega
        have s5 : (p : Int) ≤ eR l p := by omega
        have s6 : (eR l p : Int) ≤ l.length := by omega
        have s7 : eR l p - p ≤ 100000 := by omega
        have s8 : ∀ X y, chL (eR l p - p) (.recs X y 7 (eR l p - p) fun i => ndC (ndAt l (p + i))) = sub l p := fun X y => chL_s (by omega)
        have s9 := zs_sub f4 b2 b4
        have sb := sumb (ks.take i)
        have hsx : sumN sf (ks.take (i + 1)) = sumN sf (ks.take i) + sf p := by
          rw [List.take_succ_eq_append_getElem hlt, sumN_app, ← hp, sumN, sumN]; omega
        have b6 : (exprV ds (sub l p)).1 = sf p := by rw [b5, hsf]
        have b7 : (exprV ds (sub l p)).2 = 0 := by rw [b5]
        have hsp := sfb p
        have htl : (ks.take i).length ≤ 2 := by simp; omega
        have i3 : inr .i64 (1 + sumN sf (ks.take i) + sf p) := by simp only [En.inr, En.lo, En.hi]; omega
        simp (maxSteps := 10000000) only [En.E, En.evsC, List.map_cons, List.map_nil, Nat.reduceBEq, Nat.reduceAdd, Nat.reduceMul, Nat.reduceEqDiff, Nat.reduceLeDiff, Nat.reduceLT, ne_eq, reduceCtorEq, Int.reduceBEq, Int.reduceBNe, Int.reduceAdd, Int.reduceSub, Int.reduceMul, Int.reduceTDiv, Int.reduceTMod, Int.reduceNeg, En.bitN, Nat.testBit, Nat.reduceShiftRight, Nat.reduceShiftLeft, Nat.reduceAnd, Nat.reduceOr, Nat.reduceBNe, Int.reduceToNat, Nat.reduceSub, Int.reduceLE, Int.reduceLT, En.vV, hs, hv, hT, hG, hF, adI, exH, gHu, gHp, d3, i1, i2, i3, e1, g1, g2, spRSize_q, NdR_q, chL_q, f6, f4, b3, s1, s2, s3, s4, s5, s6, s7, s8, s9, spExpr25_q, dfCo, DfR_q, dsL_q, f2, f5, ckR, NdR_s, globR_q, globU_q, h4, h3, b6, b7, Int.toNat_natCast]
        have hsy : 1 + sumN sf (ks.take i) + sf p = 1 + sumN sf (ks.take (i + 1)) := by rw [hsx]; omega
        exact ⟨⟨i + 1, hlt⟩, (sle_all [1005, 1003, 1000, 1001, 4, 5, 0, 1, 2, 3] (by decide) (by simp only [En.E, En.evsC, List.map_cons, List.map_nil, Nat.reduceBEq, Nat.reduceAdd, Nat.reduceMul, Nat.reduceEqDiff, Nat.reduceLeDiff, Nat.reduceLT, ne_eq, reduceCtorEq, Int.reduceBEq, Int.reduceBNe, Int.reduceAdd, Int.reduceSub, Int.reduceMul, Int.reduceTDiv, Int.reduceTMod, Int.reduceNeg, En.bitN, Nat.testBit, Nat.reduceShiftRight, Nat.reduceShiftLeft, Nat.reduceAnd, Nat.reduceOr, Nat.reduceBNe, Int.reduceToNat, Nat.reduceSub, Int.reduceLE, Int.reduceLT, En.slLe, En.hpLe, En.chE, En.allLt, adI, exH, gHu, gHp, dfH, dfD, hsy, Int.natCast_add, Int.cast_ofNat_Int])), by simp only; omega⟩
      · have d3 : decide ((i : Int) < ((kidI l 0).length : Int)) = false := by rw [hkl]; exact decide_eq_false (by omega)
        obtain rfl : i = ks.length := by omega
        have sb := sumb ks
        have htl : ks.take ks.length = ks := List.take_length
        have hB : ¬B = none := slok_some h.1.1.1 (by omega)
        have l1 : (0 : Int) < (l.length : Int) := by omega
        by_cases h6 : (ndAt l 0).k = 6
        · have d4 : ((ndAt l 0).k == 6) = true := by rw [h6]; rfl
          have id : inr .i64 ((ds.length : Int) - 1) := by simp only [En.inr, En.lo, En.hi]; omega
          simp (maxSteps := 10000000) only [En.E, En.evsC, List.map_cons, List.map_nil, Nat.reduceBEq, Nat.reduceAdd, Nat.reduceMul, Nat.reduceEqDiff, Nat.reduceLeDiff, Nat.reduceLT, ne_eq, reduceCtorEq, Int.reduceBEq, Int.reduceBNe, Int.reduceAdd, Int.reduceSub, Int.reduceMul, Int.reduceTDiv, Int.reduceTMod, Int.reduceNeg, En.bitN, Nat.testBit, Nat.reduceShiftRight, Nat.reduceShiftLeft, Nat.reduceAnd, Nat.reduceOr, Nat.reduceBNe, Int.reduceToNat, Nat.reduceSub, Int.reduceLE, Int.reduceLT, En.vV, hs, hv, hT, hG, hF, adI, exH, gHu, gHp, d3, d4, htl, ndC_n, hB, l1, hl0, z0, id]
          have hl6 := clF_at (nsOf ds) l l.length 0 (by omega) r4 0 (Nat.le_refl _) hl0 h6
          refine hI {j : Nat // j ≤ ds.length ∧ lastI (nsOf ds) (ndAt l 0).nm = lsN (nsOf ds) (ndAt l 0).nm j} (fun x => adJ ds A c l B d bn on cn ba oa ca q.1 x.1 (1 + sumN sf ks)) (fun x => x.1) _ _ _
            ⟨ds.length, Nat.le_refl _, by rw [lastI, nsOf_len]⟩ (sle_all [1003, 1000, 1001, 4, 5, 0, 1, 2, 3] (by decide) (by simp only [En.E, En.evsC, List.map_cons, List.map_nil, Nat.reduceBEq, Nat.reduceAdd, Nat.reduceMul, Nat.reduceEqDiff, Nat.reduceLeDiff, Nat.reduceLT, ne_eq, reduceCtorEq, Int.reduceBEq, Int.reduceBNe, Int.reduceAdd, Int.reduceSub, Int.reduceMul, Int.reduceTDiv, Int.reduceTMod, Int.reduceNeg, En.bitN, Nat.testBit, Nat.reduceShiftRight, Nat.reduceShiftLeft, Nat.reduceAnd, Nat.reduceOr, Nat.reduceBNe, Int.reduceToNat, Nat.reduceSub, Int.reduceLE, Int.reduceLT, En.slLe, En.hpLe, En.chE, En.allLt, adJ, exH, gHu, gHp, dfH, dfD, Int.cast_ofNat_Int])) ?_
          rintro ⟨j, hj, hlj⟩
          cases j with
          | zero =>
            exfalso
            rw [hlj, lsN] at hl6
            exact absurd hl6 (by decide)
          | succ j =>
            have hjl : j < ds.length := by omega
            have e1 : ((j + 1 : Nat) : Int) - 1 = (j : Int) := by omega
            have d5 : decide ((j : Int) ≥ 0) = true := decide_eq_true (by omega)
            have i1 : inr .i64 ((j : Int) - 1) := by simp only [En.inr, En.lo, En.hi]; omega
            have g1 : (0 : Int) ≤ j ∧ (j : Int) < ds.length := by omega
            have g2 : (0 : Int) ≤ j ∧ j < ds.length := by omega
            have g3 : (j : Int) ≤ ds.length := by omega
            have hA : ¬A = none := slok_some h.2.1.1.1 (by omega)
            rw [lsN, nsAt_of hjl] at hlj
            refine hW _ _ _ (sle_hp (hp := (1002, .recs (dfAt ds j).bA (dfAt ds j).bc 7 (dfAt ds j).body.length fun r => ndC (ndAt (dfAt ds j).body r)) :: _) (fun w0 O w H => hh_deep (kD := 1001) (kR := 1002) (i := j) rfl hjl rfl (by decide) H) fun k hk hn => ?_) ?_
            · have : (1002 == k) = false := by simp only [adJ] at hk; simp; omega
              simp only [lookH, this, cond_false]; exact hn
            refine hR 4000 _ _ ?_
            by_cases he : (dfAt ds j).nm = (ndAt l 0).nm
            · have d6 : ((dfAt ds j).nm.toList == (ndAt l 0).nm.toList) = true := by rw [he]; exact beq_self_eq_true _
              rw [if_pos he] at hlj
              obtain ⟨o1, o2, o3⟩ := f2 j hjl
              have p1 : ∀ X, dsL j (.recs X c 3 j fun i => dfC 1002 (dfAt ds i)) (dfD ds) = ds.take j := fun X => (DfR_p (Nat.le_of_lt hjl)).1
              have p2 : ∀ X, DfR X j c (.recs X c 3 j fun i => dfC 1002 (dfAt ds i)) (dfD ds) := fun X => (DfR_p (Nat.le_of_lt hjl)).2
              simp only [dfD] at p1 p2
              have p3 := dfOk_take f2 j
              have p4 : j ≤ 100000 := by omega
              have p5 := body_expr r1 r2 hjl
              have p6 : (exprV (ds.take j) (dfAt ds j).body).1 = (bT ds ds.length).getD j 0 := by rw [p5]
              have p7 : (exprV (ds.take j) (dfAt ds j).body).2 = 0 := by rw [p5]
              have hbj := hbo j
              have i2 : inr .i64 (1 + sumN sf ks + (bT ds ds.length).getD j 0) := by simp only [En.inr, En.lo, En.hi]; omega
              have e7 : minV (1 + sumN sf ks + (bT ds ds.length).getD j 0) = q.1 := by
                rw [hfin, wN, if_pos h6, hlj, Int.toNat_natCast]; congr 1; omega
              simp (maxSteps := 10000000) only [En.E, En.evsC, List.map_cons, List.map_nil, Nat.reduceBEq, Nat.reduceAdd, Nat.reduceMul, Nat.reduceEqDiff, Nat.reduceLeDiff, Nat.reduceLT, ne_eq, reduceCtorEq, Int.reduceBEq, Int.reduceBNe, Int.reduceAdd, Int.reduceSub, Int.reduceMul, Int.reduceTDiv, Int.reduceTMod, Int.reduceNeg, En.bitN, Nat.testBit, Nat.reduceShiftRight, Nat.reduceShiftLeft, Nat.reduceAnd, Nat.reduceOr, Nat.reduceBNe, Int.reduceToNat, Nat.reduceSub, Int.reduceLE, Int.reduceLT, En.vV, hs, hv, hT, hG, hF, adJ, exH, gHu, gHp, dfH, dfD, e1, d5, d6, i1, i2, g1, g2, g3, hA, hB, l1, hl0, z0, ndC_n, dfC_n, spExpr25_q, dfCo, p1, p2, p3, p4, ckR, NdR_q, chL_q, o1, o2, globR_q, globU_q, h4, h3, p6, p7, minV_q, e7, spAwake25_q, Int.toNat_natCast]
            · have d6 : ((dfAt ds j).nm.toList == (ndAt l 0).nm.toList) = false := str_ne he
              rw [if_neg he] at hlj
              simp (maxSteps := 10000000) only [En.E, En.evsC, List.map_cons, List.map_nil, Nat.reduceBEq, Nat.reduceAdd, Nat.reduceMul, Nat.reduceEqDiff, Nat.reduceLeDiff, Nat.reduceLT, ne_eq, reduceCtorEq, Int.reduceBEq, Int.reduceBNe, Int.reduceAdd, Int.reduceSub, Int.reduceMul, Int.reduceTDiv, Int.reduceTMod, Int.reduceNeg, En.bitN, Nat.testBit, Nat.reduceShiftRight, Nat.reduceShiftLeft, Nat.reduceAnd, Nat.reduceOr, Nat.reduceBNe, Int.reduceToNat, Nat.reduceSub, Int.reduceLE, Int.reduceLT, En.vV, hs, hv, hT, hG, hF, adJ, exH, gHu, gHp, dfH, dfD, e1, d5, d6, i1, g1, g2, g3, hA, hB, l1, hl0, z0, ndC_n, dfC_n, Int.toNat_natCast]
              exact ⟨⟨j, by omega, hlj⟩, (sle_all [1003, 1000, 1001, 4, 5, 0, 1, 2, 3] (by decide) (by simp only [En.E, En.evsC, List.map_cons, List.map_nil, Nat.reduceBEq, Nat.reduceAdd, Nat.reduceMul, Nat.reduceEqDiff, Nat.reduceLeDiff, Nat.reduceLT, ne_eq, reduceCtorEq, Int.reduceBEq, Int.reduceBNe, Int.reduceAdd, Int.reduceSub, Int.reduceMul, Int.reduceTDiv, Int.reduceTMod, Int.reduceNeg, En.bitN, Nat.testBit, Nat.reduceShiftRight, Nat.reduceShiftLeft, Nat.reduceAnd, Nat.reduceOr, Nat.reduceBNe, Int.reduceToNat, Nat.reduceSub, Int.reduceLE, Int.reduceLT, En.slLe, En.hpLe, En.chE, En.allLt, adJ, exH, gHu, gHp, dfH, dfD, Int.natCast_add, Int.cast_ofNat_Int])), by simp only; omega⟩
        · have d4 : ((ndAt l 0).k == 6) = false := by simpa using h6
          have e7 : minV (1 + sumN sf ks) = q.1 := by rw [hfin, wN, if_neg h6]
          simp (maxSteps := 10000000) only [En.E, En.evsC, List.map_cons, List.map_nil, Nat.reduceBEq, Nat.reduceAdd, Nat.reduceMul, Nat.reduceEqDiff, Nat.reduceLeDiff, Nat.reduceLT, ne_eq, reduceCtorEq, Int.reduceBEq, Int.reduceBNe, Int.reduceAdd, Int.reduceSub, Int.reduceMul, Int.reduceTDiv, Int.reduceTMod, Int.reduceNeg, En.bitN, Nat.testBit, Nat.reduceShiftRight, Nat.reduceShiftLeft, Nat.reduceAnd, Nat.reduceOr, Nat.reduceBNe, Int.reduceToNat, Nat.reduceSub, Int.reduceLE, Int.reduceLT, En.vV, hs, hv, hT, hG, hF, adI, exH, gHu, gHp, d3, d4, htl, ndC_n, hB, l1, hl0, z0, minV_q, e7, spAwake25_q, globR_q, globU_q, h4, h3]
    · have d0 : (q.2 != 0) = true := by simpa using h0
      have hq1 : q.1 = 0 := by rw [hq]; exact rex_bad (by rw [← hq]; exact h0)
      simp (maxSteps := 10000000) only [En.E, En.evsC, List.map_cons, List.map_nil, Nat.reduceBEq, Nat.reduceAdd, Nat.reduceMul, Nat.reduceEqDiff, Nat.reduceLeDiff, Nat.reduceLT, ne_eq, reduceCtorEq, Int.reduceBEq, Int.reduceBNe, Int.reduceAdd, Int.reduceSub, Int.reduceMul, Int.reduceTDiv, Int.reduceTMod, Int.reduceNeg, En.bitN, Nat.testBit, Nat.reduceShiftRight, Nat.reduceShiftLeft, Nat.reduceAnd, Nat.reduceOr, Nat.reduceBNe, Int.reduceToNat, Nat.reduceSub, Int.reduceLE, Int.reduceLT, En.vV, hs, hv, hT, hG, hF, exH, gHu, gHp, spFar_q, dfMo, DfR_q, dsL_q, NdR_q, chL_q, hn, hd, hlen, hz, hf, spExpr25_q, dfCo, ckR, globR_q, globU_q, h4, h3, f2, f4, f5, f6, exprV_eq, ← hq, d0, hq1, spAwake25_q]
end Pr
end Go.Proofs.YtapgddiocdcaeaaGreatDoor
