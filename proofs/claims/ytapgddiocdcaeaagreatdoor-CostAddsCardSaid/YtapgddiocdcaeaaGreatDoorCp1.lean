/-
Chapter 25, plainly: the least steps by a map are those by the last function of a name.
-/
import Derived.Test.YtapgddiocdcaeaaGreatDoorLk1
import Derived.Test.YtapgddiocdcaeaaGreatDoorRe1
import Derived.Test.YtapgddiocdcaeaaGreatDoorAw1
import Derived.Test.YtapgddiocdcaeaaGreatDoorOpB
set_option linter.unusedSimpArgs false
set_option linter.unusedVariables false
namespace Go.Proofs.YtapgddiocdcaeaaGreatDoor
namespace Pr
open Go Go.RowKit En
open Ex
abbrev Fs := List (ByteArray × Nat)
def nsAt (ns : Fs) (i : Nat) : ByteArray × Nat := ns.getD i (ByteArray.empty, 0)
/-- the last function with a name; below 0: there is none -/
def lsN (ns : Fs) (nm : ByteArray) : Nat → Int
  | 0 => -1
  | j + 1 => if (nsAt ns j).1 = nm then (j : Int) else lsN ns nm j
def lastI (ns : Fs) (nm : ByteArray) : Int := lsN ns nm ns.length
theorem lsN_lt (ns : Fs) (nm : ByteArray) : ∀ j, -1 ≤ lsN ns nm j ∧ lsN ns nm j < j
  | 0 => ⟨Int.le_refl _, by simp [lsN]⟩
  | j + 1 => by
    have := lsN_lt ns nm j
    rw [lsN]
    split <;> omega
theorem lsN_app (ns m : Fs) (nm : ByteArray) : ∀ j, j ≤ ns.length → lsN (ns ++ m) nm j = lsN ns nm j
  | 0, _ => rfl
  | j + 1, h => by
    rw [lsN, lsN, lsN_app ns m nm j (by omega)]
    have : nsAt (ns ++ m) j = nsAt ns j := by simp [nsAt, List.getD_eq_getElem?_getD, List.getElem?_append_left (show j < ns.length by omega)]
    rw [this]
theorem lastI_snoc (ns : Fs) (x : ByteArray × Nat) (nm : ByteArray) : lastI (ns ++ [x]) nm = if x.1 = nm then (ns.length : Int) else lastI ns nm := by
  have e : nsAt (ns ++ [x]) ns.length = x := by simp [nsAt]
  rw [lastI, List.length_append, List.length_singleton, lsN, e, lsN_app _ _ _ _ (Nat.le_refl _)]
  rfl
/-- the error of the calls of an expression -/
def clF (ns : Fs) (l : List Nd) : Nat → Nat → Int
  | 0, _ => 0
  | f + 1, i => if l.length ≤ i then 0 else if (ndAt l i).k ≠ 6 then clF ns l f (i + 1) else if lastI ns (ndAt l i).nm < 0 then 24 else if ((nsAt ns (lastI ns (ndAt l i).nm).toNat).2 : Int) ≠ (ndAt l i).c then 23 else clF ns l f (i + 1)
def calV (ns : Fs) (l : List Nd) : Int := clF ns l l.length 0
/-- the steps, with those of the bodies -/
def exF (ns : Fs) (bs : List Int) (l : List Nd) : Nat → Nat → Int → Int
  | 0, _, s => s
  | f + 1, i, s => if l.length ≤ i then s else exF ns bs l f (i + 1 + Ks l i) (if (ndAt l i).k = 6 then s + 1 + bs.getD (lastI ns (ndAt l i).nm).toNat 0 else s + 1)
def exV (ns : Fs) (bs : List Int) (l : List Nd) : Int := minV (exF ns bs l l.length 0 0)
def RelE (es : List (MK × List Int)) (ns : Fs) (bs : List Int) : Prop := ∀ nm, fnd es (.s nm) = if lastI ns nm < 0 then none else some [bs.getD (lastI ns nm).toNat 0, ((nsAt ns (lastI ns nm).toNat).2 : Int)]
theorem relE_nil : RelE [] [] [] := fun nm => by simp [lastI, lsN, fnd]
theorem relE_put {es : List (MK × List Int)} {ns : Fs} {bs : List Int} (h : RelE es ns bs) (hl : bs.length = ns.length) (nm : ByteArray) (np : Nat) (b : Int) : RelE (put es (.s nm) [b, np]) (ns ++ [(nm, np)]) (bs ++ [b]) := by
  intro nm'
  rw [fnd_put, lastI_snoc]
  by_cases e : nm = nm'
  · subst e
    have e1 : (bs ++ [b]).getD bs.length 0 = b := by simp
    have e2 : nsAt (ns ++ [(nm, np)]) ns.length = (nm, np) := by simp [nsAt]
    simp only [if_true]
    rw [if_neg (by omega), Int.toNat_natCast, e2, ← hl, e1]
  · rw [if_neg (by simpa using e), if_neg e, h nm']
    have hb := lsN_lt ns nm' ns.length
    split
    · rfl
    · next hn =>
      have hlt : (lastI ns nm').toNat < ns.length := by have : lastI ns nm' < ns.length := hb.2; omega
      have e1 : nsAt (ns ++ [(nm, np)]) (lastI ns nm').toNat = nsAt ns (lastI ns nm').toNat := by simp [nsAt, List.getD_eq_getElem?_getD, List.getElem?_append_left hlt]
      have e2 : (bs ++ [b]).getD (lastI ns nm').toNat 0 = bs.getD (lastI ns nm').toNat 0 := by simp [List.getD_eq_getElem?_getD, List.getElem?_append_left (show (lastI ns nm').toNat < bs.length by omega)]
      rw [e1, e2]
theorem chk_bad {l : List Nd} (h : (chkV l).2 = 0) : ∀ i, i < l.length → badL l i = false := by
  obtain ⟨h0, h1, hg, h4⟩ := chk_ok h
  by_cases hf : 0 ≤ faultF l
  · exfalso
    have hany : ((List.range l.length).any fun i => faultV (ndAt l i) != 0) = true := by rw [← idxV_any]; exact decide_eq_true hf
    rw [chkV, if_neg h0, if_neg (by omega), if_pos hf] at h
    have hq : faultF l = ((List.range l.length).find? fun i => faultV (ndAt l i) != 0).elim (-1) fun i => (i : Int) := rfl
    cases e : (List.range l.length).find? fun i => faultV (ndAt l i) != 0 with
    | none => rw [e] at hq; rw [hq] at hf; exact absurd hf (by decide)
    | some i =>
      rw [e] at hq
      have hp := (List.find?_range_eq_some.1 e).1
      rw [hq] at h
      simp only [Option.elim, Int.toNat_natCast] at h
      rw [h] at hp; cases hp
  · by_cases hx : 0 ≤ listV l
    · rw [chkV, if_neg h0, if_neg (by omega), if_neg hf, if_pos hx] at h; cases h
    · exact idxV_neg hx
theorem bad_num {l : List Nd} {i : Nat} (h : badL l i = false) (h3 : (ndAt l i).k = 3) : ∀ j, j < Ks l i → (ndAt l (i + 1 + j)).k = 1 := by
  intro j hj
  have hk : ((ndAt l i).k == 3) = true := by rw [h3]; rfl
  rw [badL, hk, Bool.true_and, Bool.or_eq_false_iff] at h
  have := List.any_eq_false.1 h.2 j (List.mem_range.2 hj)
  simpa using this
theorem clF_fuel (ns : Fs) (l : List Nd) : ∀ (f g i : Nat), l.length ≤ i + f → l.length ≤ i + g → clF ns l f i = clF ns l g i := by
  intro f
  induction f with
  | zero =>
    intro g i hf hg
    cases g with
    | zero => rfl
    | succ g => rw [clF, clF, if_pos (by omega)]
  | succ f ih =>
    intro g i hf hg
    cases g with
    | zero => rw [clF, clF, if_pos (by omega)]
    | succ g =>
      rw [clF, clF]
      rw [ih g (i + 1) (by omega) (by omega)]
theorem clF_ones (ns : Fs) (l : List Nd) : ∀ (k f i : Nat), l.length ≤ i + f → (∀ j, j < k → (ndAt l (i + j)).k = 1) → clF ns l f i = clF ns l f (i + k)
  | 0, f, i, _, _ => rfl
  | k + 1, 0, i, hf, _ => rfl
  | k + 1, f + 1, i, hf, h => by
    have h0 := h 0 (by omega)
    rw [Nat.add_zero] at h0
    by_cases hi : l.length ≤ i
    · rw [clF, if_pos hi, clF, if_pos (by omega)]
    · rw [clF, if_neg hi, if_pos (by rw [h0]; decide), clF_ones ns l k f (i + 1) (by omega) fun j hj => by rw [show i + 1 + j = i + (j + 1) by omega]; exact h (j + 1) (by omega)]
      rw [show i + 1 + k = i + (k + 1) by omega]
      exact clF_fuel ns l f (f + 1) _ (by omega) (by omega)
theorem lkF_eq {es : List (MK × List Int)} {ns : Fs} {bs : List Int} (h : RelE es ns bs) {l : List Nd} (hb : ∀ i, i < l.length → badL l i = false) : ∀ (f i : Nat) (s : Int), l.length ≤ i + f →
    lkF es l f i s = if clF ns l f i = 0 then (minV (exF ns bs l f i s), 0) else (0, clF ns l f i) := by
  intro f
  induction f with
  | zero => intro i s hf; rw [lkF, clF, if_pos rfl]; rfl
  | succ f ih =>
    intro i s hf
    rw [lkF, clF, exF]
    by_cases hi : l.length ≤ i
    · rw [if_pos hi, if_pos hi, if_pos hi, if_pos rfl]
    · rw [if_neg hi, if_neg hi, if_neg hi]
      by_cases h6 : (ndAt l i).k = 6
      · have hK : Ks l i = 0 := if_neg (by rw [h6]; decide)
        simp only [h6, ne_eq, not_true_eq_false, if_true, if_false]
        rw [h (ndAt l i).nm, hK, Nat.add_zero]
        by_cases hl : lastI ns (ndAt l i).nm < 0
        · simp only [hl, if_true]; rfl
        · simp only [hl, if_false, List.getD_cons_zero, List.getD_cons_succ]
          by_cases hc : ((nsAt ns (lastI ns (ndAt l i).nm).toNat).2 : Int) = (ndAt l i).c
          · simp only [hc, if_true, not_true_eq_false, if_false]
            exact ih _ _ (by omega)
          · simp only [hc, if_false, not_false_eq_true, if_true]; rfl
      · rw [if_neg h6, if_pos h6, if_neg h6, ih _ _ (by omega)]
        have e : clF ns l f (i + 1) = clF ns l f (i + 1 + Ks l i) := by
          refine clF_ones ns l (Ks l i) f (i + 1) (by omega) fun j hj => ?_
          have h3 : (ndAt l i).k = 3 := by
            by_cases e : (ndAt l i).k = 3
            · exact e
            · have : Ks l i = 0 := if_neg e
              omega
          exact bad_num (hb i (by omega)) h3 j hj
        rw [e]
/-- what the program looks up, told by the last function of each name -/
theorem lookV_eq {es : List (MK × List Int)} {ns : Fs} {bs : List Int} (h : RelE es ns bs) (l : List Nd) :
    lookV es l = if (chkV l).2 ≠ 0 then (0, (chkV l).2) else if calV ns l ≠ 0 then (0, calV ns l) else (exV ns bs l, 0) := by
  rw [lookV]
  by_cases h0 : (chkV l).2 = 0
  · rw [if_pos h0, if_neg (by simp [h0]), lkF_eq h (chk_bad h0) l.length 0 0 (by omega)]
    by_cases hc : clF ns l l.length 0 = 0
    · rw [if_pos hc, if_neg (by simp [calV, hc])]; rfl
    · rw [if_neg hc, if_pos (show calV ns l ≠ 0 from hc)]; rfl
  · rw [if_neg h0, if_pos h0]
def nsOf (ds : List Df) : Fs := ds.map fun d => (d.nm, d.np)
/-- the reference's: errors of the bodies, one after the other; steps of the bodies -/
def rbE : Fs → List Df → Int
  | _, [] => 0
  | ns, d :: ds => if (chkV d.body).2 ≠ 0 then (chkV d.body).2 else if calV ns d.body ≠ 0 then calV ns d.body else rbE (ns ++ [(d.nm, d.np)]) ds
def rbS : Fs → List Int → List Df → List Int
  | _, bs, [] => bs
  | ns, bs, d :: ds => rbS (ns ++ [(d.nm, d.np)]) (bs ++ [exV ns bs d.body]) ds
def rexV (ds : List Df) (l : List Nd) : Int × Int :=
  if 16 < ds.length then (0, 3) else if rbE [] ds ≠ 0 then (0, rbE [] ds) else if (chkV l).2 ≠ 0 then (0, (chkV l).2) else if calV (nsOf ds) l ≠ 0 then (0, calV (nsOf ds) l) else (exV (nsOf ds) (rbS [] [] ds) l, 0)
theorem knG_rel : ∀ (ds : List Df) (es : List (MK × List Int)) (ns : Fs) (bs : List Int), RelE es ns bs → bs.length = ns.length →
    (knG ds es).2 = rbE ns ds ∧ (rbE ns ds = 0 → RelE (knG ds es).1 (ns ++ nsOf ds) (rbS ns bs ds))
  | [], es, ns, bs, h, hl => ⟨rfl, fun _ => by simpa [knG, nsOf, rbS] using h⟩
  | d :: ds, es, ns, bs, h, hl => by
    rw [knG, rbE, rbS, lookV_eq h]
    by_cases h1 : (chkV d.body).2 = 0
    · by_cases h2 : calV ns d.body = 0
      · simp only [ne_eq, h1, h2, not_true_eq_false, if_false, if_true]
        have := knG_rel ds (put es (.s d.nm) [exV ns bs d.body, d.np]) (ns ++ [(d.nm, d.np)]) (bs ++ [exV ns bs d.body]) (relE_put h hl d.nm d.np _) (by simp [hl])
        refine ⟨this.1, fun h0 => ?_⟩
        have := this.2 h0
        simpa [nsOf] using this
      · simp [h1, h2]
    · simp [h1]
/-- **Both sides tell the same.** -/
theorem exprV_eq (ds : List Df) (l : List Nd) : exprV ds l = rexV ds l := by
  rw [exprV, rexV, knV]
  by_cases h : 16 < ds.length
  · rw [if_pos h, if_pos h]; rfl
  · rw [if_neg h, if_neg h]
    obtain ⟨h1, h2⟩ := knG_rel ds [] [] [] relE_nil rfl
    rw [h1]
    by_cases h0 : rbE [] ds = 0
    · rw [if_pos h0, if_neg (by simp [h0]), lookV_eq (h2 h0)]
      rfl
    · rw [if_neg h0, if_pos h0]
end Pr
end Go.Proofs.YtapgddiocdcaeaaGreatDoor
/-
Chapter 25: the reference's last, calls and expr.
-/
set_option linter.unusedSimpArgs false
set_option linter.unusedVariables false
namespace Go.Proofs.YtapgddiocdcaeaaGreatDoor
namespace Pr
open Go Go.RowKit En
open Ex
theorem str_ne {a b : ByteArray} (h : a ≠ b) : (a.toList == b.toList) = false := by
  rw [beq_eq_false_iff_ne, Lib.toList_data, Lib.toList_data]
  intro e
  apply h
  cases a; cases b
  simp only [ByteArray.mk.injEq]
  exact Array.ext' e
section
variable (ns : Fs) (A : Option Addr) (c : Nat) (p : Nat → Option Addr) (q : Nat → Nat) (y : Nat → Value)
end
section
variable (ns : Fs) (A : Option Addr) (c : Nat) (p : Nat → Option Addr) (q : Nat → Nat) (y : Nat → Value) (l : List Nd) (B : Option Addr) (d : Nat)
end
/-! ### the steps of an expression -/
def bsOk (bs : List Int) : Prop := ∀ i, 0 ≤ bs.getD i 0 ∧ bs.getD i 0 ≤ 1000000000
section
variable (ns : Fs) (A : Option Addr) (c : Nat) (p : Nat → Option Addr) (q : Nat → Nat) (y : Nat → Value) (l : List Nd) (B : Option Addr) (d : Nat) (bs : List Int) (E : Option Addr) (e : Nat)
end
theorem clF_at (ns : Fs) (l : List Nd) : ∀ (f i : Nat), l.length ≤ i + f → clF ns l f i = 0 → ∀ j, i ≤ j → j < l.length → (ndAt l j).k = 6 → 0 ≤ lastI ns (ndAt l j).nm
  | 0, i, hf, _, j, h1, h2, _ => by omega
  | f + 1, i, hf, h, j, h1, h2, h6 => by
    rw [clF, if_neg (by omega)] at h
    by_cases e : (ndAt l i).k = 6
    · rw [if_neg (by simp [e])] at h
      by_cases hl : lastI ns (ndAt l i).nm < 0
      · rw [if_pos hl] at h; cases h
      · rw [if_neg hl] at h
        by_cases hc : ((nsAt ns (lastI ns (ndAt l i).nm).toNat).2 : Int) = (ndAt l i).c
        · rw [if_neg (by simp [hc])] at h
          by_cases hj : j = i
          · subst hj; omega
          · exact clF_at ns l f (i + 1) (by omega) h j (by omega) h2 h6
        · rw [if_pos hc] at h; cases h
    · rw [if_pos e] at h
      by_cases hj : j = i
      · subst hj; exact absurd h6 e
      · exact clF_at ns l f (i + 1) (by omega) h j (by omega) h2 h6
end Pr
end Go.Proofs.YtapgddiocdcaeaaGreatDoor
/-
Chapter 25: the reference's Expr.
-/
set_option linter.unusedSimpArgs false
set_option linter.unusedVariables false
namespace Go.Proofs.YtapgddiocdcaeaaGreatDoor
namespace Pr
open Go Go.RowKit En
open Ex
theorem nsOf_len (ds : List Df) : (nsOf ds).length = ds.length := by simp [nsOf]
theorem rbS_app : ∀ (l m : List Df) (ns : Fs) (bs : List Int), rbS ns bs (l ++ m) = rbS (ns ++ nsOf l) (rbS ns bs l) m
  | [], m, ns, bs => by simp [nsOf, rbS]
  | d :: l, m, ns, bs => by
    rw [List.cons_append, rbS, rbS, rbS_app l m]
    simp [nsOf]
def bT (ds : List Df) (i : Nat) : List Int := rbS [] [] (ds.take i)
theorem bT_succ {ds : List Df} {i : Nat} (h : i < ds.length) : bT ds (i + 1) = bT ds i ++ [exV (nsOf (ds.take i)) (bT ds i) (dfAt ds i).body] := by
  rw [bT, List.take_succ_eq_append_getElem h, rbS_app, rbS, rbS]
  simp [dfAt, h, bT]
theorem bT_len (ds : List Df) : ∀ i, i ≤ ds.length → (bT ds i).length = i
  | 0, _ => rfl
  | i + 1, h => by rw [bT_succ (by omega), List.length_append, bT_len ds i (by omega)]; rfl
theorem exF_in (ns : Fs) {bs : List Int} (hb : bsOk bs) (l : List Nd) : ∀ (f i : Nat) (s : Int), 0 ≤ s → 0 ≤ exF ns bs l f i s
  | 0, i, s, h => h
  | f + 1, i, s, h => by
    rw [exF]
    split
    · exact h
    · refine exF_in ns hb l f _ _ ?_
      split
      · have := hb (lastI ns (ndAt l i).nm).toNat; omega
      · omega
theorem exV_in (ns : Fs) {bs : List Int} (hb : bsOk bs) (l : List Nd) : 0 ≤ exV ns bs l ∧ exV ns bs l ≤ 1000000000 := by
  have := exF_in ns hb l l.length 0 0 (Int.le_refl 0)
  rw [exV, minV]
  split <;> omega
theorem bT_ok (ds : List Df) : ∀ i, i ≤ ds.length → bsOk (bT ds i)
  | 0, _ => fun j => by simp [bT, rbS]
  | i + 1, h => by
    have ih := bT_ok ds i (by omega)
    rw [bT_succ (by omega)]
    intro j
    have hx := exV_in (nsOf (ds.take i)) ih (dfAt ds i).body
    rw [List.getD_eq_getElem?_getD]
    rcases Nat.lt_trichotomy j (bT ds i).length with h1 | h1 | h1
    · rw [List.getElem?_append_left h1, ← List.getD_eq_getElem?_getD]; exact ih j
    · subst h1; simp; exact hx
    · rw [List.getElem?_eq_none (by simp; omega)]; simp
theorem rbE_ok : ∀ (ds : List Df) (ns : Fs), rbE ns ds = 0 → ∀ i, i < ds.length → (chkV (dfAt ds i).body).2 = 0 ∧ calV (ns ++ nsOf (ds.take i)) (dfAt ds i).body = 0
  | [], ns, _, i, hi => absurd hi (Nat.not_lt_zero i)
  | d :: ds, ns, h, i, hi => by
    rw [rbE] at h
    by_cases h1 : (chkV d.body).2 = 0
    · by_cases h2 : calV ns d.body = 0
      · simp only [ne_eq, h1, h2, not_true_eq_false, if_false] at h
        cases i with
        | zero => exact ⟨h1, by simpa [nsOf, dfAt] using h2⟩
        | succ i =>
          have := rbE_ok ds _ h i (by simpa using hi)
          simpa [dfAt, nsOf] using this
      · simp [h1, h2] at h
    · simp [h1] at h
section
variable (ds : List Df) (A : Option Addr) (c : Nat) (l : List Nd) (B : Option Addr) (d : Nat)
def rxH : Hp := (1003, .recs B d 7 l.length fun i => ndC (ndAt l i)) :: (1000, dfH 1002 ds A c) :: (1001, dfD ds) :: []
end
/-- a function's fields, read -/
theorem dfC_n : (∀ k d, nth (dfC k d) 0 = .v (.string d.nm)) ∧ (∀ k d, nth (dfC k d) 1 = .v (.slice d.pA d.np d.pc)) ∧ (∀ k d, nth (dfC k d) 2 = .g k d.bA d.body.length d.bc) ∧ (∀ k d, cut (dfC k d) 0 3 = dfC k d) :=
  ⟨fun _ _ => rfl, fun _ _ => rfl, fun _ _ => rfl, fun _ _ => rfl⟩
theorem den_gg {k k' n c : Nat} {A : Option Addr} : (den (SV.g k A n c) = den (SV.g k' A n c)) = True := eq_true rfl
end Pr
end Go.Proofs.YtapgddiocdcaeaaGreatDoor
/-
Chapter 25: how far the law looks; the walk of CostExprs.
-/
set_option linter.unusedSimpArgs false
set_option linter.unusedVariables false
namespace Go.Proofs.YtapgddiocdcaeaaGreatDoor
namespace Pr
open Go Go.RowKit En
open Ex
def bigN (d : Nd) : Bool := bif decide ((d.nm.size : Int) > 100) then true else decide ((d.tx.size : Int) > 2000)
def wideV (l : List Nd) : Bool := (List.range (min l.length 500)).any fun i => bigN (ndAt l i)
def tlFa : List (TypeId × TI) := [tyInt, tyI64, tyBool, tyStr, tyStrs, tyErr, tyNode, tyNodes, tyDef, tyDefs]
theorem tlFa_ok : TyAll Tryz.prog (lookT tlFa) := tyAll_p tyInt_ok <| tyAll_p tyI64_ok <| tyAll_p tyBool_ok <| tyAll_p tyStr_ok <| tyAll_p tyStrs_ok <| tyAll_p tyErr_ok <| tyAll_p tyNode_ok <| tyAll_p tyNodes_ok <| tyAll_p tyDef_ok <| tyAll_p tyDefs_ok tyAll_nil
def wiI (l : List Nd) (A : Option Addr) (c i : Nat) : SS := ⟨[(0, .g 1000 A l.length c), (3, .v (.int .i64 i))], rdH l A c, 3000⟩
set_option maxRecDepth 100000 in
set_option maxHeartbeats 4000000 in
theorem wide_any (l : List Nd) (hlen : l.length ≤ 9223372036854775807) (hz : zsM l) (A : Option Addr) (c : Nat) (w : World) (h : allRd w.heap.size w (rdH l A c)) :
    Calls Tryz.prog 43 #[.slice A l.length c] w fun e w' => e = .returned (.bool (wideV l)) ∧ Below w.heap.size w w' := by
  obtain ⟨q, hq⟩ : ∃ q, q = wideV l := ⟨_, rfl⟩
  rw [← hq]
  refine calls_go (args := [.g 1000 A l.length c]) (hp := rdH l A c) (nx := 1001) (n := 1000) (U := [(1000000, 30)]) (V := []) (tl := tlFa) (gl := gl0) (post := fun s ys => ys = [.v (.bool q)])
    followP tlFa_ok gl0_ok Tryz.func43 rfl (by kernel_rfl) (Nat.le_of_ble_eq_true (by kernel_rfl)) (by kernel_rfl) (by kernel_rfl) (hh_list h) (free_list (by simp [allLt, rdH])) ?_ ?_
  · rintro s ys w' rfl H
    exact ⟨rfl, H.below⟩
  intro L F T G nd va hE
  obtain ⟨hL, hF, hs, hv, hT, hG, hR, hI, hJ, hW⟩ := hE
  rw [Tryz.results43] at hF
  simp (maxSteps := 1000000) only [En.nN, En.E, En.evsC, List.map_cons, List.map_nil, Nat.reduceBEq, Nat.reduceAdd, Nat.reduceMul, Nat.reduceEqDiff, Nat.reduceLeDiff, Nat.reduceLT, ne_eq, reduceCtorEq, Int.reduceBEq, Int.reduceBNe, Int.reduceAdd, Int.reduceSub, Int.reduceMul, Int.reduceTDiv, Int.reduceTMod, Int.reduceNeg, En.bitN, Nat.testBit, Nat.reduceShiftRight, Nat.reduceShiftLeft, Nat.reduceAnd, Nat.reduceOr, Nat.reduceBNe, Int.reduceToNat, Nat.reduceSub, Int.reduceLE, Int.reduceLT] at hv
  simp only [En.at_nil, En.at_cons, En.ag_nil, En.ag_cons, and_true, tlFa, gl0, tyInt, tyI64, tyBool, tyStr, tyStrs, tyErr, tyNode, tyNodes, tyDef, tyDefs] at hT hG
  simp (maxSteps := 10000000) only [En.E, En.evsC, List.map_cons, List.map_nil, Nat.reduceBEq, Nat.reduceAdd, Nat.reduceMul, Nat.reduceEqDiff, Nat.reduceLeDiff, Nat.reduceLT, ne_eq, reduceCtorEq, Int.reduceBEq, Int.reduceBNe, Int.reduceAdd, Int.reduceSub, Int.reduceMul, Int.reduceTDiv, Int.reduceTMod, Int.reduceNeg, En.bitN, Nat.testBit, Nat.reduceShiftRight, Nat.reduceShiftLeft, Nat.reduceAnd, Nat.reduceOr, Nat.reduceBNe, Int.reduceToNat, Nat.reduceSub, Int.reduceLE, Int.reduceLT, En.vV, hs, hv, hT, hG, hF, rdH]
  refine hI {i : Nat // i ≤ min l.length 500 ∧ ∀ j, j < i → bigN (ndAt l j) = false} (fun x => wiI l A c x.1) (fun x => l.length - x.1) _ _ _ ⟨0, Nat.zero_le _, fun j hj => absurd hj (Nat.not_lt_zero j)⟩ (sle_all [1000] (by decide) (by simp only [En.E, En.evsC, List.map_cons, List.map_nil, Nat.reduceBEq, Nat.reduceAdd, Nat.reduceMul, Nat.reduceEqDiff, Nat.reduceLeDiff, Nat.reduceLT, ne_eq, reduceCtorEq, Int.reduceBEq, Int.reduceBNe, Int.reduceAdd, Int.reduceSub, Int.reduceMul, Int.reduceTDiv, Int.reduceTMod, Int.reduceNeg, En.bitN, Nat.testBit, Nat.reduceShiftRight, Nat.reduceShiftLeft, Nat.reduceAnd, Nat.reduceOr, Nat.reduceBNe, Int.reduceToNat, Nat.reduceSub, Int.reduceLE, Int.reduceLT, En.slLe, En.hpLe, En.chE, En.allLt, wiI, rdH, Int.cast_ofNat_Int])) ?_
  rintro ⟨i, hi, hp⟩
  refine hR 1000 _ _ ?_
  by_cases hlt : i < l.length
  · have d1 : decide ((i : Int) < (l.length : Int)) = true := decide_eq_true (by omega)
    by_cases h5 : i < 500
    · have d2 : decide ((i : Int) < 500) = true := decide_eq_true (by omega)
      have i1 : inr .i64 ((i : Int) + 1) := by simp only [En.inr, En.lo, En.hi]; omega
      have g1 : (0 : Int) ≤ i ∧ (i : Int) < l.length := by omega
      have g2 : (0 : Int) ≤ i ∧ i < l.length := by omega
      have hA : ¬A = none := slok_some h.1.1.1 (by omega)
      obtain ⟨z1, z2⟩ := hz i hlt
      have i2 : inr .i64 ((ndAt l i).nm.size : Int) := by simp only [En.inr, En.lo, En.hi]; omega
      have i3 : inr .i64 ((ndAt l i).tx.size : Int) := by simp only [En.inr, En.lo, En.hi]; omega
      cases hb : bigN (ndAt l i) with
      | true =>
        have hqq : q = true := by
          rw [hq, wideV, List.any_eq_true]
          exact ⟨i, List.mem_range.2 (by omega), hb⟩
        rw [bigN] at hb
        cases d3 : decide (((ndAt l i).nm.size : Int) > 100) with
        | true =>
          simp (maxSteps := 10000000) only [En.E, En.evsC, List.map_cons, List.map_nil, Nat.reduceBEq, Nat.reduceAdd, Nat.reduceMul, Nat.reduceEqDiff, Nat.reduceLeDiff, Nat.reduceLT, ne_eq, reduceCtorEq, Int.reduceBEq, Int.reduceBNe, Int.reduceAdd, Int.reduceSub, Int.reduceMul, Int.reduceTDiv, Int.reduceTMod, Int.reduceNeg, En.bitN, Nat.testBit, Nat.reduceShiftRight, Nat.reduceShiftLeft, Nat.reduceAnd, Nat.reduceOr, Nat.reduceBNe, Int.reduceToNat, Nat.reduceSub, Int.reduceLE, Int.reduceLT, En.vV, hs, hv, hT, hG, hF, wiI, rdH, d1, d2, d3, i1, i2, i3, g1, g2, hA, ndC_n, Int.toNat_natCast, hqq]
        | false =>
          rw [d3] at hb
          have d4 : decide (((ndAt l i).tx.size : Int) > 2000) = true := hb
          simp (maxSteps := 10000000) only [En.E, En.evsC, List.map_cons, List.map_nil, Nat.reduceBEq, Nat.reduceAdd, Nat.reduceMul, Nat.reduceEqDiff, Nat.reduceLeDiff, Nat.reduceLT, ne_eq, reduceCtorEq, Int.reduceBEq, Int.reduceBNe, Int.reduceAdd, Int.reduceSub, Int.reduceMul, Int.reduceTDiv, Int.reduceTMod, Int.reduceNeg, En.bitN, Nat.testBit, Nat.reduceShiftRight, Nat.reduceShiftLeft, Nat.reduceAnd, Nat.reduceOr, Nat.reduceBNe, Int.reduceToNat, Nat.reduceSub, Int.reduceLE, Int.reduceLT, En.vV, hs, hv, hT, hG, hF, wiI, rdH, d1, d2, d3, d4, i1, i2, i3, g1, g2, hA, ndC_n, Int.toNat_natCast, hqq]
      | false =>
        have hb' := hb
        rw [bigN] at hb'
        cases d3 : decide (((ndAt l i).nm.size : Int) > 100) with
        | true => rw [d3] at hb'; cases hb'
        | false =>
          rw [d3] at hb'
          have d4 : decide (((ndAt l i).tx.size : Int) > 2000) = false := hb'
          simp (maxSteps := 10000000) only [En.E, En.evsC, List.map_cons, List.map_nil, Nat.reduceBEq, Nat.reduceAdd, Nat.reduceMul, Nat.reduceEqDiff, Nat.reduceLeDiff, Nat.reduceLT, ne_eq, reduceCtorEq, Int.reduceBEq, Int.reduceBNe, Int.reduceAdd, Int.reduceSub, Int.reduceMul, Int.reduceTDiv, Int.reduceTMod, Int.reduceNeg, En.bitN, Nat.testBit, Nat.reduceShiftRight, Nat.reduceShiftLeft, Nat.reduceAnd, Nat.reduceOr, Nat.reduceBNe, Int.reduceToNat, Nat.reduceSub, Int.reduceLE, Int.reduceLT, En.vV, hs, hv, hT, hG, hF, wiI, rdH, d1, d2, d3, d4, i1, i2, i3, g1, g2, hA, ndC_n, Int.toNat_natCast]
          refine ⟨⟨i + 1, by omega, fun j hj => ?_⟩, (sle_all [1000] (by decide) (by simp only [En.E, En.evsC, List.map_cons, List.map_nil, Nat.reduceBEq, Nat.reduceAdd, Nat.reduceMul, Nat.reduceEqDiff, Nat.reduceLeDiff, Nat.reduceLT, ne_eq, reduceCtorEq, Int.reduceBEq, Int.reduceBNe, Int.reduceAdd, Int.reduceSub, Int.reduceMul, Int.reduceTDiv, Int.reduceTMod, Int.reduceNeg, En.bitN, Nat.testBit, Nat.reduceShiftRight, Nat.reduceShiftLeft, Nat.reduceAnd, Nat.reduceOr, Nat.reduceBNe, Int.reduceToNat, Nat.reduceSub, Int.reduceLE, Int.reduceLT, En.slLe, En.hpLe, En.chE, En.allLt, wiI, rdH, Int.natCast_add, Int.cast_ofNat_Int])), by simp only; omega⟩
          by_cases e : j = i
          · rw [e]; exact hb
          · exact hp j (by omega)
    · have d2 : decide ((i : Int) < 500) = false := decide_eq_false (by omega)
      have hqq : q = false := by
        rw [hq, wideV, List.any_eq_false]
        intro j hj
        rw [hp j (by have := List.mem_range.1 hj; omega)]; simp
      simp (maxSteps := 10000000) only [En.E, En.evsC, List.map_cons, List.map_nil, Nat.reduceBEq, Nat.reduceAdd, Nat.reduceMul, Nat.reduceEqDiff, Nat.reduceLeDiff, Nat.reduceLT, ne_eq, reduceCtorEq, Int.reduceBEq, Int.reduceBNe, Int.reduceAdd, Int.reduceSub, Int.reduceMul, Int.reduceTDiv, Int.reduceTMod, Int.reduceNeg, En.bitN, Nat.testBit, Nat.reduceShiftRight, Nat.reduceShiftLeft, Nat.reduceAnd, Nat.reduceOr, Nat.reduceBNe, Int.reduceToNat, Nat.reduceSub, Int.reduceLE, Int.reduceLT, En.vV, hs, hv, hT, hG, hF, wiI, rdH, d1, d2, hqq]
  · have d1 : decide ((i : Int) < (l.length : Int)) = false := decide_eq_false (by omega)
    have hqq : q = false := by
      rw [hq, wideV, List.any_eq_false]
      intro j hj
      rw [hp j (by have := List.mem_range.1 hj; omega)]; simp
    simp (maxSteps := 10000000) only [En.E, En.evsC, List.map_cons, List.map_nil, Nat.reduceBEq, Nat.reduceAdd, Nat.reduceMul, Nat.reduceEqDiff, Nat.reduceLeDiff, Nat.reduceLT, ne_eq, reduceCtorEq, Int.reduceBEq, Int.reduceBNe, Int.reduceAdd, Int.reduceSub, Int.reduceMul, Int.reduceTDiv, Int.reduceTMod, Int.reduceNeg, En.bitN, Nat.testBit, Nat.reduceShiftRight, Nat.reduceShiftLeft, Nat.reduceAnd, Nat.reduceOr, Nat.reduceBNe, Int.reduceToNat, Nat.reduceSub, Int.reduceLE, Int.reduceLT, En.vV, hs, hv, hT, hG, hF, wiI, rdH, d1, hqq, Bool.false_eq_true]
def spWide : Spc
  | [.g k A n c], H, _ => .is (NdR A n c (H k) ∧ n ≤ 9223372036854775807 ∧ zsM (chL n (H k))) (.v (.bool (wideV (chL n (H k)))))
  | _, _, _ => .bad
theorem spWide_q {k n c : Nat} {A : Option Addr} {H : Nat → Ch} {nx : Nat} : spWide [.g k A n c] H nx = .is (NdR A n c (H k) ∧ n ≤ 9223372036854775807 ∧ zsM (chL n (H k))) (.v (.bool (wideV (chL n (H k))))) := rfl
theorem spWide_ok : SpecOk Tryz.prog 43 spWide := by
  intro args hp nx w0 O w H hv
  unfold spWide at hv ⊢
  split at hv
  · next k A n c =>
    obtain ⟨h1, hn, hz⟩ := hv
    obtain ⟨hl, hh⟩ := NdR_hold h1 (H.hold k)
    generalize chL n (lookH hp k) = l at hl hh hz ⊢
    subst hl
    refine (wide_any l hn hz A c w ⟨⟨hh _, rfl⟩, trivial⟩).mono ?_
    rintro e w' ⟨rfl, hb⟩
    exact ⟨⟨0, none, 0, none, 0, mz⟩, rfl, .still hb⟩
  · exact hv.elim
def farB (d : Df) : Bool := bif decide ((d.body.length : Int) > 60) then true else bif decide ((d.np : Int) > 5) then true else wideV d.body
def farL (n : Nat) (l : List Nd) : Bool := bif decide ((n : Int) > 18) then true else bif decide ((l.length : Int) > 450) then true else wideV l
def farV (ds : List Df) (l : List Nd) : Bool := bif (List.range (min ds.length 25)).any fun i => farB (dfAt ds i) then true else farL ds.length l
def dfM (ds : List Df) : Prop := ∀ i, i < ds.length → (dfAt ds i).body.length ≤ 9223372036854775807 ∧ zsM (dfAt ds i).body ∧ (dfAt ds i).np ≤ 9223372036854775807
def glFar : List (FuncId × Spc) := [(43, spWide)]
theorem glFar_ok : GOk Tryz.prog (lookG glFar) := lG_cons (by kernel_rfl) spWide_ok lG_nil
set_option maxRecDepth 100000 in
set_option maxHeartbeats 4000000 in
theorem far_any (ds : List Df) (hn : ds.length ≤ 9223372036854775807) (hd : dfM ds) (A : Option Addr) (c : Nat) (l : List Nd) (hlen : l.length ≤ 9223372036854775807) (hz : zsM l) (B : Option Addr) (d : Nat) (w : World)
    (h : allRd w.heap.size w (rxH ds A c l B d)) :
    Calls Tryz.prog 17 #[.slice A ds.length c, .slice B l.length d] w fun e w' => e = .returned (.bool (farV ds l)) ∧ Below w.heap.size w w' := by
  obtain ⟨q, hq⟩ : ∃ q, q = farV ds l := ⟨_, rfl⟩
  rw [← hq]
  refine calls_go (args := [.g 1000 A ds.length c, .g 1003 B l.length d]) (hp := rxH ds A c l B d) (nx := 1004) (n := 1000) (U := [(1000000, 52)]) (V := []) (tl := tlFa) (gl := glFar) (post := fun s ys => ys = [.v (.bool q)])
    followP tlFa_ok glFar_ok Tryz.func17 rfl (by kernel_rfl) (Nat.le_of_ble_eq_true (by kernel_rfl)) (by kernel_rfl) (by kernel_rfl) (hh_list h) (free_list (by simp [allLt, rxH])) ?_ ?_
  · rintro s ys w' rfl H
    exact ⟨rfl, H.below⟩
  intro L F T G nd va hE
  obtain ⟨hL, hF, hs, hv, hT, hG, hR, hI, hJ, hW⟩ := hE
  rw [Tryz.results17] at hF
  simp (maxSteps := 1000000) only [En.nN, En.E, En.evsC, List.map_cons, List.map_nil, Nat.reduceBEq, Nat.reduceAdd, Nat.reduceMul, Nat.reduceEqDiff, Nat.reduceLeDiff, Nat.reduceLT, ne_eq, reduceCtorEq, Int.reduceBEq, Int.reduceBNe, Int.reduceAdd, Int.reduceSub, Int.reduceMul, Int.reduceTDiv, Int.reduceTMod, Int.reduceNeg, En.bitN, Nat.testBit, Nat.reduceShiftRight, Nat.reduceShiftLeft, Nat.reduceAnd, Nat.reduceOr, Nat.reduceBNe, Int.reduceToNat, Nat.reduceSub, Int.reduceLE, Int.reduceLT] at hv
  simp only [En.at_nil, En.at_cons, En.ag_nil, En.ag_cons, and_true, tlFa, glFar, tyInt, tyI64, tyBool, tyStr, tyStrs, tyErr, tyNode, tyNodes, tyDef, tyDefs] at hT hG
  have il : inr .i64 (l.length : Int) := by simp only [En.inr, En.lo, En.hi]; omega
  have ids : inr .i64 (ds.length : Int) := by simp only [En.inr, En.lo, En.hi]; omega
  simp (maxSteps := 10000000) only [En.E, En.evsC, List.map_cons, List.map_nil, Nat.reduceBEq, Nat.reduceAdd, Nat.reduceMul, Nat.reduceEqDiff, Nat.reduceLeDiff, Nat.reduceLT, ne_eq, reduceCtorEq, Int.reduceBEq, Int.reduceBNe, Int.reduceAdd, Int.reduceSub, Int.reduceMul, Int.reduceTDiv, Int.reduceTMod, Int.reduceNeg, En.bitN, Nat.testBit, Nat.reduceShiftRight, Nat.reduceShiftLeft, Nat.reduceAnd, Nat.reduceOr, Nat.reduceBNe, Int.reduceToNat, Nat.reduceSub, Int.reduceLE, Int.reduceLT, En.vV, hs, hv, hT, hG, hF, rxH]
  refine hI {i : Nat // i ≤ min ds.length 25 ∧ ∀ j, j < i → farB (dfAt ds j) = false} (fun x => ⟨[(0, .g 1000 A ds.length c), (1, .g 1003 B l.length d), (5, .v (.int .i64 x.1))], rxH ds A c l B d, 30000⟩) (fun x => ds.length - x.1) _ _ _ ⟨0, Nat.zero_le _, fun j hj => absurd hj (Nat.not_lt_zero j)⟩ (sle_all [1003, 1000, 1001] (by decide) (by simp only [En.E, En.evsC, List.map_cons, List.map_nil, Nat.reduceBEq, Nat.reduceAdd, Nat.reduceMul, Nat.reduceEqDiff, Nat.reduceLeDiff, Nat.reduceLT, ne_eq, reduceCtorEq, Int.reduceBEq, Int.reduceBNe, Int.reduceAdd, Int.reduceSub, Int.reduceMul, Int.reduceTDiv, Int.reduceTMod, Int.reduceNeg, En.bitN, Nat.testBit, Nat.reduceShiftRight, Nat.reduceShiftLeft, Nat.reduceAnd, Nat.reduceOr, Nat.reduceBNe, Int.reduceToNat, Nat.reduceSub, Int.reduceLE, Int.reduceLT, En.slLe, En.hpLe, En.chE, En.allLt, rxH, dfH, dfD, Int.cast_ofNat_Int])) ?_
  rintro ⟨i, hi, hp⟩
  have last : (∀ j, j < min ds.length 25 → farB (dfAt ds j) = false) → q = farL ds.length l := by
    intro hj
    have : ((List.range (min ds.length 25)).any fun i => farB (dfAt ds i)) = false := by
      rw [List.any_eq_false]
      intro j hm
      rw [hj j (List.mem_range.1 hm)]; simp
    rw [hq, farV, this]; rfl
  have tail : ∀ (hI' : i = min ds.length 25), q = farL ds.length l := fun hI' => last (by rw [← hI']; exact hp)
  by_cases hlt : i < ds.length
  · have d1 : decide ((i : Int) < (ds.length : Int)) = true := decide_eq_true (by omega)
    by_cases h25 : i < 25
    · have d2 : decide ((i : Int) < 25) = true := decide_eq_true (by omega)
      have i1 : inr .i64 ((i : Int) + 1) := by simp only [En.inr, En.lo, En.hi]; omega
      have g1 : (0 : Int) ≤ i ∧ (i : Int) < ds.length := by omega
      have g2 : (0 : Int) ≤ i ∧ i < ds.length := by omega
      have hA : ¬A = none := slok_some h.2.1.1.1 (by omega)
      obtain ⟨o1, o2, o3⟩ := hd i hlt
      have i2 : inr .i64 ((dfAt ds i).body.length : Int) := by simp only [En.inr, En.lo, En.hi]; omega
      have i3 : inr .i64 ((dfAt ds i).np : Int) := by simp only [En.inr, En.lo, En.hi]; omega
      refine hW _ _ _ (sle_hp (hp := (1002, .recs (dfAt ds i).bA (dfAt ds i).bc 7 (dfAt ds i).body.length fun r => ndC (ndAt (dfAt ds i).body r)) :: _) (fun w0 O w H => hh_deep (kD := 1001) (kR := 1002) (i := i) rfl hlt rfl (by decide) H) fun k hk hn => ?_) ?_
      · have : (1002 == k) = false := by simp only [] at hk; simp; omega
        simp only [lookH, this, cond_false]; exact hn
      refine hR 1000 _ _ ?_
      have yes : farB (dfAt ds i) = true → q = true := by
        intro hb
        have : ((List.range (min ds.length 25)).any fun i => farB (dfAt ds i)) = true := by
          rw [List.any_eq_true]; exact ⟨i, List.mem_range.2 (by omega), hb⟩
        rw [hq, farV, this]; rfl
      cases d3 : decide (((dfAt ds i).body.length : Int) > 60) with
      | true =>
        have hqq := yes (by rw [farB, d3]; rfl)
        simp (maxSteps := 10000000) only [En.E, En.evsC, List.map_cons, List.map_nil, Nat.reduceBEq, Nat.reduceAdd, Nat.reduceMul, Nat.reduceEqDiff, Nat.reduceLeDiff, Nat.reduceLT, ne_eq, reduceCtorEq, Int.reduceBEq, Int.reduceBNe, Int.reduceAdd, Int.reduceSub, Int.reduceMul, Int.reduceTDiv, Int.reduceTMod, Int.reduceNeg, En.bitN, Nat.testBit, Nat.reduceShiftRight, Nat.reduceShiftLeft, Nat.reduceAnd, Nat.reduceOr, Nat.reduceBNe, Int.reduceToNat, Nat.reduceSub, Int.reduceLE, Int.reduceLT, En.vV, hs, hv, hT, hG, hF, rxH, dfH, dfD, d1, d2, d3, i1, i2, i3, g1, g2, hA, dfC_n, spWide_q, NdR_q, chL_q, o1, o2, Int.toNat_natCast, hqq, Bool.false_eq_true]
      | false =>
        cases d4 : decide (((dfAt ds i).np : Int) > 5) with
        | true =>
          have hqq := yes (by rw [farB, d3, d4]; rfl)
          simp (maxSteps := 10000000) only [En.E, En.evsC, List.map_cons, List.map_nil, Nat.reduceBEq, Nat.reduceAdd, Nat.reduceMul, Nat.reduceEqDiff, Nat.reduceLeDiff, Nat.reduceLT, ne_eq, reduceCtorEq, Int.reduceBEq, Int.reduceBNe, Int.reduceAdd, Int.reduceSub, Int.reduceMul, Int.reduceTDiv, Int.reduceTMod, Int.reduceNeg, En.bitN, Nat.testBit, Nat.reduceShiftRight, Nat.reduceShiftLeft, Nat.reduceAnd, Nat.reduceOr, Nat.reduceBNe, Int.reduceToNat, Nat.reduceSub, Int.reduceLE, Int.reduceLT, En.vV, hs, hv, hT, hG, hF, rxH, dfH, dfD, d1, d2, d3, d4, i1, i2, i3, g1, g2, hA, dfC_n, spWide_q, NdR_q, chL_q, o1, o2, Int.toNat_natCast, hqq, Bool.false_eq_true]
        | false =>
          cases d5 : wideV (dfAt ds i).body with
          | true =>
            have hqq := yes (by rw [farB, d3, d4, d5]; rfl)
            simp (maxSteps := 10000000) only [En.E, En.evsC, List.map_cons, List.map_nil, Nat.reduceBEq, Nat.reduceAdd, Nat.reduceMul, Nat.reduceEqDiff, Nat.reduceLeDiff, Nat.reduceLT, ne_eq, reduceCtorEq, Int.reduceBEq, Int.reduceBNe, Int.reduceAdd, Int.reduceSub, Int.reduceMul, Int.reduceTDiv, Int.reduceTMod, Int.reduceNeg, En.bitN, Nat.testBit, Nat.reduceShiftRight, Nat.reduceShiftLeft, Nat.reduceAnd, Nat.reduceOr, Nat.reduceBNe, Int.reduceToNat, Nat.reduceSub, Int.reduceLE, Int.reduceLT, En.vV, hs, hv, hT, hG, hF, rxH, dfH, dfD, d1, d2, d3, d4, d5, i1, i2, i3, g1, g2, hA, dfC_n, spWide_q, NdR_q, chL_q, o1, o2, Int.toNat_natCast, hqq, Bool.false_eq_true]
          | false =>
            have hno : farB (dfAt ds i) = false := by rw [farB, d3, d4, d5]; rfl
            simp (maxSteps := 10000000) only [En.E, En.evsC, List.map_cons, List.map_nil, Nat.reduceBEq, Nat.reduceAdd, Nat.reduceMul, Nat.reduceEqDiff, Nat.reduceLeDiff, Nat.reduceLT, ne_eq, reduceCtorEq, Int.reduceBEq, Int.reduceBNe, Int.reduceAdd, Int.reduceSub, Int.reduceMul, Int.reduceTDiv, Int.reduceTMod, Int.reduceNeg, En.bitN, Nat.testBit, Nat.reduceShiftRight, Nat.reduceShiftLeft, Nat.reduceAnd, Nat.reduceOr, Nat.reduceBNe, Int.reduceToNat, Nat.reduceSub, Int.reduceLE, Int.reduceLT, En.vV, hs, hv, hT, hG, hF, rxH, dfH, dfD, d1, d2, d3, d4, d5, i1, i2, i3, g1, g2, hA, dfC_n, spWide_q, NdR_q, chL_q, o1, o2, Int.toNat_natCast, Bool.false_eq_true]
            refine ⟨⟨i + 1, by omega, fun j hj => ?_⟩, (sle_all [1003, 1000, 1001] (by decide) (by simp only [En.E, En.evsC, List.map_cons, List.map_nil, Nat.reduceBEq, Nat.reduceAdd, Nat.reduceMul, Nat.reduceEqDiff, Nat.reduceLeDiff, Nat.reduceLT, ne_eq, reduceCtorEq, Int.reduceBEq, Int.reduceBNe, Int.reduceAdd, Int.reduceSub, Int.reduceMul, Int.reduceTDiv, Int.reduceTMod, Int.reduceNeg, En.bitN, Nat.testBit, Nat.reduceShiftRight, Nat.reduceShiftLeft, Nat.reduceAnd, Nat.reduceOr, Nat.reduceBNe, Int.reduceToNat, Nat.reduceSub, Int.reduceLE, Int.reduceLT, En.slLe, En.hpLe, En.chE, En.allLt, rxH, dfH, dfD, Int.natCast_add, Int.cast_ofNat_Int])), by simp only; omega⟩
            by_cases e : j = i
            · rw [e]; exact hno
            · exact hp j (by omega)
    · have d2 : decide ((i : Int) < 25) = false := decide_eq_false (by omega)
      have hqq := tail (by omega)
      refine hR 1000 _ _ ?_
      rw [farL] at hqq
      cases d3 : decide ((ds.length : Int) > 18) with
      | true =>
        rw [d3] at hqq
        simp (maxSteps := 10000000) only [En.E, En.evsC, List.map_cons, List.map_nil, Nat.reduceBEq, Nat.reduceAdd, Nat.reduceMul, Nat.reduceEqDiff, Nat.reduceLeDiff, Nat.reduceLT, ne_eq, reduceCtorEq, Int.reduceBEq, Int.reduceBNe, Int.reduceAdd, Int.reduceSub, Int.reduceMul, Int.reduceTDiv, Int.reduceTMod, Int.reduceNeg, En.bitN, Nat.testBit, Nat.reduceShiftRight, Nat.reduceShiftLeft, Nat.reduceAnd, Nat.reduceOr, Nat.reduceBNe, Int.reduceToNat, Nat.reduceSub, Int.reduceLE, Int.reduceLT, En.vV, hs, hv, hT, hG, hF, rxH, d1, d2, d3, il, ids, spWide_q, NdR_q, chL_q, hlen, hz, hqq, Bool.false_eq_true]
      | false => exact absurd (of_decide_eq_false d3) (by omega)
  · have d1 : decide ((i : Int) < (ds.length : Int)) = false := decide_eq_false (by omega)
    have hqq := tail (by omega)
    refine hR 1000 _ _ ?_
    rw [farL] at hqq
    cases d3 : decide ((ds.length : Int) > 18) with
    | true =>
      rw [d3] at hqq
      simp (maxSteps := 10000000) only [En.E, En.evsC, List.map_cons, List.map_nil, Nat.reduceBEq, Nat.reduceAdd, Nat.reduceMul, Nat.reduceEqDiff, Nat.reduceLeDiff, Nat.reduceLT, ne_eq, reduceCtorEq, Int.reduceBEq, Int.reduceBNe, Int.reduceAdd, Int.reduceSub, Int.reduceMul, Int.reduceTDiv, Int.reduceTMod, Int.reduceNeg, En.bitN, Nat.testBit, Nat.reduceShiftRight, Nat.reduceShiftLeft, Nat.reduceAnd, Nat.reduceOr, Nat.reduceBNe, Int.reduceToNat, Nat.reduceSub, Int.reduceLE, Int.reduceLT, En.vV, hs, hv, hT, hG, hF, rxH, d1, d3, il, ids, spWide_q, NdR_q, chL_q, hlen, hz, hqq, Bool.false_eq_true]
    | false =>
      rw [d3] at hqq
      cases d4 : decide ((l.length : Int) > 450) with
      | true =>
        rw [d4] at hqq
        simp (maxSteps := 10000000) only [En.E, En.evsC, List.map_cons, List.map_nil, Nat.reduceBEq, Nat.reduceAdd, Nat.reduceMul, Nat.reduceEqDiff, Nat.reduceLeDiff, Nat.reduceLT, ne_eq, reduceCtorEq, Int.reduceBEq, Int.reduceBNe, Int.reduceAdd, Int.reduceSub, Int.reduceMul, Int.reduceTDiv, Int.reduceTMod, Int.reduceNeg, En.bitN, Nat.testBit, Nat.reduceShiftRight, Nat.reduceShiftLeft, Nat.reduceAnd, Nat.reduceOr, Nat.reduceBNe, Int.reduceToNat, Nat.reduceSub, Int.reduceLE, Int.reduceLT, En.vV, hs, hv, hT, hG, hF, rxH, d1, d3, d4, il, ids, spWide_q, NdR_q, chL_q, hlen, hz, hqq, Bool.false_eq_true]
      | false =>
        rw [d4] at hqq
        simp (maxSteps := 10000000) only [En.E, En.evsC, List.map_cons, List.map_nil, Nat.reduceBEq, Nat.reduceAdd, Nat.reduceMul, Nat.reduceEqDiff, Nat.reduceLeDiff, Nat.reduceLT, ne_eq, reduceCtorEq, Int.reduceBEq, Int.reduceBNe, Int.reduceAdd, Int.reduceSub, Int.reduceMul, Int.reduceTDiv, Int.reduceTMod, Int.reduceNeg, En.bitN, Nat.testBit, Nat.reduceShiftRight, Nat.reduceShiftLeft, Nat.reduceAnd, Nat.reduceOr, Nat.reduceBNe, Int.reduceToNat, Nat.reduceSub, Int.reduceLE, Int.reduceLT, En.vV, hs, hv, hT, hG, hF, rxH, d1, d3, d4, il, ids, spWide_q, NdR_q, chL_q, hlen, hz, hqq, Bool.false_eq_true]
/-- what is not far is small -/
theorem wide_no {l : List Nd} (hl : l.length ≤ 500) (h : wideV l = false) : zsN l ∧ ∀ i, i < l.length → (ndAt l i).nm.size ≤ 100 ∧ (ndAt l i).tx.size ≤ 2000 := by
  have key : ∀ i, i < l.length → (ndAt l i).nm.size ≤ 100 ∧ (ndAt l i).tx.size ≤ 2000 := by
    intro i hi
    have := List.any_eq_false.1 h i (List.mem_range.2 (by omega))
    rw [bigN] at this
    cases d3 : decide (((ndAt l i).nm.size : Int) > 100) with
    | true => rw [d3] at this; exact absurd rfl this
    | false =>
      rw [d3] at this
      have h1 := of_decide_eq_false d3
      have h2 : ¬ ((ndAt l i).tx.size : Int) > 2000 := by simpa using this
      omega
  exact ⟨fun i hi => by have := key i hi; omega, key⟩
theorem farB_no {d : Df} (h : farB d = false) : d.body.length ≤ 60 ∧ zsN d.body ∧ d.np ≤ 5 := by
  rw [farB] at h
  cases d3 : decide ((d.body.length : Int) > 60) with
  | true => rw [d3] at h; cases h
  | false =>
    rw [d3] at h
    cases d4 : decide ((d.np : Int) > 5) with
    | true => rw [d4] at h; cases h
    | false =>
      rw [d4] at h
      have h1 := of_decide_eq_false d3
      have h2 := of_decide_eq_false d4
      exact ⟨by omega, (wide_no (by omega) h).1, by omega⟩
theorem far_no {ds : List Df} {l : List Nd} (h : farV ds l = false) : ds.length ≤ 18 ∧ dfOk ds ∧ l.length ≤ 450 ∧ zsN l := by
  rw [farV] at h
  cases ha : (List.range (min ds.length 25)).any fun i => farB (dfAt ds i) with
  | true => rw [ha] at h; cases h
  | false =>
    rw [ha] at h
    have h : farL ds.length l = false := h
    rw [farL] at h
    cases d3 : decide ((ds.length : Int) > 18) with
    | true => rw [d3] at h; cases h
    | false =>
      rw [d3] at h
      cases d4 : decide ((l.length : Int) > 450) with
      | true => rw [d4] at h; cases h
      | false =>
        rw [d4] at h
        have h1 := of_decide_eq_false d3
        have h2 := of_decide_eq_false d4
        refine ⟨by omega, fun i hi => ?_, by omega, (wide_no (by omega) h).1⟩
        have := farB_no (by simpa using List.any_eq_false.1 ha i (List.mem_range.2 (by omega)))
        exact ⟨by omega, this.2.1, by omega⟩
def dfMo (A : Option Addr) (n c k : Nat) (H : Nat → Ch) : Prop := DfR A n c (H k) (H 1001) ∧ n ≤ 9223372036854775807 ∧ dfM (dsL n (H k) (H 1001))
def spFar : Spc
  | [.g kd A n c, .g k B m d], H, _ => .is (dfMo A n c kd H ∧ NdR B m d (H k) ∧ m ≤ 9223372036854775807 ∧ zsM (chL m (H k))) (.v (.bool (farV (dsL n (H kd) (H 1001)) (chL m (H k)))))
  | [.g kd A n c, .v (.slice none 0 0)], H, _ => .is (dfMo A n c kd H) (.v (.bool (farV (dsL n (H kd) (H 1001)) [])))
  | _, _, _ => .bad
theorem spFar_q {k kd n m c d : Nat} {A B : Option Addr} {H : Nat → Ch} {nx : Nat} : spFar [.g kd A n c, .g k B m d] H nx = .is (dfMo A n c kd H ∧ NdR B m d (H k) ∧ m ≤ 9223372036854775807 ∧ zsM (chL m (H k))) (.v (.bool (farV (dsL n (H kd) (H 1001)) (chL m (H k))))) := rfl
theorem spFar_ok : SpecOk Tryz.prog 17 spFar := by
  intro args hp nx w0 O w H hv
  unfold spFar at hv ⊢
  split at hv
  · next kd A n c k B m d =>
    obtain ⟨⟨h1, hn, hd⟩, g1, gn, gz⟩ := hv
    obtain ⟨hl, hh⟩ := DfR_hold h1 (H.hold kd) (H.hold 1001)
    obtain ⟨gl, gg⟩ := NdR_hold g1 (H.hold k)
    generalize dsL n (lookH hp kd) (lookH hp 1001) = ds at hl hh hd ⊢
    generalize chL m (lookH hp k) = l at gl gg gz ⊢
    subst hl
    subst gl
    refine (far_any ds hn hd A c l gn gz B d w ⟨⟨gg _, rfl⟩, ⟨(hh _ 1002).1, rfl⟩, ⟨(hh _ 1002).2, rfl⟩, trivial⟩).mono ?_
    rintro e w' ⟨rfl, hb⟩
    exact ⟨⟨0, none, 0, none, 0, mz⟩, rfl, .still hb⟩
  · next kd A n c =>
    obtain ⟨h1, hn, hd⟩ := hv
    obtain ⟨hl, hh⟩ := DfR_hold h1 (H.hold kd) (H.hold 1001)
    generalize dsL n (lookH hp kd) (lookH hp 1001) = ds at hl hh hd ⊢
    subst hl
    have z : Hold w.heap.size w (.recs none 0 7 ([] : List Nd).length fun i => ndC (ndAt [] i)) := ⟨⟨Nat.le_refl 0, fun h => absurd rfl h⟩, fun i hi => absurd hi (Nat.not_lt_zero i)⟩
    refine (far_any ds hn hd A c [] (Nat.zero_le _) (fun i hi => absurd hi (Nat.not_lt_zero i)) none 0 w ⟨⟨z, rfl⟩, ⟨(hh _ 1002).1, rfl⟩, ⟨(hh _ 1002).2, rfl⟩, trivial⟩).mono ?_
    rintro e w' ⟨rfl, hb⟩
    exact ⟨⟨0, none, 0, none, 0, mz⟩, rfl, .still hb⟩
  · exact hv.elim
end Pr
end Go.Proofs.YtapgddiocdcaeaaGreatDoor
