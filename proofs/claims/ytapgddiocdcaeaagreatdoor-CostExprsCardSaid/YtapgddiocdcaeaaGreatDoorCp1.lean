/-
Chapter 25, plainly: the least steps by a map are those by the last function of a name.
-/
import Derived.Test.YtapgddiocdcaeaaGreatDoorLk1
import Derived.Test.YtapgddiocdcaeaaGreatDoorRe1
import Derived.Test.YtapgddiocdcaeaaGreatDoorAw1
import Derived.Test.YtapgddiocdcaeaaGreatDoorOpB
set_option linter.unusedSimpArgs false
set_option linter.unusedVariables false
namespace Go.Proofs.YtapgddiocdcaeaaGreatDoor
namespace Pr
open Go Go.RowKit En
open Ex
abbrev Fs := List (ByteArray × Nat)
def nsAt (ns : Fs) (i : Nat) : ByteArray × Nat := ns.getD i (ByteArray.empty, 0)
/-- the last function with a name; below 0: there is none -/
def lsN (ns : Fs) (nm : ByteArray) : Nat → Int
  | 0 => -1
  | j + 1 => if (nsAt ns j).1 = nm then (j : Int) else lsN ns nm j
def lastI (ns : Fs) (nm : ByteArray) : Int := lsN ns nm ns.length
theorem lsN_lt (ns : Fs) (nm : ByteArray) : ∀ j, -1 ≤ lsN ns nm j ∧ lsN ns nm j < j
  | 0 => ⟨Int.le_refl _, by simp [lsN]⟩
  | j + 1 => by
    have := lsN_lt ns nm j
    rw [lsN]
    split <;> omega
theorem lsN_app (ns m : Fs) (nm : ByteArray) : ∀ j, j ≤ ns.length → lsN (ns ++ m) nm j = lsN ns nm j
  | 0, _ => rfl
  | j + 1, h => by
    rw [lsN, lsN, lsN_app ns m nm j (by omega)]
    have : nsAt (ns ++ m) j = nsAt ns j := by simp [nsAt, List.getD_eq_getElem?_getD, List.getElem?_append_left (show j < ns.length by omega)]
    rw [this]
theorem lastI_snoc (ns : Fs) (x : ByteArray × Nat) (nm : ByteArray) : lastI (ns ++ [x]) nm = if x.1 = nm then (ns.length : Int) else lastI ns nm := by
  have e : nsAt (ns ++ [x]) ns.length = x := by simp [nsAt]
  rw [lastI, List.length_append, List.length_singleton, lsN, e, lsN_app _ _ _ _ (Nat.le_refl _)]
  rfl
/-- the error of the calls of an expression -/
def clF (ns : Fs) (l : List Nd) : Nat → Nat → Int
  | 0, _ => 0
  | f + 1, i => if l.length ≤ i then 0 else if (ndAt l i).k ≠ 6 then clF ns l f (i + 1) else if lastI ns (ndAt l i).nm < 0 then 24 else if ((nsAt ns (lastI ns (ndAt l i).nm).toNat).2 : Int) ≠ (ndAt l i).c then 23 else clF ns l f (i + 1)
def calV (ns : Fs) (l : List Nd) : Int := clF ns l l.length 0
/-- the steps, with those of the bodies -/
def exF (ns : Fs) (bs : List Int) (l : List Nd) : Nat → Nat → Int → Int
  | 0, _, s => s
  | f + 1, i, s => if l.length ≤ i then s else exF ns bs l f (i + 1 + Ks l i) (if (ndAt l i).k = 6 then s + 1 + bs.getD (lastI ns (ndAt l i).nm).toNat 0 else s + 1)
def exV (ns : Fs) (bs : List Int) (l : List Nd) : Int := minV (exF ns bs l l.length 0 0)
def RelE (es : List (MK × List Int)) (ns : Fs) (bs : List Int) : Prop := ∀ nm, fnd es (.s nm) = if lastI ns nm < 0 then none else some [bs.getD (lastI ns nm).toNat 0, ((nsAt ns (lastI ns nm).toNat).2 : Int)]
theorem relE_nil : RelE [] [] [] := fun nm => by simp [lastI, lsN, fnd]
theorem relE_put {es : List (MK × List Int)} {ns : Fs} {bs : List Int} (h : RelE es ns bs) (hl : bs.length = ns.length) (nm : ByteArray) (np : Nat) (b : Int) : RelE (put es (.s nm) [b, np]) (ns ++ [(nm, np)]) (bs ++ [b]) := by
  intro nm'
  rw [fnd_put, lastI_snoc]
  by_cases e : nm = nm'
  · subst e
    have e1 : (bs ++ [b]).getD bs.length 0 = b := by simp
    have e2 : nsAt (ns ++ [(nm, np)]) ns.length = (nm, np) := by simp [nsAt]
    simp only [if_true]
    rw [if_neg (by omega), Int.toNat_natCast, e2, ← hl, e1]
  · rw [if_neg (by simpa using e), if_neg e, h nm']
    have hb := lsN_lt ns nm' ns.length
    split
    · rfl
    · next hn =>
      have hlt : (lastI ns nm').toNat < ns.length := by have : lastI ns nm' < ns.length := hb.2; omega
      have e1 : nsAt (ns ++ [(nm, np)]) (lastI ns nm').toNat = nsAt ns (lastI ns nm').toNat := by simp [nsAt, List.getD_eq_getElem?_getD, List.getElem?_append_left hlt]
      have e2 : (bs ++ [b]).getD (lastI ns nm').toNat 0 = bs.getD (lastI ns nm').toNat 0 := by simp [List.getD_eq_getElem?_getD, List.getElem?_append_left (show (lastI ns nm').toNat < bs.length by omega)]
      rw [e1, e2]
theorem chk_bad {l : List Nd} (h : (chkV l).2 = 0) : ∀ i, i < l.length → badL l i = false := by
  obtain ⟨h0, h1, hg, h4⟩ := chk_ok h
  by_cases hf : 0 ≤ faultF l
  · exfalso
    have hany : ((List.range l.length).any fun i => faultV (ndAt l i) != 0) = true := by rw [← idxV_any]; exact decide_eq_true hf
    rw [chkV, if_neg h0, if_neg (by omega), if_pos hf] at h
    have hq : faultF l = ((List.range l.length).find? fun i => faultV (ndAt l i) != 0).elim (-1) fun i => (i : Int) := rfl
    cases e : (List.range l.length).find? fun i => faultV (ndAt l i) != 0 with
    | none => rw [e] at hq; rw [hq] at hf; exact absurd hf (by decide)
    | some i =>
      rw [e] at hq
      have hp := (List.find?_range_eq_some.1 e).1
      rw [hq] at h
      simp only [Option.elim, Int.toNat_natCast] at h
      rw [h] at hp; cases hp
  · by_cases hx : 0 ≤ listV l
    · rw [chkV, if_neg h0, if_neg (by omega), if_neg hf, if_pos hx] at h; cases h
    · exact idxV_neg hx
theorem bad_num {l : List Nd} {i : Nat} (h : badL l i = false) (h3 : (ndAt l i).k = 3) : ∀ j, j < Ks l i → (ndAt l (i + 1 + j)).k = 1 := by
  intro j hj
  have hk : ((ndAt l i).k == 3) = true := by rw [h3]; rfl
  rw [badL, hk, Bool.true_and, Bool.or_eq_false_iff] at h
  have := List.any_eq_false.1 h.2 j (List.mem_range.2 hj)
  simpa using this
theorem clF_fuel (ns : Fs) (l : List Nd) : ∀ (f g i : Nat), l.length ≤ i + f → l.length ≤ i + g → clF ns l f i = clF ns l g i := by
  intro f
  induction f with
  | zero =>
    intro g i hf hg
    cases g with
    | zero => rfl
    | succ g => rw [clF, clF, if_pos (by omega)]
  | succ f ih =>
    intro g i hf hg
    cases g with
    | zero => rw [clF, clF, if_pos (by omega)]
    | succ g =>
      rw [clF, clF]
      rw [ih g (i + 1) (by omega) (by omega)]
theorem clF_ones (ns : Fs) (l : List Nd) : ∀ (k f i : Nat), l.length ≤ i + f → (∀ j, j < k → (ndAt l (i + j)).k = 1) → clF ns l f i = clF ns l f (i + k)
  | 0, f, i, _, _ => rfl
  | k + 1, 0, i, hf, _ => rfl
  | k + 1, f + 1, i, hf, h => by
    have h0 := h 0 (by omega)
    rw [Nat.add_zero] at h0
    by_cases hi : l.length ≤ i
    · rw [clF, if_pos hi, clF, if_pos (by omega)]
    · rw [clF, if_neg hi, if_pos (by rw [h0]; decide), clF_ones ns l k f (i + 1) (by omega) fun j hj => by rw [show i + 1 + j = i + (j + 1) by omega]; exact h (j + 1) (by omega)]
      rw [show i + 1 + k = i + (k + 1) by omega]
      exact clF_fuel ns l f (f + 1) _ (by omega) (by omega)
theorem lkF_eq {es : List (MK × List Int)} {ns : Fs} {bs : List Int} (h : RelE es ns bs) {l : List Nd} (hb : ∀ i, i < l.length → badL l i = false) : ∀ (f i : Nat) (s : Int), l.length ≤ i + f →
    lkF es l f i s = if clF ns l f i = 0 then (minV (exF ns bs l f i s), 0) else (0, clF ns l f i) := by
  intro f
  induction f with
  | zero => intro i s hf; rw [lkF, clF, if_pos rfl]; rfl
  | succ f ih =>
    intro i s hf
    rw [lkF, clF, exF]
    by_cases hi : l.length ≤ i
    · rw [if_pos hi, if_pos hi, if_pos hi, if_pos rfl]
    · rw [if_neg hi, if_neg hi, if_neg hi]
      by_cases h6 : (ndAt l i).k = 6
      · have hK : Ks l i = 0 := if_neg (by rw [h6]; decide)
        simp only [h6, ne_eq, not_true_eq_false, if_true, if_false]
        rw [h (ndAt l i).nm, hK, Nat.add_zero]
        by_cases hl : lastI ns (ndAt l i).nm < 0
        · simp only [hl, if_true]; rfl
        · simp only [hl, if_false, List.getD_cons_zero, List.getD_cons_succ]
          by_cases hc : ((nsAt ns (lastI ns (ndAt l i).nm).toNat).2 : Int) = (ndAt l i).c
          · simp only [hc, if_true, not_true_eq_false, if_false]
            exact ih _ _ (by omega)
          · simp only [hc, if_false, not_false_eq_true, if_true]; rfl
      · rw [if_neg h6, if_pos h6, if_neg h6, ih _ _ (by omega)]
        have e : clF ns l f (i + 1) = clF ns l f (i + 1 + Ks l i) := by
          refine clF_ones ns l (Ks l i) f (i + 1) (by omega) fun j hj => ?_
          have h3 : (ndAt l i).k = 3 := by
            by_cases e : (ndAt l i).k = 3
            · exact e
            · have : Ks l i = 0 := if_neg e
              omega
          exact bad_num (hb i (by omega)) h3 j hj
        rw [e]
/-- what the program looks up, told by the last function of each name -/
theorem lookV_eq {es : List (MK × List Int)} {ns : Fs} {bs : List Int} (h : RelE es ns bs) (l : List Nd) :
    lookV es l = if (chkV l).2 ≠ 0 then (0, (chkV l).2) else if calV ns l ≠ 0 then (0, calV ns l) else (exV ns bs l, 0) := by
  rw [lookV]
  by_cases h0 : (chkV l).2 = 0
  · rw [if_pos h0, if_neg (by simp [h0]), lkF_eq h (chk_bad h0) l.length 0 0 (by omega)]
    by_cases hc : clF ns l l.length 0 = 0
    · rw [if_pos hc, if_neg (by simp [calV, hc])]; rfl
    · rw [if_neg hc, if_pos (show calV ns l ≠ 0 from hc)]; rfl
  · rw [if_neg h0, if_pos h0]
def nsOf (ds : List Df) : Fs := ds.map fun d => (d.nm, d.np)
/-- the reference's: errors of the bodies, one after the other; steps of the bodies -/
def rbE : Fs → List Df → Int
  | _, [] => 0
  | ns, d :: ds => if (chkV d.body).2 ≠ 0 then (chkV d.body).2 else if calV ns d.body ≠ 0 then calV ns d.body else rbE (ns ++ [(d.nm, d.np)]) ds
def rbS : Fs → List Int → List Df → List Int
  | _, bs, [] => bs
  | ns, bs, d :: ds => rbS (ns ++ [(d.nm, d.np)]) (bs ++ [exV ns bs d.body]) ds
def rexV (ds : List Df) (l : List Nd) : Int × Int :=
  if 16 < ds.length then (0, 3) else if rbE [] ds ≠ 0 then (0, rbE [] ds) else if (chkV l).2 ≠ 0 then (0, (chkV l).2) else if calV (nsOf ds) l ≠ 0 then (0, calV (nsOf ds) l) else (exV (nsOf ds) (rbS [] [] ds) l, 0)
theorem knG_rel : ∀ (ds : List Df) (es : List (MK × List Int)) (ns : Fs) (bs : List Int), RelE es ns bs → bs.length = ns.length →
    (knG ds es).2 = rbE ns ds ∧ (rbE ns ds = 0 → RelE (knG ds es).1 (ns ++ nsOf ds) (rbS ns bs ds))
  | [], es, ns, bs, h, hl => ⟨rfl, fun _ => by simpa [knG, nsOf, rbS] using h⟩
  | d :: ds, es, ns, bs, h, hl => by
    rw [knG, rbE, rbS, lookV_eq h]
    by_cases h1 : (chkV d.body).2 = 0
    · by_cases h2 : calV ns d.body = 0
      · simp only [ne_eq, h1, h2, not_true_eq_false, if_false, if_true]
        have := knG_rel ds (put es (.s d.nm) [exV ns bs d.body, d.np]) (ns ++ [(d.nm, d.np)]) (bs ++ [exV ns bs d.body]) (relE_put h hl d.nm d.np _) (by simp [hl])
        refine ⟨this.1, fun h0 => ?_⟩
        have := this.2 h0
        simpa [nsOf] using this
      · simp [h1, h2]
    · simp [h1]
/-- **Both sides tell the same.** -/
theorem exprV_eq (ds : List Df) (l : List Nd) : exprV ds l = rexV ds l := by
  rw [exprV, rexV, knV]
  by_cases h : 16 < ds.length
  · rw [if_pos h, if_pos h]; rfl
  · rw [if_neg h, if_neg h]
    obtain ⟨h1, h2⟩ := knG_rel ds [] [] [] relE_nil rfl
    rw [h1]
    by_cases h0 : rbE [] ds = 0
    · rw [if_pos h0, if_neg (by simp [h0]), lookV_eq (h2 h0)]
      rfl
    · rw [if_neg h0, if_pos h0]
end Pr
end Go.Proofs.YtapgddiocdcaeaaGreatDoor
/-
Chapter 25: the reference's last, calls and expr.
-/
set_option linter.unusedSimpArgs false
set_option linter.unusedVariables false
namespace Go.Proofs.YtapgddiocdcaeaaGreatDoor
namespace Pr
open Go Go.RowKit En
open Ex
theorem str_ne {a b : ByteArray} (h : a ≠ b) : (a.toList == b.toList) = false := by
  rw [beq_eq_false_iff_ne, Lib.toList_data, Lib.toList_data]
  intro e
  apply h
  cases a; cases b
  simp only [ByteArray.mk.injEq]
  exact Array.ext' e
def unNs : List SV → ByteArray × Nat
  | [.v (.string nm), .v (.slice _ np _), _] => (nm, np)
  | _ => (ByteArray.empty, 0)
def nsL (n : Nat) : Ch → Fs
  | .recs _ _ 3 _ f => (List.range n).map fun i => unNs (f i)
  | _ => []
/-- functions, of which only names and numbers of parameters count -/
def NsR (A : Option Addr) (n c : Nat) : Ch → Prop
  | .recs A' c' 3 n' f => A' = A ∧ c' = c ∧ n' = n ∧ ∀ i, i < n → ∃ p q y, f i = [.v (.string (unNs (f i)).1), .v (.slice p (unNs (f i)).2 q), y]
  | _ => False
def nsH (ns : Fs) (A : Option Addr) (c : Nat) (p : Nat → Option Addr) (q : Nat → Nat) (y : Nat → Value) : Ch := .recs A c 3 ns.length fun i => [.v (.string (nsAt ns i).1), .v (.slice (p i) (nsAt ns i).2 (q i)), .v (y i)]
theorem NsR_hold {A : Option Addr} {n c B : Nat} {w : World} {x : Ch} (h : NsR A n c x) (hx : Hold B w x) : (nsL n x).length = n ∧ ∃ p q y, ∀ B', Hold B' w (nsH (nsL n x) A c p q y) := by
  unfold NsR at h
  split at h
  · next A' c' n' f =>
    obtain ⟨rfl, rfl, rfl, hf⟩ := h
    have hlen : (nsL n' (.recs A' c' 3 n' f)).length = n' := by simp [nsL]
    have hat : ∀ i, i < n' → nsAt (nsL n' (.recs A' c' 3 n' f)) i = unNs (f i) := fun i hi => by
      rw [nsAt, nsL, List.getD_eq_getElem?_getD, List.getElem?_map, List.getElem?_range hi]; rfl
    have hf' : ∀ i, ∃ p q y, i < n' → f i = [.v (.string (unNs (f i)).1), .v (.slice p (unNs (f i)).2 q), y] := fun i => by
      by_cases hi : i < n'
      · obtain ⟨p, q, y, e⟩ := hf i hi; exact ⟨p, q, y, fun _ => e⟩
      · exact ⟨none, 0, .un, fun h => absurd h hi⟩
    refine ⟨hlen, fun i => (hf' i).choose, fun i => (hf' i).choose_spec.choose, fun i => den (hf' i).choose_spec.choose_spec.choose, fun B' => ?_⟩
    simp only [nsH, hlen]
    refine ⟨⟨hx.1.1, fun hn => ?_⟩, fun i hi => rfl⟩
    obtain ⟨b, o, e, hb, hc⟩ := hx.1.2 hn
    refine ⟨b, o, e, hb, fun i hi j hj => ?_⟩
    have h3 := hc i hi j hj
    have e2 := (hf' i).choose_spec.choose_spec.choose_spec hi
    have e3 : (dens (f i)).getD j undef = (dens [SV.v (.string (nsAt (nsL n' (.recs A' c' 3 n' f)) i).1), .v (.slice (hf' i).choose (nsAt (nsL n' (.recs A' c' 3 n' f)) i).2 (hf' i).choose_spec.choose), .v (den (hf' i).choose_spec.choose_spec.choose)]).getD j undef := by
      rw [hat i hi]
      conv => lhs; rw [e2]
      rfl
    exact h3.trans (congrArg some e3)
  · exact h.elim
theorem NsR_df {kb : Nat} {ds : List Df} {A : Option Addr} {c : Nat} : NsR A ds.length c (dfH kb ds A c) = True := eq_true ⟨rfl, rfl, rfl, fun i _ => ⟨_, _, _, rfl⟩⟩
theorem nsL_df {kb : Nat} {ds : List Df} {A : Option Addr} {c : Nat} : nsL ds.length (dfH kb ds A c) = nsOf ds := by
  apply List.ext_getElem
  · simp [nsL, dfH, nsOf]
  · intro i h1 h2
    simp only [nsL, dfH, nsOf, List.getElem_map, List.getElem_range]
    have : i < ds.length := by simpa [nsOf] using h2
    simp [dfC, unNs, dfAt, this]
section
variable (ns : Fs) (A : Option Addr) (c : Nat) (p : Nat → Option Addr) (q : Nat → Nat) (y : Nat → Value)
def laH : Hp := [(1000, nsH ns A c p q y)]
def laI (nm : ByteArray) (j : Nat) : SS := ⟨[(0, .g 1000 A ns.length c), (1, .v (.string nm)), (5, .v (.int .i64 ((j : Int) - 1)))], laH ns A c p q y, 3000⟩
end
def tlLa : List (TypeId × TI) := [tyInt, tyI64, tyBool, tyStr, tyStrs, tyErr, tyNode, tyNodes, tyDef, tyDefs, tyI64s]
theorem tlLa_ok : TyAll Tryz.prog (lookT tlLa) := tyAll_p tyInt_ok <| tyAll_p tyI64_ok <| tyAll_p tyBool_ok <| tyAll_p tyStr_ok <| tyAll_p tyStrs_ok <| tyAll_p tyErr_ok <| tyAll_p tyNode_ok <| tyAll_p tyNodes_ok <| tyAll_p tyDef_ok <| tyAll_p tyDefs_ok <| tyAll_p tyI64s_ok tyAll_nil
set_option maxRecDepth 100000 in
set_option maxHeartbeats 4000000 in
theorem last_any (ns : Fs) (hn : ns.length ≤ 100000) (nm : ByteArray) (A : Option Addr) (c : Nat) (p : Nat → Option Addr) (q : Nat → Nat) (y : Nat → Value) (w : World) (h : allRd w.heap.size w (laH ns A c p q y)) :
    Calls Tryz.prog 70 #[.slice A ns.length c, .string nm] w fun e w' => e = .returned (.int .i64 (lastI ns nm)) ∧ Below w.heap.size w w' := by
  obtain ⟨r, hr⟩ : ∃ r, r = lastI ns nm := ⟨_, rfl⟩
  rw [← hr]
  refine calls_go (args := [.g 1000 A ns.length c, .v (.string nm)]) (hp := laH ns A c p q y) (nx := 1001) (n := 1000) (U := [(1000000, 21)]) (V := []) (tl := tlLa) (gl := gl0) (post := fun s ys => ys = [.v (.int .i64 r)])
    followP tlLa_ok gl0_ok Tryz.func70 rfl (by kernel_rfl) (Nat.le_of_ble_eq_true (by kernel_rfl)) (by kernel_rfl) (by kernel_rfl) (hh_list h) (free_list (by simp [allLt, laH])) ?_ ?_
  · rintro s ys w' rfl H
    exact ⟨rfl, H.below⟩
  intro L F T G nd va hE
  obtain ⟨hL, hF, hs, hv, hT, hG, hR, hI, hJ, hW⟩ := hE
  rw [Tryz.results70] at hF
  simp (maxSteps := 1000000) only [En.nN, En.E, En.evsC, List.map_cons, List.map_nil, Nat.reduceBEq, Nat.reduceAdd, Nat.reduceMul, Nat.reduceEqDiff, Nat.reduceLeDiff, Nat.reduceLT, ne_eq, reduceCtorEq, Int.reduceBEq, Int.reduceBNe, Int.reduceAdd, Int.reduceSub, Int.reduceMul, Int.reduceTDiv, Int.reduceTMod, Int.reduceNeg, En.bitN, Nat.testBit, Nat.reduceShiftRight, Nat.reduceShiftLeft, Nat.reduceAnd, Nat.reduceOr, Nat.reduceBNe, Int.reduceToNat, Nat.reduceSub, Int.reduceLE, Int.reduceLT] at hv
  simp only [En.at_nil, En.at_cons, En.ag_nil, En.ag_cons, and_true, tlLa, gl0, tyInt, tyI64, tyBool, tyStr, tyStrs, tyErr, tyNode, tyNodes, tyDef, tyDefs, tyI64s] at hT hG
  have i0 : inr .i64 ((ns.length : Int) - 1) := by simp only [En.inr, En.lo, En.hi]; omega
  simp (maxSteps := 10000000) only [En.E, En.evsC, List.map_cons, List.map_nil, Nat.reduceBEq, Nat.reduceAdd, Nat.reduceMul, Nat.reduceEqDiff, Nat.reduceLeDiff, Nat.reduceLT, ne_eq, reduceCtorEq, Int.reduceBEq, Int.reduceBNe, Int.reduceAdd, Int.reduceSub, Int.reduceMul, Int.reduceTDiv, Int.reduceTMod, Int.reduceNeg, En.bitN, Nat.testBit, Nat.reduceShiftRight, Nat.reduceShiftLeft, Nat.reduceAnd, Nat.reduceOr, Nat.reduceBNe, Int.reduceToNat, Nat.reduceSub, Int.reduceLE, Int.reduceLT, En.vV, hs, hv, hT, hG, hF, laH, nsH, i0]
  refine hI {j : Nat // j ≤ ns.length ∧ r = lsN ns nm j} (fun x => laI ns A c p q y nm x.1) (fun x => x.1) _ _ _
    ⟨ns.length, Nat.le_refl _, hr⟩ (sle_all [1000] (by decide) (by simp only [En.E, En.evsC, List.map_cons, List.map_nil, Nat.reduceBEq, Nat.reduceAdd, Nat.reduceMul, Nat.reduceEqDiff, Nat.reduceLeDiff, Nat.reduceLT, ne_eq, reduceCtorEq, Int.reduceBEq, Int.reduceBNe, Int.reduceAdd, Int.reduceSub, Int.reduceMul, Int.reduceTDiv, Int.reduceTMod, Int.reduceNeg, En.bitN, Nat.testBit, Nat.reduceShiftRight, Nat.reduceShiftLeft, Nat.reduceAnd, Nat.reduceOr, Nat.reduceBNe, Int.reduceToNat, Nat.reduceSub, Int.reduceLE, Int.reduceLT, En.slLe, En.hpLe, En.chE, En.allLt, laI, laH, nsH, Int.cast_ofNat_Int])) ?_
  rintro ⟨j, hj, hrj⟩
  refine hR 1000 _ _ ?_
  cases j with
  | zero =>
    have d1 : decide (((0 : Nat) : Int) - 1 ≥ 0) = false := rfl
    rw [lsN] at hrj
    simp (maxSteps := 10000000) only [En.E, En.evsC, List.map_cons, List.map_nil, Nat.reduceBEq, Nat.reduceAdd, Nat.reduceMul, Nat.reduceEqDiff, Nat.reduceLeDiff, Nat.reduceLT, ne_eq, reduceCtorEq, Int.reduceBEq, Int.reduceBNe, Int.reduceAdd, Int.reduceSub, Int.reduceMul, Int.reduceTDiv, Int.reduceTMod, Int.reduceNeg, En.bitN, Nat.testBit, Nat.reduceShiftRight, Nat.reduceShiftLeft, Nat.reduceAnd, Nat.reduceOr, Nat.reduceBNe, Int.reduceToNat, Nat.reduceSub, Int.reduceLE, Int.reduceLT, En.vV, hs, hv, hT, hG, hF, laI, laH, nsH, d1, hrj]
  | succ j =>
    have e1 : ((j + 1 : Nat) : Int) - 1 = (j : Int) := by omega
    have d1 : decide ((j : Int) ≥ 0) = true := decide_eq_true (by omega)
    have i1 : inr .i64 ((j : Int) - 1) := by simp only [En.inr, En.lo, En.hi]; omega
    have g1 : (0 : Int) ≤ j ∧ (j : Int) < ns.length := by omega
    have g2 : (0 : Int) ≤ j ∧ j < ns.length := by omega
    have hA : ¬A = none := slok_some h.1.1.1 (by omega)
    rw [lsN] at hrj
    by_cases he : (nsAt ns j).1 = nm
    · have d2 : ((nsAt ns j).1.toList == nm.toList) = true := by rw [he]; exact beq_self_eq_true _
      rw [if_pos he] at hrj
      simp (maxSteps := 10000000) only [En.E, En.evsC, List.map_cons, List.map_nil, Nat.reduceBEq, Nat.reduceAdd, Nat.reduceMul, Nat.reduceEqDiff, Nat.reduceLeDiff, Nat.reduceLT, ne_eq, reduceCtorEq, Int.reduceBEq, Int.reduceBNe, Int.reduceAdd, Int.reduceSub, Int.reduceMul, Int.reduceTDiv, Int.reduceTMod, Int.reduceNeg, En.bitN, Nat.testBit, Nat.reduceShiftRight, Nat.reduceShiftLeft, Nat.reduceAnd, Nat.reduceOr, Nat.reduceBNe, Int.reduceToNat, Nat.reduceSub, Int.reduceLE, Int.reduceLT, En.vV, hs, hv, hT, hG, hF, laI, laH, nsH, d1, e1, d2, i1, g1, g2, hA, Int.toNat_natCast, hrj]
    · have d2 : ((nsAt ns j).1.toList == nm.toList) = false := str_ne he
      rw [if_neg he] at hrj
      simp (maxSteps := 10000000) only [En.E, En.evsC, List.map_cons, List.map_nil, Nat.reduceBEq, Nat.reduceAdd, Nat.reduceMul, Nat.reduceEqDiff, Nat.reduceLeDiff, Nat.reduceLT, ne_eq, reduceCtorEq, Int.reduceBEq, Int.reduceBNe, Int.reduceAdd, Int.reduceSub, Int.reduceMul, Int.reduceTDiv, Int.reduceTMod, Int.reduceNeg, En.bitN, Nat.testBit, Nat.reduceShiftRight, Nat.reduceShiftLeft, Nat.reduceAnd, Nat.reduceOr, Nat.reduceBNe, Int.reduceToNat, Nat.reduceSub, Int.reduceLE, Int.reduceLT, En.vV, hs, hv, hT, hG, hF, laI, laH, nsH, d1, e1, d2, i1, g1, g2, hA, Int.toNat_natCast]
      exact ⟨⟨j, by omega, hrj⟩, (sle_all [1000] (by decide) (by simp only [En.E, En.evsC, List.map_cons, List.map_nil, Nat.reduceBEq, Nat.reduceAdd, Nat.reduceMul, Nat.reduceEqDiff, Nat.reduceLeDiff, Nat.reduceLT, ne_eq, reduceCtorEq, Int.reduceBEq, Int.reduceBNe, Int.reduceAdd, Int.reduceSub, Int.reduceMul, Int.reduceTDiv, Int.reduceTMod, Int.reduceNeg, En.bitN, Nat.testBit, Nat.reduceShiftRight, Nat.reduceShiftLeft, Nat.reduceAnd, Nat.reduceOr, Nat.reduceBNe, Int.reduceToNat, Nat.reduceSub, Int.reduceLE, Int.reduceLT, En.slLe, En.hpLe, En.chE, En.allLt, laI, laH, nsH, Int.natCast_add, Int.cast_ofNat_Int])), by simp only; omega⟩
def spLast : Spc
  | [.g k A n c, .v (.string nm)], H, _ => .is (NsR A n c (H k) ∧ n ≤ 100000) (.v (.int .i64 (lastI (nsL n (H k)) nm)))
  | _, _, _ => .bad
theorem spLast_q {k n c : Nat} {A : Option Addr} {nm : ByteArray} {H : Nat → Ch} {nx : Nat} : spLast [.g k A n c, .v (.string nm)] H nx = .is (NsR A n c (H k) ∧ n ≤ 100000) (.v (.int .i64 (lastI (nsL n (H k)) nm))) := rfl
theorem spLast_ok : SpecOk Tryz.prog 70 spLast := by
  intro args hp nx w0 O w H hv
  unfold spLast at hv ⊢
  split at hv
  · next k A n c nm =>
    obtain ⟨h1, hn⟩ := hv
    obtain ⟨hl, p, q, y, hh⟩ := NsR_hold h1 (H.hold k)
    generalize nsL n (lookH hp k) = ns at hl hh ⊢
    subst hl
    refine (last_any ns hn nm A c p q y w ⟨⟨hh _, rfl⟩, trivial⟩).mono ?_
    rintro e w' ⟨rfl, hb⟩
    exact ⟨⟨0, none, 0, none, 0, mz⟩, rfl, .still hb⟩
  · exact hv.elim
theorem NsR_u {ns : Fs} {A : Option Addr} {c : Nat} {p : Nat → Option Addr} {q : Nat → Nat} {y : Nat → Value} : NsR A ns.length c (.recs A c 3 ns.length fun i => [.v (.string (nsAt ns i).1), .v (.slice (p i) (nsAt ns i).2 (q i)), .v (y i)]) = True := eq_true ⟨rfl, rfl, rfl, fun i _ => ⟨_, _, _, rfl⟩⟩
theorem NsR_c {ns : Fs} {A : Option Addr} {c : Nat} {p : Nat → Option Addr} {q : Nat → Nat} {y : Nat → Value} : NsR A ns.length c (nsH ns A c p q y) = True := eq_true ⟨rfl, rfl, rfl, fun i _ => ⟨_, _, _, rfl⟩⟩
theorem nsL_c {ns : Fs} {A : Option Addr} {c : Nat} {p : Nat → Option Addr} {q : Nat → Nat} {y : Nat → Value} : nsL ns.length (nsH ns A c p q y) = ns := by
  apply List.ext_getElem
  · simp [nsL, nsH]
  · intro i h1 h2
    simp only [nsL, nsH, List.getElem_map, List.getElem_range]
    simp [unNs, nsAt, h2]
theorem nsL_u {ns : Fs} {A : Option Addr} {c : Nat} {p : Nat → Option Addr} {q : Nat → Nat} {y : Nat → Value} : nsL ns.length (.recs A c 3 ns.length fun i => [.v (.string (nsAt ns i).1), .v (.slice (p i) (nsAt ns i).2 (q i)), .v (y i)]) = ns := nsL_c
def glCa : List (FuncId × Spc) := [(70, spLast)]
theorem glCa_ok : GOk Tryz.prog (lookG glCa) := lG_cons (by kernel_rfl) spLast_ok lG_nil
section
variable (ns : Fs) (A : Option Addr) (c : Nat) (p : Nat → Option Addr) (q : Nat → Nat) (y : Nat → Value) (l : List Nd) (B : Option Addr) (d : Nat)
def clH : Hp := (1001, .recs B d 7 l.length fun i => ndC (ndAt l i)) :: laH ns A c p q y
def clI (i : Nat) : SS := ⟨[(0, .g 1000 A ns.length c), (1, .g 1001 B l.length d), (5, .v (.int .i64 i))], clH ns A c p q y l B d, 3000⟩
end
/-- the fields of a function, read -/
theorem nsC_n {ns : Fs} {p : Nat → Option Addr} {q : Nat → Nat} {y : Nat → Value} {i : Nat} : nth [SV.v (.string (nsAt ns i).1), .v (.slice (p i) (nsAt ns i).2 (q i)), .v (y i)] 1 = .v (.slice (p i) (nsAt ns i).2 (q i)) := rfl
set_option maxRecDepth 100000 in
set_option maxHeartbeats 4000000 in
theorem calls25_any (ns : Fs) (hn : ns.length ≤ 100000) (hp : ∀ i, i < ns.length → (nsAt ns i).2 ≤ 100000) (l : List Nd) (hlen : l.length ≤ 100000) (A : Option Addr) (c : Nat) (p : Nat → Option Addr) (q : Nat → Nat) (y : Nat → Value) (B : Option Addr) (d : Nat) (w : World) (h : allRd w.heap.size w (clH ns A c p q y l B d)) :
    Calls Tryz.prog 47 #[.slice A ns.length c, .slice B l.length d] w fun e w' => e = .returned (.int .i64 (calV ns l)) ∧ Below w.heap.size w w' := by
  obtain ⟨r, hr⟩ : ∃ r, r = calV ns l := ⟨_, rfl⟩
  rw [← hr]
  refine calls_go (args := [.g 1000 A ns.length c, .g 1001 B l.length d]) (hp := clH ns A c p q y l B d) (nx := 1002) (n := 1000) (U := [(1000000, 40)]) (V := []) (tl := tlLa) (gl := glCa) (post := fun s ys => ys = [.v (.int .i64 r)])
    followP tlLa_ok glCa_ok Tryz.func47 rfl (by kernel_rfl) (Nat.le_of_ble_eq_true (by kernel_rfl)) (by kernel_rfl) (by kernel_rfl) (hh_list h) (free_list (by simp [allLt, clH, laH])) ?_ ?_
  · rintro s ys w' rfl H
    exact ⟨rfl, H.below⟩
  intro L F T G nd va hE
  obtain ⟨hL, hF, hs, hv, hT, hG, hR, hI, hJ, hW⟩ := hE
  rw [Tryz.results47] at hF
  simp (maxSteps := 1000000) only [En.nN, En.E, En.evsC, List.map_cons, List.map_nil, Nat.reduceBEq, Nat.reduceAdd, Nat.reduceMul, Nat.reduceEqDiff, Nat.reduceLeDiff, Nat.reduceLT, ne_eq, reduceCtorEq, Int.reduceBEq, Int.reduceBNe, Int.reduceAdd, Int.reduceSub, Int.reduceMul, Int.reduceTDiv, Int.reduceTMod, Int.reduceNeg, En.bitN, Nat.testBit, Nat.reduceShiftRight, Nat.reduceShiftLeft, Nat.reduceAnd, Nat.reduceOr, Nat.reduceBNe, Int.reduceToNat, Nat.reduceSub, Int.reduceLE, Int.reduceLT] at hv
  simp only [En.at_nil, En.at_cons, En.ag_nil, En.ag_cons, and_true, tlLa, glCa, tyInt, tyI64, tyBool, tyStr, tyStrs, tyErr, tyNode, tyNodes, tyDef, tyDefs, tyI64s] at hT hG
  simp (maxSteps := 10000000) only [En.E, En.evsC, List.map_cons, List.map_nil, Nat.reduceBEq, Nat.reduceAdd, Nat.reduceMul, Nat.reduceEqDiff, Nat.reduceLeDiff, Nat.reduceLT, ne_eq, reduceCtorEq, Int.reduceBEq, Int.reduceBNe, Int.reduceAdd, Int.reduceSub, Int.reduceMul, Int.reduceTDiv, Int.reduceTMod, Int.reduceNeg, En.bitN, Nat.testBit, Nat.reduceShiftRight, Nat.reduceShiftLeft, Nat.reduceAnd, Nat.reduceOr, Nat.reduceBNe, Int.reduceToNat, Nat.reduceSub, Int.reduceLE, Int.reduceLT, En.vV, hs, hv, hT, hG, hF, clH, laH, nsH]
  refine hI {i : Nat // i ≤ l.length ∧ r = clF ns l (l.length - i) i} (fun x => clI ns A c p q y l B d x.1) (fun x => l.length - x.1) _ _ _
    ⟨0, Nat.zero_le _, hr⟩ (sle_all [1001, 1000] (by decide) (by simp only [En.E, En.evsC, List.map_cons, List.map_nil, Nat.reduceBEq, Nat.reduceAdd, Nat.reduceMul, Nat.reduceEqDiff, Nat.reduceLeDiff, Nat.reduceLT, ne_eq, reduceCtorEq, Int.reduceBEq, Int.reduceBNe, Int.reduceAdd, Int.reduceSub, Int.reduceMul, Int.reduceTDiv, Int.reduceTMod, Int.reduceNeg, En.bitN, Nat.testBit, Nat.reduceShiftRight, Nat.reduceShiftLeft, Nat.reduceAnd, Nat.reduceOr, Nat.reduceBNe, Int.reduceToNat, Nat.reduceSub, Int.reduceLE, Int.reduceLT, En.slLe, En.hpLe, En.chE, En.allLt, clI, clH, laH, nsH, Int.cast_ofNat_Int])) ?_
  rintro ⟨i, hi, hri⟩
  refine hR 1000 _ _ ?_
  by_cases hlt : i < l.length
  · have d1 : decide ((i : Int) < (l.length : Int)) = true := decide_eq_true (by omega)
    have i1 : inr .i64 ((i : Int) + 1) := by simp only [En.inr, En.lo, En.hi]; omega
    have g1 : (0 : Int) ≤ i ∧ (i : Int) < l.length := by omega
    have g2 : (0 : Int) ≤ i ∧ i < l.length := by omega
    have hB : ¬B = none := slok_some h.1.1.1 (by omega)
    have hnx : l.length - i = (l.length - (i + 1)) + 1 := by omega
    rw [hnx, clF, if_neg (by omega)] at hri
    by_cases h6 : (ndAt l i).k = 6
    · have d2 : ((ndAt l i).k != 6) = false := by simp [h6]
      rw [if_neg (by simp [h6])] at hri
      have hb := lsN_lt ns (ndAt l i).nm ns.length
      obtain ⟨z, hz⟩ : ∃ z, z = lastI ns (ndAt l i).nm := ⟨_, rfl⟩
      rw [show lsN ns (ndAt l i).nm ns.length = z from hz.symm] at hb
      rw [← hz] at hri
      by_cases hz0 : z < 0
      · have d3 : decide (z < 0) = true := decide_eq_true hz0
        rw [if_pos hz0] at hri
        simp (maxSteps := 10000000) only [En.E, En.evsC, List.map_cons, List.map_nil, Nat.reduceBEq, Nat.reduceAdd, Nat.reduceMul, Nat.reduceEqDiff, Nat.reduceLeDiff, Nat.reduceLT, ne_eq, reduceCtorEq, Int.reduceBEq, Int.reduceBNe, Int.reduceAdd, Int.reduceSub, Int.reduceMul, Int.reduceTDiv, Int.reduceTMod, Int.reduceNeg, En.bitN, Nat.testBit, Nat.reduceShiftRight, Nat.reduceShiftLeft, Nat.reduceAnd, Nat.reduceOr, Nat.reduceBNe, Int.reduceToNat, Nat.reduceSub, Int.reduceLE, Int.reduceLT, En.vV, hs, hv, hT, hG, hF, clI, clH, laH, nsH, d1, d2, d3, i1, g1, g2, hB, ndC_n, spLast_q, NsR_u, nsL_u, hn, ← hz, Int.toNat_natCast, hri]
      · have d3 : decide (z < 0) = false := decide_eq_false hz0
        rw [if_neg hz0] at hri
        obtain ⟨z, rfl⟩ : ∃ b : Nat, z = (b : Int) := ⟨z.toNat, by omega⟩
        rw [Int.toNat_natCast] at hri
        have g3 : (0 : Int) ≤ z ∧ (z : Int) < ns.length := by omega
        have g4 : (0 : Int) ≤ z ∧ z < ns.length := by omega
        have hA : ¬A = none := slok_some h.2.1.1.1 (by omega)
        have := hp z (by omega)
        have i2 : inr .i64 ((nsAt ns z).2 : Int) := by simp only [En.inr, En.lo, En.hi]; omega
        by_cases hc : ((nsAt ns z).2 : Int) = (ndAt l i).c
        · have d4 : (((nsAt ns z).2 : Int) != (ndAt l i).c) = false := by simp [hc]
          rw [if_neg (by simp [hc])] at hri
          simp (maxSteps := 10000000) only [En.E, En.evsC, List.map_cons, List.map_nil, Nat.reduceBEq, Nat.reduceAdd, Nat.reduceMul, Nat.reduceEqDiff, Nat.reduceLeDiff, Nat.reduceLT, ne_eq, reduceCtorEq, Int.reduceBEq, Int.reduceBNe, Int.reduceAdd, Int.reduceSub, Int.reduceMul, Int.reduceTDiv, Int.reduceTMod, Int.reduceNeg, En.bitN, Nat.testBit, Nat.reduceShiftRight, Nat.reduceShiftLeft, Nat.reduceAnd, Nat.reduceOr, Nat.reduceBNe, Int.reduceToNat, Nat.reduceSub, Int.reduceLE, Int.reduceLT, En.vV, hs, hv, hT, hG, hF, clI, clH, laH, nsH, d1, d2, d3, d4, i1, i2, g1, g2, g3, g4, hA, hB, ndC_n, spLast_q, NsR_u, nsL_u, hn, ← hz, Int.toNat_natCast]
          exact ⟨⟨i + 1, hlt, hri⟩, (sle_all [1001, 1000] (by decide) (by simp only [En.E, En.evsC, List.map_cons, List.map_nil, Nat.reduceBEq, Nat.reduceAdd, Nat.reduceMul, Nat.reduceEqDiff, Nat.reduceLeDiff, Nat.reduceLT, ne_eq, reduceCtorEq, Int.reduceBEq, Int.reduceBNe, Int.reduceAdd, Int.reduceSub, Int.reduceMul, Int.reduceTDiv, Int.reduceTMod, Int.reduceNeg, En.bitN, Nat.testBit, Nat.reduceShiftRight, Nat.reduceShiftLeft, Nat.reduceAnd, Nat.reduceOr, Nat.reduceBNe, Int.reduceToNat, Nat.reduceSub, Int.reduceLE, Int.reduceLT, En.slLe, En.hpLe, En.chE, En.allLt, clI, clH, laH, nsH, Int.natCast_add, Int.cast_ofNat_Int])), by simp only; omega⟩
        · have d4 : (((nsAt ns z).2 : Int) != (ndAt l i).c) = true := by simp [hc]
          rw [if_pos hc] at hri
          simp (maxSteps := 10000000) only [En.E, En.evsC, List.map_cons, List.map_nil, Nat.reduceBEq, Nat.reduceAdd, Nat.reduceMul, Nat.reduceEqDiff, Nat.reduceLeDiff, Nat.reduceLT, ne_eq, reduceCtorEq, Int.reduceBEq, Int.reduceBNe, Int.reduceAdd, Int.reduceSub, Int.reduceMul, Int.reduceTDiv, Int.reduceTMod, Int.reduceNeg, En.bitN, Nat.testBit, Nat.reduceShiftRight, Nat.reduceShiftLeft, Nat.reduceAnd, Nat.reduceOr, Nat.reduceBNe, Int.reduceToNat, Nat.reduceSub, Int.reduceLE, Int.reduceLT, En.vV, hs, hv, hT, hG, hF, clI, clH, laH, nsH, d1, d2, d3, d4, i1, i2, g1, g2, g3, g4, hA, hB, ndC_n, spLast_q, NsR_u, nsL_u, hn, ← hz, Int.toNat_natCast, hri]
    · have d2 : ((ndAt l i).k != 6) = true := by simp [h6]
      rw [if_pos h6] at hri
      simp (maxSteps := 10000000) only [En.E, En.evsC, List.map_cons, List.map_nil, Nat.reduceBEq, Nat.reduceAdd, Nat.reduceMul, Nat.reduceEqDiff, Nat.reduceLeDiff, Nat.reduceLT, ne_eq, reduceCtorEq, Int.reduceBEq, Int.reduceBNe, Int.reduceAdd, Int.reduceSub, Int.reduceMul, Int.reduceTDiv, Int.reduceTMod, Int.reduceNeg, En.bitN, Nat.testBit, Nat.reduceShiftRight, Nat.reduceShiftLeft, Nat.reduceAnd, Nat.reduceOr, Nat.reduceBNe, Int.reduceToNat, Nat.reduceSub, Int.reduceLE, Int.reduceLT, En.vV, hs, hv, hT, hG, hF, clI, clH, laH, nsH, d1, d2, i1, g1, g2, hB, ndC_n, Int.toNat_natCast]
      exact ⟨⟨i + 1, hlt, hri⟩, (sle_all [1001, 1000] (by decide) (by simp only [En.E, En.evsC, List.map_cons, List.map_nil, Nat.reduceBEq, Nat.reduceAdd, Nat.reduceMul, Nat.reduceEqDiff, Nat.reduceLeDiff, Nat.reduceLT, ne_eq, reduceCtorEq, Int.reduceBEq, Int.reduceBNe, Int.reduceAdd, Int.reduceSub, Int.reduceMul, Int.reduceTDiv, Int.reduceTMod, Int.reduceNeg, En.bitN, Nat.testBit, Nat.reduceShiftRight, Nat.reduceShiftLeft, Nat.reduceAnd, Nat.reduceOr, Nat.reduceBNe, Int.reduceToNat, Nat.reduceSub, Int.reduceLE, Int.reduceLT, En.slLe, En.hpLe, En.chE, En.allLt, clI, clH, laH, nsH, Int.natCast_add, Int.cast_ofNat_Int])), by simp only; omega⟩
  · have d1 : decide ((i : Int) < (l.length : Int)) = false := decide_eq_false (by omega)
    rw [show l.length - i = 0 by omega, clF] at hri
    simp (maxSteps := 10000000) only [En.E, En.evsC, List.map_cons, List.map_nil, Nat.reduceBEq, Nat.reduceAdd, Nat.reduceMul, Nat.reduceEqDiff, Nat.reduceLeDiff, Nat.reduceLT, ne_eq, reduceCtorEq, Int.reduceBEq, Int.reduceBNe, Int.reduceAdd, Int.reduceSub, Int.reduceMul, Int.reduceTDiv, Int.reduceTMod, Int.reduceNeg, En.bitN, Nat.testBit, Nat.reduceShiftRight, Nat.reduceShiftLeft, Nat.reduceAnd, Nat.reduceOr, Nat.reduceBNe, Int.reduceToNat, Nat.reduceSub, Int.reduceLE, Int.reduceLT, En.vV, hs, hv, hT, hG, hF, clI, clH, laH, nsH, d1, hri]
def nsOk (ns : Fs) : Prop := ∀ i, i < ns.length → (nsAt ns i).2 ≤ 100000
def spCalls25 : Spc
  | [.g k A n c, .g j B m d], H, _ => .is (NsR A n c (H k) ∧ n ≤ 100000 ∧ nsOk (nsL n (H k)) ∧ NdR B m d (H j) ∧ m ≤ 100000) (.v (.int .i64 (calV (nsL n (H k)) (chL m (H j)))))
  | _, _, _ => .bad
theorem spCalls25_q {k n c j m d : Nat} {A B : Option Addr} {H : Nat → Ch} {nx : Nat} : spCalls25 [.g k A n c, .g j B m d] H nx = .is (NsR A n c (H k) ∧ n ≤ 100000 ∧ nsOk (nsL n (H k)) ∧ NdR B m d (H j) ∧ m ≤ 100000) (.v (.int .i64 (calV (nsL n (H k)) (chL m (H j))))) := rfl
theorem spCalls25_ok : SpecOk Tryz.prog 47 spCalls25 := by
  intro args hp nx w0 O w H hv
  unfold spCalls25 at hv ⊢
  split at hv
  · next k A n c j B m d =>
    obtain ⟨h1, hn, hk, g1, gm⟩ := hv
    obtain ⟨hl, p, q, y, hh⟩ := NsR_hold h1 (H.hold k)
    obtain ⟨gl, gg⟩ := NdR_hold g1 (H.hold j)
    generalize nsL n (lookH hp k) = ns at hl hh hk ⊢
    generalize chL m (lookH hp j) = l at gl gg ⊢
    subst hl
    subst gl
    refine (calls25_any ns hn hk l gm A c p q y B d w ⟨⟨gg _, rfl⟩, ⟨hh _, rfl⟩, trivial⟩).mono ?_
    rintro e w' ⟨rfl, hb⟩
    exact ⟨⟨0, none, 0, none, 0, mz⟩, rfl, .still hb⟩
  · exact hv.elim
/-! ### the steps of an expression -/
def bsOk (bs : List Int) : Prop := ∀ i, 0 ≤ bs.getD i 0 ∧ bs.getD i 0 ≤ 1000000000
section
variable (ns : Fs) (A : Option Addr) (c : Nat) (p : Nat → Option Addr) (q : Nat → Nat) (y : Nat → Value) (l : List Nd) (B : Option Addr) (d : Nat) (bs : List Int) (E : Option Addr) (e : Nat)
def exrH : Hp := (1002, .ints E e .i64 bs) :: clH ns A c p q y l B d
def exrI (i : Nat) (s : Int) : SS := ⟨[(0, .g 1000 A ns.length c), (1, .g 1002 E bs.length e), (2, .g 1001 B l.length d), (7, .v (.int .i64 s)), (8, .v (.int .i64 i))], exrH ns A c p q y l B d bs E e, 3000⟩
end
theorem clF_at (ns : Fs) (l : List Nd) : ∀ (f i : Nat), l.length ≤ i + f → clF ns l f i = 0 → ∀ j, i ≤ j → j < l.length → (ndAt l j).k = 6 → 0 ≤ lastI ns (ndAt l j).nm
  | 0, i, hf, _, j, h1, h2, _ => by omega
  | f + 1, i, hf, h, j, h1, h2, h6 => by
    rw [clF, if_neg (by omega)] at h
    by_cases e : (ndAt l i).k = 6
    · rw [if_neg (by simp [e])] at h
      by_cases hl : lastI ns (ndAt l i).nm < 0
      · rw [if_pos hl] at h; cases h
      · rw [if_neg hl] at h
        by_cases hc : ((nsAt ns (lastI ns (ndAt l i).nm).toNat).2 : Int) = (ndAt l i).c
        · rw [if_neg (by simp [hc])] at h
          by_cases hj : j = i
          · subst hj; omega
          · exact clF_at ns l f (i + 1) (by omega) h j (by omega) h2 h6
        · rw [if_pos hc] at h; cases h
    · rw [if_pos e] at h
      by_cases hj : j = i
      · subst hj; exact absurd h6 e
      · exact clF_at ns l f (i + 1) (by omega) h j (by omega) h2 h6
set_option maxRecDepth 100000 in
set_option maxHeartbeats 4000000 in
theorem expr25r_any (ns : Fs) (hn : ns.length ≤ 100000) (bs : List Int) (hbs : bs.length = ns.length) (hbo : bsOk bs) (l : List Nd) (hg : Good l) (hc : calV ns l = 0) (A : Option Addr) (c : Nat) (p : Nat → Option Addr) (q : Nat → Nat) (y : Nat → Value) (B : Option Addr) (d : Nat) (E : Option Addr) (e : Nat) (w : World) (h : allRd w.heap.size w (exrH ns A c p q y l B d bs E e)) :
    Calls Tryz.prog 48 #[.slice A ns.length c, .slice E bs.length e, .slice B l.length d] w fun x w' => x = .returned (.int .i64 (exV ns bs l)) ∧ Below w.heap.size w w' := by
  have hlen := hg.len
  obtain ⟨r, hr⟩ : ∃ r, r = exV ns bs l := ⟨_, rfl⟩
  rw [← hr]
  refine calls_go (args := [.g 1000 A ns.length c, .g 1002 E bs.length e, .g 1001 B l.length d]) (hp := exrH ns A c p q y l B d bs E e) (nx := 1003) (n := 1000) (U := [(1000000, 50)]) (V := []) (tl := tlLa) (gl := glCa) (post := fun s ys => ys = [.v (.int .i64 r)])
    followP tlLa_ok glCa_ok Tryz.func48 rfl (by kernel_rfl) (Nat.le_of_ble_eq_true (by kernel_rfl)) (by kernel_rfl) (by kernel_rfl) (hh_list h) (free_list (by simp [allLt, exrH, clH, laH])) ?_ ?_
  · rintro s ys w' rfl H
    exact ⟨rfl, H.below⟩
  intro L F T G nd va hE
  obtain ⟨hL, hF, hs, hv, hT, hG, hR, hI, hJ, hW⟩ := hE
  rw [Tryz.results48] at hF
  simp (maxSteps := 1000000) only [En.nN, En.E, En.evsC, List.map_cons, List.map_nil, Nat.reduceBEq, Nat.reduceAdd, Nat.reduceMul, Nat.reduceEqDiff, Nat.reduceLeDiff, Nat.reduceLT, ne_eq, reduceCtorEq, Int.reduceBEq, Int.reduceBNe, Int.reduceAdd, Int.reduceSub, Int.reduceMul, Int.reduceTDiv, Int.reduceTMod, Int.reduceNeg, En.bitN, Nat.testBit, Nat.reduceShiftRight, Nat.reduceShiftLeft, Nat.reduceAnd, Nat.reduceOr, Nat.reduceBNe, Int.reduceToNat, Nat.reduceSub, Int.reduceLE, Int.reduceLT] at hv
  simp only [En.at_nil, En.at_cons, En.ag_nil, En.ag_cons, and_true, tlLa, glCa, tyInt, tyI64, tyBool, tyStr, tyStrs, tyErr, tyNode, tyNodes, tyDef, tyDefs, tyI64s] at hT hG
  simp (maxSteps := 10000000) only [En.E, En.evsC, List.map_cons, List.map_nil, Nat.reduceBEq, Nat.reduceAdd, Nat.reduceMul, Nat.reduceEqDiff, Nat.reduceLeDiff, Nat.reduceLT, ne_eq, reduceCtorEq, Int.reduceBEq, Int.reduceBNe, Int.reduceAdd, Int.reduceSub, Int.reduceMul, Int.reduceTDiv, Int.reduceTMod, Int.reduceNeg, En.bitN, Nat.testBit, Nat.reduceShiftRight, Nat.reduceShiftLeft, Nat.reduceAnd, Nat.reduceOr, Nat.reduceBNe, Int.reduceToNat, Nat.reduceSub, Int.reduceLE, Int.reduceLT, En.vV, hs, hv, hT, hG, hF, exrH, clH, laH, nsH]
  refine hI {x : Nat × Int // 0 ≤ x.2 ∧ x.2 ≤ x.1 * 1000000001 ∧ x.1 ≤ l.length ∧ r = minV (exF ns bs l (l.length - x.1) x.1 x.2)} (fun x => exrI ns A c p q y l B d bs E e x.1.1 x.1.2) (fun x => l.length - x.1.1) _ _ _
    ⟨(0, 0), Int.le_refl 0, by simp, Nat.zero_le _, by simpa [exV] using hr⟩ (sle_all [1002, 1001, 1000] (by decide) (by simp only [En.E, En.evsC, List.map_cons, List.map_nil, Nat.reduceBEq, Nat.reduceAdd, Nat.reduceMul, Nat.reduceEqDiff, Nat.reduceLeDiff, Nat.reduceLT, ne_eq, reduceCtorEq, Int.reduceBEq, Int.reduceBNe, Int.reduceAdd, Int.reduceSub, Int.reduceMul, Int.reduceTDiv, Int.reduceTMod, Int.reduceNeg, En.bitN, Nat.testBit, Nat.reduceShiftRight, Nat.reduceShiftLeft, Nat.reduceAnd, Nat.reduceOr, Nat.reduceBNe, Int.reduceToNat, Nat.reduceSub, Int.reduceLE, Int.reduceLT, En.slLe, En.hpLe, En.chE, En.allLt, exrI, exrH, clH, laH, nsH, Int.cast_ofNat_Int])) ?_
  rintro ⟨⟨i, s⟩, hs0, hs1, hi, hri⟩
  simp only at hs0 hs1 hi hri
  refine hR 1000 _ _ ?_
  by_cases hlt : i < l.length
  · have d1 : decide ((i : Int) < (l.length : Int)) = true := decide_eq_true (by omega)
    have i1 : inr .i64 ((i : Int) + 1) := by simp only [En.inr, En.lo, En.hi]; omega
    have i2 : inr .i64 (s + 1) := by simp only [En.inr, En.lo, En.hi]; omega
    have g1 : (0 : Int) ≤ i ∧ (i : Int) < l.length := by omega
    have g2 : (0 : Int) ≤ i ∧ i < l.length := by omega
    have hB : ¬B = none := slok_some h.2.1.1.1 (by omega)
    have hnx : l.length - i = (l.length - (i + 1)) + 1 := by omega
    have hfu : ∀ (k : Nat) (t : Int), exF ns bs l (l.length - (i + 1)) (i + 1 + k) t = exF ns bs l (l.length - (i + 1 + k)) (i + 1 + k) t := by
      have key : ∀ (f g a : Nat) (t : Int), l.length ≤ a + f → l.length ≤ a + g → exF ns bs l f a t = exF ns bs l g a t := by
        intro f
        induction f with
        | zero =>
          intro g a t hf hg'
          cases g with
          | zero => rfl
          | succ g => rw [exF, exF, if_pos (by omega)]
        | succ f ih =>
          intro g a t hf hg'
          cases g with
          | zero => rw [exF, exF, if_pos (by omega)]
          | succ g => rw [exF, exF]; rw [ih g _ _ (by omega) (by omega)]
      exact fun k t => key _ _ _ _ (by omega) (by omega)
    rw [hnx, exF, if_neg (by omega), hfu] at hri
    by_cases h6 : (ndAt l i).k = 6
    · have d2 : ((ndAt l i).k == 6) = true := by rw [h6]; rfl
      have d3 : ((ndAt l i).k == 3) = false := by rw [h6]; rfl
      have hK : Ks l i = 0 := if_neg (by rw [h6]; decide)
      rw [if_pos h6, hK, Nat.add_zero] at hri
      have hb := lsN_lt ns (ndAt l i).nm ns.length
      have hz0 := clF_at ns l l.length 0 (by omega) hc i (Nat.zero_le _) hlt h6
      obtain ⟨z, hz⟩ : ∃ z, z = lastI ns (ndAt l i).nm := ⟨_, rfl⟩
      rw [show lsN ns (ndAt l i).nm ns.length = z from hz.symm] at hb
      rw [← hz] at hri hz0
      obtain ⟨z, rfl⟩ : ∃ b : Nat, z = (b : Int) := ⟨z.toNat, by omega⟩
      rw [Int.toNat_natCast] at hri
      have g3 : (0 : Int) ≤ z ∧ (z : Int) < bs.length := by omega
      have g4 : (0 : Int) ≤ z ∧ z < bs.length := by omega
      have hE : ¬E = none := slok_some h.1.1 (by omega)
      have hbz := hbo z
      have i3 : inr .i64 (s + 1 + bs.getD z 0) := by simp only [En.inr, En.lo, En.hi]; omega
      simp (maxSteps := 10000000) only [En.E, En.evsC, List.map_cons, List.map_nil, Nat.reduceBEq, Nat.reduceAdd, Nat.reduceMul, Nat.reduceEqDiff, Nat.reduceLeDiff, Nat.reduceLT, ne_eq, reduceCtorEq, Int.reduceBEq, Int.reduceBNe, Int.reduceAdd, Int.reduceSub, Int.reduceMul, Int.reduceTDiv, Int.reduceTMod, Int.reduceNeg, En.bitN, Nat.testBit, Nat.reduceShiftRight, Nat.reduceShiftLeft, Nat.reduceAnd, Nat.reduceOr, Nat.reduceBNe, Int.reduceToNat, Nat.reduceSub, Int.reduceLE, Int.reduceLT, En.vV, hs, hv, hT, hG, hF, exrI, exrH, clH, laH, nsH, d1, d2, d3, i1, i2, i3, g1, g2, g3, g4, hE, hB, ndC_n, spLast_q, NsR_u, nsL_u, hn, ← hz, Int.toNat_natCast]
      exact ⟨⟨(i + 1, s + 1 + bs.getD z 0), by simp only; omega, by simp only; omega, hlt, hri⟩, (sle_all [1002, 1001, 1000] (by decide) (by simp only [En.E, En.evsC, List.map_cons, List.map_nil, Nat.reduceBEq, Nat.reduceAdd, Nat.reduceMul, Nat.reduceEqDiff, Nat.reduceLeDiff, Nat.reduceLT, ne_eq, reduceCtorEq, Int.reduceBEq, Int.reduceBNe, Int.reduceAdd, Int.reduceSub, Int.reduceMul, Int.reduceTDiv, Int.reduceTMod, Int.reduceNeg, En.bitN, Nat.testBit, Nat.reduceShiftRight, Nat.reduceShiftLeft, Nat.reduceAnd, Nat.reduceOr, Nat.reduceBNe, Int.reduceToNat, Nat.reduceSub, Int.reduceLE, Int.reduceLT, En.slLe, En.hpLe, En.chE, En.allLt, exrI, exrH, clH, laH, nsH, Int.natCast_add, Int.cast_ofNat_Int])), by simp only; omega⟩
    · have d2 : ((ndAt l i).k == 6) = false := by simpa using h6
      rw [if_neg h6] at hri
      by_cases h3 : (ndAt l i).k = 3
      · have d3 : ((ndAt l i).k == 3) = true := by rw [h3]; rfl
        obtain ⟨c0, c1⟩ := hg.ls i hlt h3
        have hK : (ndAt l i).c = (Ks l i : Int) := by simp only [Ks, Kn, if_pos h3]; omega
        have i3 : inr .i64 ((i : Int) + (Ks l i : Int)) := by simp only [En.inr, En.lo, En.hi]; omega
        have i4 : inr .i64 ((i : Int) + (Ks l i : Int) + 1) := by simp only [En.inr, En.lo, En.hi]; omega
        simp (maxSteps := 10000000) only [En.E, En.evsC, List.map_cons, List.map_nil, Nat.reduceBEq, Nat.reduceAdd, Nat.reduceMul, Nat.reduceEqDiff, Nat.reduceLeDiff, Nat.reduceLT, ne_eq, reduceCtorEq, Int.reduceBEq, Int.reduceBNe, Int.reduceAdd, Int.reduceSub, Int.reduceMul, Int.reduceTDiv, Int.reduceTMod, Int.reduceNeg, En.bitN, Nat.testBit, Nat.reduceShiftRight, Nat.reduceShiftLeft, Nat.reduceAnd, Nat.reduceOr, Nat.reduceBNe, Int.reduceToNat, Nat.reduceSub, Int.reduceLE, Int.reduceLT, En.vV, hs, hv, hT, hG, hF, exrI, exrH, clH, laH, nsH, d1, d2, d3, i1, i2, i3, i4, g1, g2, hB, ndC_n, hK, Int.toNat_natCast]
        have e9 : (i : Int) + (Ks l i : Int) + 1 = ((i + 1 + Ks l i : Nat) : Int) := by omega
        exact ⟨⟨(i + 1 + Ks l i, s + 1), by simp only; omega, by simp only; omega, c1, hri⟩, (sle_all [1002, 1001, 1000] (by decide) (by simp only [En.E, En.evsC, List.map_cons, List.map_nil, Nat.reduceBEq, Nat.reduceAdd, Nat.reduceMul, Nat.reduceEqDiff, Nat.reduceLeDiff, Nat.reduceLT, ne_eq, reduceCtorEq, Int.reduceBEq, Int.reduceBNe, Int.reduceAdd, Int.reduceSub, Int.reduceMul, Int.reduceTDiv, Int.reduceTMod, Int.reduceNeg, En.bitN, Nat.testBit, Nat.reduceShiftRight, Nat.reduceShiftLeft, Nat.reduceAnd, Nat.reduceOr, Nat.reduceBNe, Int.reduceToNat, Nat.reduceSub, Int.reduceLE, Int.reduceLT, En.slLe, En.hpLe, En.chE, En.allLt, exrI, exrH, clH, laH, nsH, e9, Int.cast_ofNat_Int])), by simp only; omega⟩
      · have d3 : ((ndAt l i).k == 3) = false := by simpa using h3
        have hK : Ks l i = 0 := if_neg h3
        rw [hK, Nat.add_zero] at hri
        simp (maxSteps := 10000000) only [En.E, En.evsC, List.map_cons, List.map_nil, Nat.reduceBEq, Nat.reduceAdd, Nat.reduceMul, Nat.reduceEqDiff, Nat.reduceLeDiff, Nat.reduceLT, ne_eq, reduceCtorEq, Int.reduceBEq, Int.reduceBNe, Int.reduceAdd, Int.reduceSub, Int.reduceMul, Int.reduceTDiv, Int.reduceTMod, Int.reduceNeg, En.bitN, Nat.testBit, Nat.reduceShiftRight, Nat.reduceShiftLeft, Nat.reduceAnd, Nat.reduceOr, Nat.reduceBNe, Int.reduceToNat, Nat.reduceSub, Int.reduceLE, Int.reduceLT, En.vV, hs, hv, hT, hG, hF, exrI, exrH, clH, laH, nsH, d1, d2, d3, i1, i2, g1, g2, hB, ndC_n, Int.toNat_natCast]
        exact ⟨⟨(i + 1, s + 1), by simp only; omega, by simp only; omega, hlt, hri⟩, (sle_all [1002, 1001, 1000] (by decide) (by simp only [En.E, En.evsC, List.map_cons, List.map_nil, Nat.reduceBEq, Nat.reduceAdd, Nat.reduceMul, Nat.reduceEqDiff, Nat.reduceLeDiff, Nat.reduceLT, ne_eq, reduceCtorEq, Int.reduceBEq, Int.reduceBNe, Int.reduceAdd, Int.reduceSub, Int.reduceMul, Int.reduceTDiv, Int.reduceTMod, Int.reduceNeg, En.bitN, Nat.testBit, Nat.reduceShiftRight, Nat.reduceShiftLeft, Nat.reduceAnd, Nat.reduceOr, Nat.reduceBNe, Int.reduceToNat, Nat.reduceSub, Int.reduceLE, Int.reduceLT, En.slLe, En.hpLe, En.chE, En.allLt, exrI, exrH, clH, laH, nsH, Int.natCast_add, Int.cast_ofNat_Int])), by simp only; omega⟩
  · have d1 : decide ((i : Int) < (l.length : Int)) = false := decide_eq_false (by omega)
    rw [show l.length - i = 0 by omega, exF] at hri
    simp (maxSteps := 10000000) only [En.E, En.evsC, List.map_cons, List.map_nil, Nat.reduceBEq, Nat.reduceAdd, Nat.reduceMul, Nat.reduceEqDiff, Nat.reduceLeDiff, Nat.reduceLT, ne_eq, reduceCtorEq, Int.reduceBEq, Int.reduceBNe, Int.reduceAdd, Int.reduceSub, Int.reduceMul, Int.reduceTDiv, Int.reduceTMod, Int.reduceNeg, En.bitN, Nat.testBit, Nat.reduceShiftRight, Nat.reduceShiftLeft, Nat.reduceAnd, Nat.reduceOr, Nat.reduceBNe, Int.reduceToNat, Nat.reduceSub, Int.reduceLE, Int.reduceLT, En.vV, hs, hv, hT, hG, hF, exrI, exrH, clH, laH, nsH, d1, minV_q, hri]
def ex25R (q : Prop) (ns : Fs) (l : List Nd) : Option (List Int) → Res
  | some bs => .is (q ∧ bs.length = ns.length ∧ bsOk bs ∧ Good l ∧ calV ns l = 0) (.v (.int .i64 (exV ns bs l)))
  | none => .bad
theorem ex25R_q {q : Prop} {ns : Fs} {l : List Nd} {bs : List Int} : ex25R q ns l (some bs) = .is (q ∧ bs.length = ns.length ∧ bsOk bs ∧ Good l ∧ calV ns l = 0) (.v (.int .i64 (exV ns bs l))) := rfl
def spEx25 : Spc
  | [.g k A n c, x, .g j B m d], H, _ => ex25R (NsR A n c (H k) ∧ n ≤ 100000 ∧ NdR B m d (H j)) (nsL n (H k)) (chL m (H j)) (getN H x)
  | _, _, _ => .bad
theorem spEx25_q {k n c j m d : Nat} {A B : Option Addr} {x : SV} {H : Nat → Ch} {nx : Nat} : spEx25 [.g k A n c, x, .g j B m d] H nx = ex25R (NsR A n c (H k) ∧ n ≤ 100000 ∧ NdR B m d (H j)) (nsL n (H k)) (chL m (H j)) (getN H x) := rfl
theorem spEx25_ok : SpecOk Tryz.prog 48 spEx25 := by
  intro args hp nx w0 O w H hv
  unfold spEx25 at hv ⊢
  split at hv
  · next k A n c x j B m d =>
    cases hx : getN (lookH hp) x with
    | some bs =>
      rw [hx] at hv
      obtain ⟨⟨h1, hn, g1⟩, hl2, hbo, hg, hc⟩ := hv
      obtain ⟨hl, p, q, y, hh⟩ := NsR_hold h1 (H.hold k)
      obtain ⟨gl, gg⟩ := NdR_hold g1 (H.hold j)
      obtain ⟨E, e, eq, hsl, _⟩ := getN_ok H hx
      generalize nsL n (lookH hp k) = ns at hl hh hl2 hc ⊢
      generalize chL m (lookH hp j) = l at gl gg hg hc ⊢
      subst hl
      subst gl
      have : (dens [.g k A ns.length c, x, .g j B l.length d]).toArray = #[.slice A ns.length c, .slice E bs.length e, .slice B l.length d] := by rw [← eq]; rfl
      rw [this]
      refine (expr25r_any ns hn bs hl2 hbo l hg hc A c p q y B d E e w ⟨⟨hsl, rfl⟩, ⟨gg _, rfl⟩, ⟨hh _, rfl⟩, trivial⟩).mono ?_
      rintro e w' ⟨rfl, hb⟩
      exact ⟨⟨0, none, 0, none, 0, mz⟩, rfl, .still hb⟩
    | none => rw [hx] at hv; exact hv.elim
  · exact hv.elim
end Pr
end Go.Proofs.YtapgddiocdcaeaaGreatDoor
/-
Chapter 25: the reference's Expr.
-/
set_option linter.unusedSimpArgs false
set_option linter.unusedVariables false
namespace Go.Proofs.YtapgddiocdcaeaaGreatDoor
namespace Pr
open Go Go.RowKit En
open Ex
theorem NsR_p {kb i d : Nat} {ds : List Df} {B : Option Addr} : NsR B i d (.recs B d 3 i fun j => dfC kb (dfAt ds j)) = True := eq_true ⟨rfl, rfl, rfl, fun i _ => ⟨_, _, _, rfl⟩⟩
theorem nsL_p {kb i d : Nat} {ds : List Df} {B : Option Addr} (h : i ≤ ds.length) : nsL i (.recs B d 3 i fun j => dfC kb (dfAt ds j)) = nsOf (ds.take i) := by
  apply List.ext_getElem
  · simp [nsL, nsOf]; omega
  · intro j h1 h2
    have hj : j < i := by simpa [nsL] using h1
    simp only [nsL, nsOf, List.getElem_map, List.getElem_range, List.getElem_take]
    simp [dfC, unNs, dfAt, show j < ds.length by omega]
theorem nsOf_len (ds : List Df) : (nsOf ds).length = ds.length := by simp [nsOf]
theorem nsOf_ok {ds : List Df} (h : dfOk ds) (i : Nat) : nsOk (nsOf (ds.take i)) := by
  intro j hj
  have hj' : j < (ds.take i).length := by rwa [nsOf_len] at hj
  have h1 : j < ds.length := by simp at hj'; omega
  have h2 := (h j h1).2.2
  simp only [dfAt, List.getD_eq_getElem?_getD, List.getElem?_eq_getElem h1, Option.getD_some] at h2
  simp only [nsAt, nsOf, List.getD_eq_getElem?_getD, List.getElem?_map, List.getElem?_eq_getElem hj', List.getElem_take, Option.map_some, Option.getD_some]
  exact h2
theorem nsOf_snoc {ds : List Df} {i : Nat} (h : i < ds.length) : nsOf (ds.take (i + 1)) = nsOf (ds.take i) ++ [((dfAt ds i).nm, (dfAt ds i).np)] := by
  rw [List.take_succ_eq_append_getElem h, nsOf, nsOf, List.map_append]
  simp [dfAt, h]
theorem rbS_app : ∀ (l m : List Df) (ns : Fs) (bs : List Int), rbS ns bs (l ++ m) = rbS (ns ++ nsOf l) (rbS ns bs l) m
  | [], m, ns, bs => by simp [nsOf, rbS]
  | d :: l, m, ns, bs => by
    rw [List.cons_append, rbS, rbS, rbS_app l m]
    simp [nsOf]
def bT (ds : List Df) (i : Nat) : List Int := rbS [] [] (ds.take i)
theorem bT_succ {ds : List Df} {i : Nat} (h : i < ds.length) : bT ds (i + 1) = bT ds i ++ [exV (nsOf (ds.take i)) (bT ds i) (dfAt ds i).body] := by
  rw [bT, List.take_succ_eq_append_getElem h, rbS_app, rbS, rbS]
  simp [dfAt, h, bT]
theorem bT_len (ds : List Df) : ∀ i, i ≤ ds.length → (bT ds i).length = i
  | 0, _ => rfl
  | i + 1, h => by rw [bT_succ (by omega), List.length_append, bT_len ds i (by omega)]; rfl
theorem exF_in (ns : Fs) {bs : List Int} (hb : bsOk bs) (l : List Nd) : ∀ (f i : Nat) (s : Int), 0 ≤ s → 0 ≤ exF ns bs l f i s
  | 0, i, s, h => h
  | f + 1, i, s, h => by
    rw [exF]
    split
    · exact h
    · refine exF_in ns hb l f _ _ ?_
      split
      · have := hb (lastI ns (ndAt l i).nm).toNat; omega
      · omega
theorem exV_in (ns : Fs) {bs : List Int} (hb : bsOk bs) (l : List Nd) : 0 ≤ exV ns bs l ∧ exV ns bs l ≤ 1000000000 := by
  have := exF_in ns hb l l.length 0 0 (Int.le_refl 0)
  rw [exV, minV]
  split <;> omega
theorem bT_ok (ds : List Df) : ∀ i, i ≤ ds.length → bsOk (bT ds i)
  | 0, _ => fun j => by simp [bT, rbS]
  | i + 1, h => by
    have ih := bT_ok ds i (by omega)
    rw [bT_succ (by omega)]
    intro j
    have hx := exV_in (nsOf (ds.take i)) ih (dfAt ds i).body
    rw [List.getD_eq_getElem?_getD]
    rcases Nat.lt_trichotomy j (bT ds i).length with h1 | h1 | h1
    · rw [List.getElem?_append_left h1, ← List.getD_eq_getElem?_getD]; exact ih j
    · subst h1; simp; exact hx
    · rw [List.getElem?_eq_none (by simp; omega)]; simp
theorem rbE_ok : ∀ (ds : List Df) (ns : Fs), rbE ns ds = 0 → ∀ i, i < ds.length → (chkV (dfAt ds i).body).2 = 0 ∧ calV (ns ++ nsOf (ds.take i)) (dfAt ds i).body = 0
  | [], ns, _, i, hi => absurd hi (Nat.not_lt_zero i)
  | d :: ds, ns, h, i, hi => by
    rw [rbE] at h
    by_cases h1 : (chkV d.body).2 = 0
    · by_cases h2 : calV ns d.body = 0
      · simp only [ne_eq, h1, h2, not_true_eq_false, if_false] at h
        cases i with
        | zero => exact ⟨h1, by simpa [nsOf, dfAt] using h2⟩
        | succ i =>
          have := rbE_ok ds _ h i (by simpa using hi)
          simpa [dfAt, nsOf] using this
      · simp [h1, h2] at h
    · simp [h1] at h
/-- an empty row of one's own -/
theorem hh_row0 {O : Nat → Prop} {w0 w : World} {hp : Hp} {k z : Nat} {e : TypeId} (H : HH w0 O hp w) : HH w0 O ((k, .rowV none 0 e z 0 []) :: hp) w := by
  have lk : ∀ j, lookH ((k, Ch.rowV none 0 e z 0 []) :: hp) j = if k = j then .rowV none 0 e z 0 [] else lookH hp j := by
    intro j
    simp only [lookH]
    by_cases h : k = j
    · simp [h]
    · have e : (k == j) = false := by simpa using h
      rw [e, if_neg h]; rfl
  have nf : ∀ b, ¬ foot (.rowV none 0 e z 0 []) b := by rintro b ⟨a, h, _⟩; cases h
  refine ⟨H.below, fun j b hb => ?_, fun j => ?_, fun i j hij hm b hb => ?_⟩
  · rw [lk] at hb
    split at hb
    · exact absurd hb (nf b)
    · exact H.old j b hb
  · rw [lk]
    split
    · exact World.ownsRow_nil _ _ _ _
    · exact H.hold j
  · rw [lk] at hm hb ⊢
    split at hb
    · exact absurd hb (nf b)
    · next h1 =>
      rw [if_neg h1] at hm
      split
      · exact nf b
      · exact H.sep i j hij hm b hb
theorem getNC_r {A : Option Addr} {n c : Nat} {e : TypeId} {xs : List Int} (h : xs.length = n) : getNC A n c (.rowV A c e 1 n (xs.map fun x => .v (.int .i64 x))) = some xs := by
  simp [getNC, h, intsOf_mapv]
section
variable (ds : List Df) (A : Option Addr) (c : Nat) (l : List Nd) (B : Option Addr) (d : Nat)
def rxH : Hp := (1003, .recs B d 7 l.length fun i => ndC (ndAt l i)) :: (1000, dfH 1002 ds A c) :: (1001, dfD ds) :: []
def rxI (i : Nat) : SS := ⟨[(0, .g 1000 A ds.length c), (1, .g 1003 B l.length d), (6, .v (.int .i64 i))], rxH ds A c l B d, 30000⟩
def rxJ (i : Nat) (E : Option Addr) (e : Nat) : SS := ⟨[(0, .g 1000 A ds.length c), (1, .g 1003 B l.length d), (11, .g 1005 E i e), (12, .v (.int .i64 i))], (1005, .rowV E e 2 1 i ((bT ds i).map fun x => .v (.int .i64 x))) :: rxH ds A c l B d, 30000⟩
end
/-- a function's fields, read -/
theorem dfC_n : (∀ k d, nth (dfC k d) 0 = .v (.string d.nm)) ∧ (∀ k d, nth (dfC k d) 1 = .v (.slice d.pA d.np d.pc)) ∧ (∀ k d, nth (dfC k d) 2 = .g k d.bA d.body.length d.bc) ∧ (∀ k d, cut (dfC k d) 0 3 = dfC k d) :=
  ⟨fun _ _ => rfl, fun _ _ => rfl, fun _ _ => rfl, fun _ _ => rfl⟩
theorem den_gg {k k' n c : Nat} {A : Option Addr} : (den (SV.g k A n c) = den (SV.g k' A n c)) = True := eq_true rfl
theorem row0_s {k : Nat} : (den (SV.v (Value.slice none 0 0)) = den (SV.g k none 0 0)) = True := eq_true rfl
theorem row0_d {ds : List Df} : (dens [] = dens ((bT ds 0).map fun x => SV.v (.int .i64 x))) = True := eq_true rfl
def glRx : List (FuncId × Spc) := [(46, spRChk), (47, spCalls25), (48, spEx25)]
theorem glRx_ok : GOk Tryz.prog (lookG glRx) := lG_cons (by kernel_rfl) spRChk_ok <| lG_cons (by kernel_rfl) spCalls25_ok <| lG_cons (by kernel_rfl) spEx25_ok lG_nil
set_option maxRecDepth 100000 in
set_option maxHeartbeats 4000000 in
theorem rexpr_any (ds : List Df) (hn : ds.length ≤ 100000) (hd : dfOk ds) (A : Option Addr) (c : Nat) (l : List Nd) (hlen : l.length ≤ 100000) (hz : zsN l) (B : Option Addr) (d : Nat) (w : World)
    (h : allRd w.heap.size w (rxH ds A c l B d)) :
    Calls Tryz.prog 19 #[.slice A ds.length c, .slice B l.length d] w fun e w' => e = .returned (.tuple #[.int .i64 (rexV ds l).1, .int .i64 (rexV ds l).2]) ∧ Below w.heap.size w w' := by
  obtain ⟨q, hq⟩ : ∃ q, q = rexV ds l := ⟨_, rfl⟩
  rw [← hq]
  refine calls_go (args := [.g 1000 A ds.length c, .g 1003 B l.length d]) (hp := rxH ds A c l B d) (nx := 1004) (n := 2000) (U := [(1000000, 81)]) (V := [(20, ([(12, 1005)], []))]) (tl := tlLa) (gl := glRx) (post := fun s ys => ys = [.v (.int .i64 q.1), .v (.int .i64 q.2)])
    followP tlLa_ok glRx_ok Tryz.func19 rfl (by kernel_rfl) (Nat.le_of_ble_eq_true (by kernel_rfl)) (by kernel_rfl) (by kernel_rfl) (hh_list h) (free_list (by simp [allLt, rxH])) ?_ ?_
  · rintro s ys w' rfl H
    exact ⟨rfl, H.below⟩
  intro L F T G nd va hE
  obtain ⟨hL, hF, hs, hv, hT, hG, hR, hI, hJ, hW⟩ := hE
  rw [Tryz.results19] at hF
  simp (maxSteps := 1000000) only [En.nN, En.E, En.evsC, List.map_cons, List.map_nil, Nat.reduceBEq, Nat.reduceAdd, Nat.reduceMul, Nat.reduceEqDiff, Nat.reduceLeDiff, Nat.reduceLT, ne_eq, reduceCtorEq, Int.reduceBEq, Int.reduceBNe, Int.reduceAdd, Int.reduceSub, Int.reduceMul, Int.reduceTDiv, Int.reduceTMod, Int.reduceNeg, En.bitN, Nat.testBit, Nat.reduceShiftRight, Nat.reduceShiftLeft, Nat.reduceAnd, Nat.reduceOr, Nat.reduceBNe, Int.reduceToNat, Nat.reduceSub, Int.reduceLE, Int.reduceLT] at hv
  simp only [En.at_nil, En.at_cons, En.ag_nil, En.ag_cons, and_true, tlLa, glRx, tyInt, tyI64, tyBool, tyStr, tyStrs, tyErr, tyNode, tyNodes, tyDef, tyDefs, tyI64s] at hT hG
  rw [rexV] at hq
  by_cases h16 : 16 < ds.length
  · have d0 : decide ((ds.length : Int) > 16) = true := decide_eq_true (by omega)
    rw [if_pos h16] at hq
    simp (maxSteps := 10000000) only [En.E, En.evsC, List.map_cons, List.map_nil, Nat.reduceBEq, Nat.reduceAdd, Nat.reduceMul, Nat.reduceEqDiff, Nat.reduceLeDiff, Nat.reduceLT, ne_eq, reduceCtorEq, Int.reduceBEq, Int.reduceBNe, Int.reduceAdd, Int.reduceSub, Int.reduceMul, Int.reduceTDiv, Int.reduceTMod, Int.reduceNeg, En.bitN, Nat.testBit, Nat.reduceShiftRight, Nat.reduceShiftLeft, Nat.reduceAnd, Nat.reduceOr, Nat.reduceBNe, Int.reduceToNat, Nat.reduceSub, Int.reduceLE, Int.reduceLT, En.vV, hs, hv, hT, hG, hF, rxH, d0, hq]
  have d0 : decide ((ds.length : Int) > 16) = false := decide_eq_false (by omega)
  rw [if_neg h16] at hq
  simp (maxSteps := 10000000) only [En.E, En.evsC, List.map_cons, List.map_nil, Nat.reduceBEq, Nat.reduceAdd, Nat.reduceMul, Nat.reduceEqDiff, Nat.reduceLeDiff, Nat.reduceLT, ne_eq, reduceCtorEq, Int.reduceBEq, Int.reduceBNe, Int.reduceAdd, Int.reduceSub, Int.reduceMul, Int.reduceTDiv, Int.reduceTMod, Int.reduceNeg, En.bitN, Nat.testBit, Nat.reduceShiftRight, Nat.reduceShiftLeft, Nat.reduceAnd, Nat.reduceOr, Nat.reduceBNe, Int.reduceToNat, Nat.reduceSub, Int.reduceLE, Int.reduceLT, En.vV, hs, hv, hT, hG, hF, rxH, d0]
  obtain ⟨rE, hrE⟩ : ∃ r, r = rbE [] ds := ⟨_, rfl⟩
  refine hI {i : Nat // i ≤ ds.length ∧ rE = rbE (nsOf (ds.take i)) (ds.drop i)} (fun x => rxI ds A c l B d x.1) (fun x => ds.length - x.1) _ _ _
    ⟨0, Nat.zero_le _, by simpa [nsOf] using hrE⟩ (sle_all [1003, 1000, 1001] (by decide) (by simp only [En.E, En.evsC, List.map_cons, List.map_nil, Nat.reduceBEq, Nat.reduceAdd, Nat.reduceMul, Nat.reduceEqDiff, Nat.reduceLeDiff, Nat.reduceLT, ne_eq, reduceCtorEq, Int.reduceBEq, Int.reduceBNe, Int.reduceAdd, Int.reduceSub, Int.reduceMul, Int.reduceTDiv, Int.reduceTMod, Int.reduceNeg, En.bitN, Nat.testBit, Nat.reduceShiftRight, Nat.reduceShiftLeft, Nat.reduceAnd, Nat.reduceOr, Nat.reduceBNe, Int.reduceToNat, Nat.reduceSub, Int.reduceLE, Int.reduceLT, En.slLe, En.hpLe, En.chE, En.allLt, rxI, rxH, dfH, dfD, Int.cast_ofNat_Int])) ?_
  rintro ⟨i, hi, hri⟩
  by_cases hlt : i < ds.length
  · have d1 : decide ((i : Int) < (ds.length : Int)) = true := decide_eq_true (by omega)
    have i1 : inr .i64 ((i : Int) + 1) := by simp only [En.inr, En.lo, En.hi]; omega
    have g1 : (0 : Int) ≤ i ∧ (i : Int) < ds.length := by omega
    have g2 : (0 : Int) ≤ i ∧ i < ds.length := by omega
    have g3 : (i : Int) ≤ ds.length := by omega
    have hA : ¬A = none := slok_some h.2.1.1.1 (by omega)
    obtain ⟨o1, o2, o3⟩ := hd i hlt
    have ok1 := nsOf_ok hd i
    have i5 : i ≤ 100000 := by omega
    have np := nsL_p (kb := 1002) (d := c) (B := partA A 0 c 3) (Nat.le_of_lt hlt)
    rw [drop_at hlt, rbE] at hri
    refine hW _ _ _ (sle_hp (hp := (1002, .recs (dfAt ds i).bA (dfAt ds i).bc 7 (dfAt ds i).body.length fun r => ndC (ndAt (dfAt ds i).body r)) :: _) (fun w0 O w H => hh_deep (kD := 1001) (kR := 1002) (i := i) rfl hlt rfl (by decide) H) fun k hk hn => ?_) ?_
    · have : (1002 == k) = false := by simp only [rxI] at hk; simp; omega
      simp only [lookH, this, cond_false]; exact hn
    refine hR 2000 _ _ ?_
    by_cases h1 : (chkV (dfAt ds i).body).2 = 0
    · have d2 : ((chkV (dfAt ds i).body).2 == 0) = true := by rw [h1]; rfl
      by_cases h2 : calV (nsOf (ds.take i)) (dfAt ds i).body = 0
      · have d3 : (calV (nsOf (ds.take i)) (dfAt ds i).body != 0) = false := by rw [h2]; rfl
        simp only [ne_eq, h1, h2, not_true_eq_false, if_false] at hri
        rw [← nsOf_snoc hlt] at hri
        simp (maxSteps := 10000000) only [En.E, En.evsC, List.map_cons, List.map_nil, Nat.reduceBEq, Nat.reduceAdd, Nat.reduceMul, Nat.reduceEqDiff, Nat.reduceLeDiff, Nat.reduceLT, ne_eq, reduceCtorEq, Int.reduceBEq, Int.reduceBNe, Int.reduceAdd, Int.reduceSub, Int.reduceMul, Int.reduceTDiv, Int.reduceTMod, Int.reduceNeg, En.bitN, Nat.testBit, Nat.reduceShiftRight, Nat.reduceShiftLeft, Nat.reduceAnd, Nat.reduceOr, Nat.reduceBNe, Int.reduceToNat, Nat.reduceSub, Int.reduceLE, Int.reduceLT, En.vV, hs, hv, hT, hG, hF, rxI, rxH, dfH, dfD, d1, d2, d3, i1, dfC_n, g1, g2, g3, hA, spRChk_q, NdR_q, chL_q, o1, o2, spCalls25_q, NsR_p, np, ok1, i5, Int.toNat_natCast]
        exact ⟨⟨i + 1, hlt, hri⟩, (sle_all [1003, 1000, 1001] (by decide) (by simp only [En.E, En.evsC, List.map_cons, List.map_nil, Nat.reduceBEq, Nat.reduceAdd, Nat.reduceMul, Nat.reduceEqDiff, Nat.reduceLeDiff, Nat.reduceLT, ne_eq, reduceCtorEq, Int.reduceBEq, Int.reduceBNe, Int.reduceAdd, Int.reduceSub, Int.reduceMul, Int.reduceTDiv, Int.reduceTMod, Int.reduceNeg, En.bitN, Nat.testBit, Nat.reduceShiftRight, Nat.reduceShiftLeft, Nat.reduceAnd, Nat.reduceOr, Nat.reduceBNe, Int.reduceToNat, Nat.reduceSub, Int.reduceLE, Int.reduceLT, En.slLe, En.hpLe, En.chE, En.allLt, rxI, rxH, dfH, dfD, Int.natCast_add, Int.cast_ofNat_Int])), by simp only; omega⟩
      · have d3 : (calV (nsOf (ds.take i)) (dfAt ds i).body != 0) = true := by simpa using h2
        simp only [ne_eq, h1, h2, not_true_eq_false, not_false_eq_true, if_false, if_true] at hri
        rw [← hrE, if_pos (by rw [hri]; exact h2)] at hq
        simp (maxSteps := 10000000) only [En.E, En.evsC, List.map_cons, List.map_nil, Nat.reduceBEq, Nat.reduceAdd, Nat.reduceMul, Nat.reduceEqDiff, Nat.reduceLeDiff, Nat.reduceLT, ne_eq, reduceCtorEq, Int.reduceBEq, Int.reduceBNe, Int.reduceAdd, Int.reduceSub, Int.reduceMul, Int.reduceTDiv, Int.reduceTMod, Int.reduceNeg, En.bitN, Nat.testBit, Nat.reduceShiftRight, Nat.reduceShiftLeft, Nat.reduceAnd, Nat.reduceOr, Nat.reduceBNe, Int.reduceToNat, Nat.reduceSub, Int.reduceLE, Int.reduceLT, En.vV, hs, hv, hT, hG, hF, rxI, rxH, dfH, dfD, d1, d2, d3, i1, dfC_n, g1, g2, g3, hA, spRChk_q, NdR_q, chL_q, o1, o2, spCalls25_q, NsR_p, np, ok1, i5, Int.toNat_natCast, hq, hri]
    · have d2 : ((chkV (dfAt ds i).body).2 == 0) = false := by simpa using h1
      have d3 : ((chkV (dfAt ds i).body).2 != 0) = true := by simpa using h1
      simp only [ne_eq, h1, not_false_eq_true, if_true] at hri
      rw [← hrE, if_pos (by rw [hri]; exact h1)] at hq
      simp (maxSteps := 10000000) only [En.E, En.evsC, List.map_cons, List.map_nil, Nat.reduceBEq, Nat.reduceAdd, Nat.reduceMul, Nat.reduceEqDiff, Nat.reduceLeDiff, Nat.reduceLT, ne_eq, reduceCtorEq, Int.reduceBEq, Int.reduceBNe, Int.reduceAdd, Int.reduceSub, Int.reduceMul, Int.reduceTDiv, Int.reduceTMod, Int.reduceNeg, En.bitN, Nat.testBit, Nat.reduceShiftRight, Nat.reduceShiftLeft, Nat.reduceAnd, Nat.reduceOr, Nat.reduceBNe, Int.reduceToNat, Nat.reduceSub, Int.reduceLE, Int.reduceLT, En.vV, hs, hv, hT, hG, hF, rxI, rxH, dfH, dfD, d1, d2, d3, i1, dfC_n, g1, g2, g3, hA, spRChk_q, NdR_q, chL_q, o1, o2, Int.toNat_natCast, hq, hri]
  · have d1 : decide ((i : Int) < (ds.length : Int)) = false := decide_eq_false (by omega)
    obtain rfl : i = ds.length := by omega
    rw [List.drop_length, rbE] at hri
    rw [← hrE, if_neg (by simp [hri])] at hq
    have ok1 := nsOf_ok hd ds.length
    rw [List.take_length] at ok1
    refine hR 2000 _ _ ?_
    by_cases h1 : (chkV l).2 = 0
    · have d2 : ((chkV l).2 == 0) = true := by rw [h1]; rfl
      rw [if_neg (by simp [h1])] at hq
      by_cases h2 : calV (nsOf ds) l = 0
      · have d3 : (calV (nsOf ds) l != 0) = false := by rw [h2]; rfl
        rw [if_neg (by simp [h2])] at hq
        simp (maxSteps := 10000000) only [En.E, En.evsC, List.map_cons, List.map_nil, Nat.reduceBEq, Nat.reduceAdd, Nat.reduceMul, Nat.reduceEqDiff, Nat.reduceLeDiff, Nat.reduceLT, ne_eq, reduceCtorEq, Int.reduceBEq, Int.reduceBNe, Int.reduceAdd, Int.reduceSub, Int.reduceMul, Int.reduceTDiv, Int.reduceTMod, Int.reduceNeg, En.bitN, Nat.testBit, Nat.reduceShiftRight, Nat.reduceShiftLeft, Nat.reduceAnd, Nat.reduceOr, Nat.reduceBNe, Int.reduceToNat, Nat.reduceSub, Int.reduceLE, Int.reduceLT, En.vV, hs, hv, hT, hG, hF, rxI, rxH, d1, d2, d3, spRChk_q, NdR_q, chL_q, hlen, hz, spCalls25_q, NsR_df, nsL_df, ok1, hn, Int.toNat_natCast]
        refine hW _ _ _ (sle_hp (hp := (1005, .rowV none 0 2 1 0 []) :: _) (fun w0 O w H => hh_row0 H) fun k hk hn => ?_) ?_
        · have : (1005 == k) = false := by simp only [] at hk; simp; omega
          simp only [lookH, this, cond_false]; exact hn
        refine hI {x : Nat × Option Addr × Nat // x.1 ≤ ds.length} (fun x => rxJ ds A c l B d x.1.1 x.1.2.1 x.1.2.2) (fun x => ds.length - x.1.1) _ _ _
          ⟨(0, none, 0), Nat.zero_le _⟩ (sle_all [1005, 1003, 1000, 1001] (by decide) (by simp only [En.E, En.evsC, List.map_cons, List.map_nil, Nat.reduceBEq, Nat.reduceAdd, Nat.reduceMul, Nat.reduceEqDiff, Nat.reduceLeDiff, Nat.reduceLT, ne_eq, reduceCtorEq, Int.reduceBEq, Int.reduceBNe, Int.reduceAdd, Int.reduceSub, Int.reduceMul, Int.reduceTDiv, Int.reduceTMod, Int.reduceNeg, En.bitN, Nat.testBit, Nat.reduceShiftRight, Nat.reduceShiftLeft, Nat.reduceAnd, Nat.reduceOr, Nat.reduceBNe, Int.reduceToNat, Nat.reduceSub, Int.reduceLE, Int.reduceLT, En.slLe, En.hpLe, En.chE, En.allLt, rxJ, rxH, dfH, dfD, row0_s, row0_d, Int.cast_ofNat_Int])) ?_
        rintro ⟨⟨i, E, e⟩, hi⟩
        simp only at hi
        by_cases hlt : i < ds.length
        · have d1 : decide ((i : Int) < (ds.length : Int)) = true := decide_eq_true (by omega)
          have i1 : inr .i64 ((i : Int) + 1) := by simp only [En.inr, En.lo, En.hi]; omega
          have g1 : (0 : Int) ≤ i ∧ (i : Int) < ds.length := by omega
          have g2 : (0 : Int) ≤ i ∧ i < ds.length := by omega
          have g3 : (i : Int) ≤ ds.length := by omega
          have hA : ¬A = none := slok_some h.2.1.1.1 (by omega)
          obtain ⟨o1, o2, o3⟩ := hd i hlt
          obtain ⟨r1, r2⟩ := rbE_ok ds [] (by rw [← hrE, hri]) i hlt
          rw [List.nil_append] at r2
          have hgood := (chk_ok r1).2.2.1
          have i5 : i ≤ 100000 := by omega
          have np := nsL_p (kb := 1002) (d := c) (B := partA A 0 c 3) (Nat.le_of_lt hlt)
          have hbl := bT_len ds i hi
          have hbo := bT_ok ds i hi
          have hbn : (bT ds i).length = (nsOf (ds.take i)).length := by rw [hbl, nsOf_len, List.length_take]; omega
          have hrow := getNC_r (A := E) (c := e) (e := 2) hbl
          refine hW _ _ _ (sle_hp (hp := (1002, .recs (dfAt ds i).bA (dfAt ds i).bc 7 (dfAt ds i).body.length fun r => ndC (ndAt (dfAt ds i).body r)) :: _) (fun w0 O w H => hh_deep (kD := 1001) (kR := 1002) (i := i) rfl hlt rfl (by decide) H) fun k hk hn => ?_) ?_
          · have : (1002 == k) = false := by simp only [rxJ] at hk; simp; omega
            simp only [lookH, this, cond_false]; exact hn
          refine hR 2000 _ _ ?_
          simp (maxSteps := 10000000) only [En.E, En.evsC, List.map_cons, List.map_nil, Nat.reduceBEq, Nat.reduceAdd, Nat.reduceMul, Nat.reduceEqDiff, Nat.reduceLeDiff, Nat.reduceLT, ne_eq, reduceCtorEq, Int.reduceBEq, Int.reduceBNe, Int.reduceAdd, Int.reduceSub, Int.reduceMul, Int.reduceTDiv, Int.reduceTMod, Int.reduceNeg, En.bitN, Nat.testBit, Nat.reduceShiftRight, Nat.reduceShiftLeft, Nat.reduceAnd, Nat.reduceOr, Nat.reduceBNe, Int.reduceToNat, Nat.reduceSub, Int.reduceLE, Int.reduceLT, En.vV, hs, hv, hT, hG, hF, rxJ, rxH, dfH, dfD, d1, i1, dfC_n, g1, g2, g3, hA, NdR_q, chL_q, o1, o2, spEx25_q, getN_q, hrow, ex25R_q, NsR_p, np, i5, hbn, hbo, hgood, r2, Int.toNat_natCast]
          have hb1 := bT_succ hlt
          exact fun b => ⟨by omega, fun A1 c1 => ⟨⟨(i + 1, A1, c1), hlt⟩, (sle_all [36144, 1003, 1000, 1001] (by decide) (by simp only [En.E, En.evsC, List.map_cons, List.map_nil, Nat.reduceBEq, Nat.reduceAdd, Nat.reduceMul, Nat.reduceEqDiff, Nat.reduceLeDiff, Nat.reduceLT, ne_eq, reduceCtorEq, Int.reduceBEq, Int.reduceBNe, Int.reduceAdd, Int.reduceSub, Int.reduceMul, Int.reduceTDiv, Int.reduceTMod, Int.reduceNeg, En.bitN, Nat.testBit, Nat.reduceShiftRight, Nat.reduceShiftLeft, Nat.reduceAnd, Nat.reduceOr, Nat.reduceBNe, Int.reduceToNat, Nat.reduceSub, Int.reduceLE, Int.reduceLT, En.slLe, En.hpLe, En.chE, En.allLt, rxJ, rxH, dfH, dfD, hb1, den_gg, List.map_append, Int.natCast_add, Int.cast_ofNat_Int])), by simp only; omega⟩⟩
        · have d1 : decide ((i : Int) < (ds.length : Int)) = false := decide_eq_false (by omega)
          obtain rfl : i = ds.length := by omega
          have hbl := bT_len ds ds.length hi
          have hbo := bT_ok ds ds.length hi
          have hbn : (bT ds ds.length).length = (nsOf ds).length := by rw [hbl, nsOf_len]
          have hrow := getNC_r (A := E) (c := e) (e := 2) hbl
          have hgood := (chk_ok h1).2.2.1
          have hqq : exV (nsOf ds) (bT ds ds.length) l = q.1 := by rw [hq, bT, List.take_length]
          have hq2 : q.2 = 0 := by rw [hq]
          refine hR 2000 _ _ ?_
          simp (maxSteps := 10000000) only [En.E, En.evsC, List.map_cons, List.map_nil, Nat.reduceBEq, Nat.reduceAdd, Nat.reduceMul, Nat.reduceEqDiff, Nat.reduceLeDiff, Nat.reduceLT, ne_eq, reduceCtorEq, Int.reduceBEq, Int.reduceBNe, Int.reduceAdd, Int.reduceSub, Int.reduceMul, Int.reduceTDiv, Int.reduceTMod, Int.reduceNeg, En.bitN, Nat.testBit, Nat.reduceShiftRight, Nat.reduceShiftLeft, Nat.reduceAnd, Nat.reduceOr, Nat.reduceBNe, Int.reduceToNat, Nat.reduceSub, Int.reduceLE, Int.reduceLT, En.vV, hs, hv, hT, hG, hF, rxJ, rxH, d1, NdR_q, chL_q, spEx25_q, getN_q, hrow, ex25R_q, NsR_df, nsL_df, hn, hbn, hbo, hgood, h2, hqq, hq2, Int.toNat_natCast]
      · have d3 : (calV (nsOf ds) l != 0) = true := by simpa using h2
        rw [if_pos h2] at hq
        simp (maxSteps := 10000000) only [En.E, En.evsC, List.map_cons, List.map_nil, Nat.reduceBEq, Nat.reduceAdd, Nat.reduceMul, Nat.reduceEqDiff, Nat.reduceLeDiff, Nat.reduceLT, ne_eq, reduceCtorEq, Int.reduceBEq, Int.reduceBNe, Int.reduceAdd, Int.reduceSub, Int.reduceMul, Int.reduceTDiv, Int.reduceTMod, Int.reduceNeg, En.bitN, Nat.testBit, Nat.reduceShiftRight, Nat.reduceShiftLeft, Nat.reduceAnd, Nat.reduceOr, Nat.reduceBNe, Int.reduceToNat, Nat.reduceSub, Int.reduceLE, Int.reduceLT, En.vV, hs, hv, hT, hG, hF, rxI, rxH, d1, d2, d3, spRChk_q, NdR_q, chL_q, hlen, hz, spCalls25_q, NsR_df, nsL_df, ok1, hn, Int.toNat_natCast, hq]
    · have d2 : ((chkV l).2 == 0) = false := by simpa using h1
      have d3 : ((chkV l).2 != 0) = true := by simpa using h1
      rw [if_pos h1] at hq
      simp (maxSteps := 10000000) only [En.E, En.evsC, List.map_cons, List.map_nil, Nat.reduceBEq, Nat.reduceAdd, Nat.reduceMul, Nat.reduceEqDiff, Nat.reduceLeDiff, Nat.reduceLT, ne_eq, reduceCtorEq, Int.reduceBEq, Int.reduceBNe, Int.reduceAdd, Int.reduceSub, Int.reduceMul, Int.reduceTDiv, Int.reduceTMod, Int.reduceNeg, En.bitN, Nat.testBit, Nat.reduceShiftRight, Nat.reduceShiftLeft, Nat.reduceAnd, Nat.reduceOr, Nat.reduceBNe, Int.reduceToNat, Nat.reduceSub, Int.reduceLE, Int.reduceLT, En.vV, hs, hv, hT, hG, hF, rxI, rxH, d1, d2, d3, spRChk_q, NdR_q, chL_q, hlen, hz, hq]
def rexCo (A : Option Addr) (n c k : Nat) (H : Nat → Ch) : Prop := DfR A n c (H k) (H 1001) ∧ n ≤ 100000 ∧ dfOk (dsL n (H k) (H 1001))
def spRExpr : Spc
  | [.g kd A n c, .g k B m d], H, _ => .is (rexCo A n c kd H ∧ NdR B m d (H k) ∧ m ≤ 100000 ∧ zsN (chL m (H k))) (.tup [.v (.int .i64 (rexV (dsL n (H kd) (H 1001)) (chL m (H k))).1), .v (.int .i64 (rexV (dsL n (H kd) (H 1001)) (chL m (H k))).2)])
  | _, _, _ => .bad
theorem spRExpr_q {k kd n m c d : Nat} {A B : Option Addr} {H : Nat → Ch} {nx : Nat} : spRExpr [.g kd A n c, .g k B m d] H nx = .is (rexCo A n c kd H ∧ NdR B m d (H k) ∧ m ≤ 100000 ∧ zsN (chL m (H k))) (.tup [.v (.int .i64 (rexV (dsL n (H kd) (H 1001)) (chL m (H k))).1), .v (.int .i64 (rexV (dsL n (H kd) (H 1001)) (chL m (H k))).2)]) := rfl
theorem spRExpr_ok : SpecOk Tryz.prog 19 spRExpr := by
  intro args hp nx w0 O w H hv
  unfold spRExpr at hv ⊢
  split at hv
  · next kd A n c k B m d =>
    obtain ⟨⟨h1, hn, hd⟩, g1, gn, gz⟩ := hv
    obtain ⟨hl, hh⟩ := DfR_hold h1 (H.hold kd) (H.hold 1001)
    obtain ⟨gl, gg⟩ := NdR_hold g1 (H.hold k)
    generalize dsL n (lookH hp kd) (lookH hp 1001) = ds at hl hh hd ⊢
    generalize chL m (lookH hp k) = l at gl gg gz ⊢
    subst hl
    subst gl
    refine (rexpr_any ds hn hd A c l gn gz B d w ⟨⟨gg _, rfl⟩, ⟨(hh _ 1002).1, rfl⟩, ⟨(hh _ 1002).2, rfl⟩, trivial⟩).mono ?_
    rintro e w' ⟨rfl, hb⟩
    exact ⟨⟨0, none, 0, none, 0, mz⟩, rfl, .still hb⟩
  · exact hv.elim
end Pr
end Go.Proofs.YtapgddiocdcaeaaGreatDoor
/-
Chapter 25: how far the law looks; the walk of CostExprs.
-/
set_option linter.unusedSimpArgs false
set_option linter.unusedVariables false
namespace Go.Proofs.YtapgddiocdcaeaaGreatDoor
namespace Pr
open Go Go.RowKit En
open Ex
def bigN (d : Nd) : Bool := bif decide ((d.nm.size : Int) > 100) then true else decide ((d.tx.size : Int) > 2000)
def wideV (l : List Nd) : Bool := (List.range (min l.length 500)).any fun i => bigN (ndAt l i)
def tlFa : List (TypeId × TI) := [tyInt, tyI64, tyBool, tyStr, tyStrs, tyErr, tyNode, tyNodes, tyDef, tyDefs]
theorem tlFa_ok : TyAll Tryz.prog (lookT tlFa) := tyAll_p tyInt_ok <| tyAll_p tyI64_ok <| tyAll_p tyBool_ok <| tyAll_p tyStr_ok <| tyAll_p tyStrs_ok <| tyAll_p tyErr_ok <| tyAll_p tyNode_ok <| tyAll_p tyNodes_ok <| tyAll_p tyDef_ok <| tyAll_p tyDefs_ok tyAll_nil
def wiI (l : List Nd) (A : Option Addr) (c i : Nat) : SS := ⟨[(0, .g 1000 A l.length c), (3, .v (.int .i64 i))], rdH l A c, 3000⟩
set_option maxRecDepth 100000 in
set_option maxHeartbeats 4000000 in
theorem wide_any (l : List Nd) (hlen : l.length ≤ 9223372036854775807) (hz : zsM l) (A : Option Addr) (c : Nat) (w : World) (h : allRd w.heap.size w (rdH l A c)) :
    Calls Tryz.prog 43 #[.slice A l.length c] w fun e w' => e = .returned (.bool (wideV l)) ∧ Below w.heap.size w w' := by
  obtain ⟨q, hq⟩ : ∃ q, q = wideV l := ⟨_, rfl⟩
  rw [← hq]
  refine calls_go (args := [.g 1000 A l.length c]) (hp := rdH l A c) (nx := 1001) (n := 1000) (U := [(1000000, 30)]) (V := []) (tl := tlFa) (gl := gl0) (post := fun s ys => ys = [.v (.bool q)])
    followP tlFa_ok gl0_ok Tryz.func43 rfl (by kernel_rfl) (Nat.le_of_ble_eq_true (by kernel_rfl)) (by kernel_rfl) (by kernel_rfl) (hh_list h) (free_list (by simp [allLt, rdH])) ?_ ?_
  · rintro s ys w' rfl H
    exact ⟨rfl, H.below⟩
  intro L F T G nd va hE
  obtain ⟨hL, hF, hs, hv, hT, hG, hR, hI, hJ, hW⟩ := hE
  rw [Tryz.results43] at hF
  simp (maxSteps := 1000000) only [En.nN, En.E, En.evsC, List.map_cons, List.map_nil, Nat.reduceBEq, Nat.reduceAdd, Nat.reduceMul, Nat.reduceEqDiff, Nat.reduceLeDiff, Nat.reduceLT, ne_eq, reduceCtorEq, Int.reduceBEq, Int.reduceBNe, Int.reduceAdd, Int.reduceSub, Int.reduceMul, Int.reduceTDiv, Int.reduceTMod, Int.reduceNeg, En.bitN, Nat.testBit, Nat.reduceShiftRight, Nat.reduceShiftLeft, Nat.reduceAnd, Nat.reduceOr, Nat.reduceBNe, Int.reduceToNat, Nat.reduceSub, Int.reduceLE, Int.reduceLT] at hv
  simp only [En.at_nil, En.at_cons, En.ag_nil, En.ag_cons, and_true, tlFa, gl0, tyInt, tyI64, tyBool, tyStr, tyStrs, tyErr, tyNode, tyNodes, tyDef, tyDefs] at hT hG
  simp (maxSteps := 10000000) only [En.E, En.evsC, List.map_cons, List.map_nil, Nat.reduceBEq, Nat.reduceAdd, Nat.reduceMul, Nat.reduceEqDiff, Nat.reduceLeDiff, Nat.reduceLT, ne_eq, reduceCtorEq, Int.reduceBEq, Int.reduceBNe, Int.reduceAdd, Int.reduceSub, Int.reduceMul, Int.reduceTDiv, Int.reduceTMod, Int.reduceNeg, En.bitN, Nat.testBit, Nat.reduceShiftRight, Nat.reduceShiftLeft, Nat.reduceAnd, Nat.reduceOr, Nat.reduceBNe, Int.reduceToNat, Nat.reduceSub, Int.reduceLE, Int.reduceLT, En.vV, hs, hv, hT, hG, hF, rdH]
  refine hI {i : Nat // i ≤ min l.length 500 ∧ ∀ j, j < i → bigN (ndAt l j) = false} (fun x => wiI l A c x.1) (fun x => l.length - x.1) _ _ _ ⟨0, Nat.zero_le _, fun j hj => absurd hj (Nat.not_lt_zero j)⟩ (sle_all [1000] (by decide) (by simp only [En.E, En.evsC, List.map_cons, List.map_nil, Nat.reduceBEq, Nat.reduceAdd, Nat.reduceMul, Nat.reduceEqDiff, Nat.reduceLeDiff, Nat.reduceLT, ne_eq, reduceCtorEq, Int.reduceBEq, Int.reduceBNe, Int.reduceAdd, Int.reduceSub, Int.reduceMul, Int.reduceTDiv, Int.reduceTMod, Int.reduceNeg, En.bitN, Nat.testBit, Nat.reduceShiftRight, Nat.reduceShiftLeft, Nat.reduceAnd, Nat.reduceOr, Nat.reduceBNe, Int.reduceToNat, Nat.reduceSub, Int.reduceLE, Int.reduceLT, En.slLe, En.hpLe, En.chE, En.allLt, wiI, rdH, Int.cast_ofNat_Int])) ?_
  rintro ⟨i, hi, hp⟩
  refine hR 1000 _ _ ?_
  by_cases hlt : i < l.length
  · have d1 : decide ((i : Int) < (l.length : Int)) = true := decide_eq_true (by omega)
    by_cases h5 : i < 500
    · have d2 : decide ((i : Int) < 500) = true := decide_eq_true (by omega)
      have i1 : inr .i64 ((i : Int) + 1) := by simp only [En.inr, En.lo, En.hi]; omega
      have g1 : (0 : Int) ≤ i ∧ (i : Int) < l.length := by omega
      have g2 : (0 : Int) ≤ i ∧ i < l.length := by omega
      have hA : ¬A = none := slok_some h.1.1.1 (by omega)
      obtain ⟨z1, z2⟩ := hz i hlt
      have i2 : inr .i64 ((ndAt l i).nm.size : Int) := by simp only [En.inr, En.lo, En.hi]; omega
      have i3 : inr .i64 ((ndAt l i).tx.size : Int) := by simp only [En.inr, En.lo, En.hi]; omega
      cases hb : bigN (ndAt l i) with
      | true =>
        have hqq : q = true := by
          rw [hq, wideV, List.any_eq_true]
          exact ⟨i, List.mem_range.2 (by omega), hb⟩
        rw [bigN] at hb
        cases d3 : decide (((ndAt l i).nm.size : Int) > 100) with
        | true =>
          simp (maxSteps := 10000000) only [En.E, En.evsC, List.map_cons, List.map_nil, Nat.reduceBEq, Nat.reduceAdd, Nat.reduceMul, Nat.reduceEqDiff, Nat.reduceLeDiff, Nat.reduceLT, ne_eq, reduceCtorEq, Int.reduceBEq, Int.reduceBNe, Int.reduceAdd, Int.reduceSub, Int.reduceMul, Int.reduceTDiv, Int.reduceTMod, Int.reduceNeg, En.bitN, Nat.testBit, Nat.reduceShiftRight, Nat.reduceShiftLeft, Nat.reduceAnd, Nat.reduceOr, Nat.reduceBNe, Int.reduceToNat, Nat.reduceSub, Int.reduceLE, Int.reduceLT, En.vV, hs, hv, hT, hG, hF, wiI, rdH, d1, d2, d3, i1, i2, i3, g1, g2, hA, ndC_n, Int.toNat_natCast, hqq]
        | false =>
          rw [d3] at hb
          have d4 : decide (((ndAt l i).tx.size : Int) > 2000) = true := hb
          simp (maxSteps := 10000000) only [En.E, En.evsC, List.map_cons, List.map_nil, Nat.reduceBEq, Nat.reduceAdd, Nat.reduceMul, Nat.reduceEqDiff, Nat.reduceLeDiff, Nat.reduceLT, ne_eq, reduceCtorEq, Int.reduceBEq, Int.reduceBNe, Int.reduceAdd, Int.reduceSub, Int.reduceMul, Int.reduceTDiv, Int.reduceTMod, Int.reduceNeg, En.bitN, Nat.testBit, Nat.reduceShiftRight, Nat.reduceShiftLeft, Nat.reduceAnd, Nat.reduceOr, Nat.reduceBNe, Int.reduceToNat, Nat.reduceSub, Int.reduceLE, Int.reduceLT, En.vV, hs, hv, hT, hG, hF, wiI, rdH, d1, d2, d3, d4, i1, i2, i3, g1, g2, hA, ndC_n, Int.toNat_natCast, hqq]
      | false =>
        have hb' := hb
        rw [bigN] at hb'
        cases d3 : decide (((ndAt l i).nm.size : Int) > 100) with
        | true => rw [d3] at hb'; cases hb'
        | false =>
          rw [d3] at hb'
          have d4 : decide (((ndAt l i).tx.size : Int) > 2000) = false := hb'
          simp (maxSteps := 10000000) only [En.E, En.evsC, List.map_cons, List.map_nil, Nat.reduceBEq, Nat.reduceAdd, Nat.reduceMul, Nat.reduceEqDiff, Nat.reduceLeDiff, Nat.reduceLT, ne_eq, reduceCtorEq, Int.reduceBEq, Int.reduceBNe, Int.reduceAdd, Int.reduceSub, Int.reduceMul, Int.reduceTDiv, Int.reduceTMod, Int.reduceNeg, En.bitN, Nat.testBit, Nat.reduceShiftRight, Nat.reduceShiftLeft, Nat.reduceAnd, Nat.reduceOr, Nat.reduceBNe, Int.reduceToNat, Nat.reduceSub, Int.reduceLE, Int.reduceLT, En.vV, hs, hv, hT, hG, hF, wiI, rdH, d1, d2, d3, d4, i1, i2, i3, g1, g2, hA, ndC_n, Int.toNat_natCast]
          refine ⟨⟨i + 1, by omega, fun j hj => ?_⟩, (sle_all [1000] (by decide) (by simp only [En.E, En.evsC, List.map_cons, List.map_nil, Nat.reduceBEq, Nat.reduceAdd, Nat.reduceMul, Nat.reduceEqDiff, Nat.reduceLeDiff, Nat.reduceLT, ne_eq, reduceCtorEq, Int.reduceBEq, Int.reduceBNe, Int.reduceAdd, Int.reduceSub, Int.reduceMul, Int.reduceTDiv, Int.reduceTMod, Int.reduceNeg, En.bitN, Nat.testBit, Nat.reduceShiftRight, Nat.reduceShiftLeft, Nat.reduceAnd, Nat.reduceOr, Nat.reduceBNe, Int.reduceToNat, Nat.reduceSub, Int.reduceLE, Int.reduceLT, En.slLe, En.hpLe, En.chE, En.allLt, wiI, rdH, Int.natCast_add, Int.cast_ofNat_Int])), by simp only; omega⟩
          by_cases e : j = i
          · rw [e]; exact hb
          · exact hp j (by omega)
    · have d2 : decide ((i : Int) < 500) = false := decide_eq_false (by omega)
      have hqq : q = false := by
        rw [hq, wideV, List.any_eq_false]
        intro j hj
        rw [hp j (by have := List.mem_range.1 hj; omega)]; simp
      simp (maxSteps := 10000000) only [En.E, En.evsC, List.map_cons, List.map_nil, Nat.reduceBEq, Nat.reduceAdd, Nat.reduceMul, Nat.reduceEqDiff, Nat.reduceLeDiff, Nat.reduceLT, ne_eq, reduceCtorEq, Int.reduceBEq, Int.reduceBNe, Int.reduceAdd, Int.reduceSub, Int.reduceMul, Int.reduceTDiv, Int.reduceTMod, Int.reduceNeg, En.bitN, Nat.testBit, Nat.reduceShiftRight, Nat.reduceShiftLeft, Nat.reduceAnd, Nat.reduceOr, Nat.reduceBNe, Int.reduceToNat, Nat.reduceSub, Int.reduceLE, Int.reduceLT, En.vV, hs, hv, hT, hG, hF, wiI, rdH, d1, d2, hqq]
  · have d1 : decide ((i : Int) < (l.length : Int)) = false := decide_eq_false (by omega)
    have hqq : q = false := by
      rw [hq, wideV, List.any_eq_false]
      intro j hj
      rw [hp j (by have := List.mem_range.1 hj; omega)]; simp
    simp (maxSteps := 10000000) only [En.E, En.evsC, List.map_cons, List.map_nil, Nat.reduceBEq, Nat.reduceAdd, Nat.reduceMul, Nat.reduceEqDiff, Nat.reduceLeDiff, Nat.reduceLT, ne_eq, reduceCtorEq, Int.reduceBEq, Int.reduceBNe, Int.reduceAdd, Int.reduceSub, Int.reduceMul, Int.reduceTDiv, Int.reduceTMod, Int.reduceNeg, En.bitN, Nat.testBit, Nat.reduceShiftRight, Nat.reduceShiftLeft, Nat.reduceAnd, Nat.reduceOr, Nat.reduceBNe, Int.reduceToNat, Nat.reduceSub, Int.reduceLE, Int.reduceLT, En.vV, hs, hv, hT, hG, hF, wiI, rdH, d1, hqq, Bool.false_eq_true]
def spWide : Spc
  | [.g k A n c], H, _ => .is (NdR A n c (H k) ∧ n ≤ 9223372036854775807 ∧ zsM (chL n (H k))) (.v (.bool (wideV (chL n (H k)))))
  | _, _, _ => .bad
theorem spWide_q {k n c : Nat} {A : Option Addr} {H : Nat → Ch} {nx : Nat} : spWide [.g k A n c] H nx = .is (NdR A n c (H k) ∧ n ≤ 9223372036854775807 ∧ zsM (chL n (H k))) (.v (.bool (wideV (chL n (H k))))) := rfl
theorem spWide_ok : SpecOk Tryz.prog 43 spWide := by
  intro args hp nx w0 O w H hv
  unfold spWide at hv ⊢
  split at hv
  · next k A n c =>
    obtain ⟨h1, hn, hz⟩ := hv
    obtain ⟨hl, hh⟩ := NdR_hold h1 (H.hold k)
    generalize chL n (lookH hp k) = l at hl hh hz ⊢
    subst hl
    refine (wide_any l hn hz A c w ⟨⟨hh _, rfl⟩, trivial⟩).mono ?_
    rintro e w' ⟨rfl, hb⟩
    exact ⟨⟨0, none, 0, none, 0, mz⟩, rfl, .still hb⟩
  · exact hv.elim
def farB (d : Df) : Bool := bif decide ((d.body.length : Int) > 60) then true else bif decide ((d.np : Int) > 5) then true else wideV d.body
def farL (n : Nat) (l : List Nd) : Bool := bif decide ((n : Int) > 18) then true else bif decide ((l.length : Int) > 450) then true else wideV l
def farV (ds : List Df) (l : List Nd) : Bool := bif (List.range (min ds.length 25)).any fun i => farB (dfAt ds i) then true else farL ds.length l
def dfM (ds : List Df) : Prop := ∀ i, i < ds.length → (dfAt ds i).body.length ≤ 9223372036854775807 ∧ zsM (dfAt ds i).body ∧ (dfAt ds i).np ≤ 9223372036854775807
def glFar : List (FuncId × Spc) := [(43, spWide)]
theorem glFar_ok : GOk Tryz.prog (lookG glFar) := lG_cons (by kernel_rfl) spWide_ok lG_nil
set_option maxRecDepth 100000 in
set_option maxHeartbeats 4000000 in
theorem far_any (ds : List Df) (hn : ds.length ≤ 9223372036854775807) (hd : dfM ds) (A : Option Addr) (c : Nat) (l : List Nd) (hlen : l.length ≤ 9223372036854775807) (hz : zsM l) (B : Option Addr) (d : Nat) (w : World)
    (h : allRd w.heap.size w (rxH ds A c l B d)) :
    Calls Tryz.prog 17 #[.slice A ds.length c, .slice B l.length d] w fun e w' => e = .returned (.bool (farV ds l)) ∧ Below w.heap.size w w' := by
  obtain ⟨q, hq⟩ : ∃ q, q = farV ds l := ⟨_, rfl⟩
  rw [← hq]
  refine calls_go (args := [.g 1000 A ds.length c, .g 1003 B l.length d]) (hp := rxH ds A c l B d) (nx := 1004) (n := 1000) (U := [(1000000, 52)]) (V := []) (tl := tlFa) (gl := glFar) (post := fun s ys => ys = [.v (.bool q)])
    followP tlFa_ok glFar_ok Tryz.func17 rfl (by kernel_rfl) (Nat.le_of_ble_eq_true (by kernel_rfl)) (by kernel_rfl) (by kernel_rfl) (hh_list h) (free_list (by simp [allLt, rxH])) ?_ ?_
  · rintro s ys w' rfl H
    exact ⟨rfl, H.below⟩
  intro L F T G nd va hE
  obtain ⟨hL, hF, hs, hv, hT, hG, hR, hI, hJ, hW⟩ := hE
  rw [Tryz.results17] at hF
  simp (maxSteps := 1000000) only [En.nN, En.E, En.evsC, List.map_cons, List.map_nil, Nat.reduceBEq, Nat.reduceAdd, Nat.reduceMul, Nat.reduceEqDiff, Nat.reduceLeDiff, Nat.reduceLT, ne_eq, reduceCtorEq, Int.reduceBEq, Int.reduceBNe, Int.reduceAdd, Int.reduceSub, Int.reduceMul, Int.reduceTDiv, Int.reduceTMod, Int.reduceNeg, En.bitN, Nat.testBit, Nat.reduceShiftRight, Nat.reduceShiftLeft, Nat.reduceAnd, Nat.reduceOr, Nat.reduceBNe, Int.reduceToNat, Nat.reduceSub, Int.reduceLE, Int.reduceLT] at hv
  simp only [En.at_nil, En.at_cons, En.ag_nil, En.ag_cons, and_true, tlFa, glFar, tyInt, tyI64, tyBool, tyStr, tyStrs, tyErr, tyNode, tyNodes, tyDef, tyDefs] at hT hG
  have il : inr .i64 (l.length : Int) := by simp only [En.inr, En.lo, En.hi]; omega
  have ids : inr .i64 (ds.length : Int) := by simp only [En.inr, En.lo, En.hi]; omega
  simp (maxSteps := 10000000) only [En.E, En.evsC, List.map_cons, List.map_nil, Nat.reduceBEq, Nat.reduceAdd, Nat.reduceMul, Nat.reduceEqDiff, Nat.reduceLeDiff, Nat.reduceLT, ne_eq, reduceCtorEq, Int.reduceBEq, Int.reduceBNe, Int.reduceAdd, Int.reduceSub, Int.reduceMul, Int.reduceTDiv, Int.reduceTMod, Int.reduceNeg, En.bitN, Nat.testBit, Nat.reduceShiftRight, Nat.reduceShiftLeft, Nat.reduceAnd, Nat.reduceOr, Nat.reduceBNe, Int.reduceToNat, Nat.reduceSub, Int.reduceLE, Int.reduceLT, En.vV, hs, hv, hT, hG, hF, rxH]
  refine hI {i : Nat // i ≤ min ds.length 25 ∧ ∀ j, j < i → farB (dfAt ds j) = false} (fun x => ⟨[(0, .g 1000 A ds.length c), (1, .g 1003 B l.length d), (5, .v (.int .i64 x.1))], rxH ds A c l B d, 30000⟩) (fun x => ds.length - x.1) _ _ _ ⟨0, Nat.zero_le _, fun j hj => absurd hj (Nat.not_lt_zero j)⟩ (sle_all [1003, 1000, 1001] (by decide) (by simp only [En.E, En.evsC, List.map_cons, List.map_nil, Nat.reduceBEq, Nat.reduceAdd, Nat.reduceMul, Nat.reduceEqDiff, Nat.reduceLeDiff, Nat.reduceLT, ne_eq, reduceCtorEq, Int.reduceBEq, Int.reduceBNe, Int.reduceAdd, Int.reduceSub, Int.reduceMul, Int.reduceTDiv, Int.reduceTMod, Int.reduceNeg, En.bitN, Nat.testBit, Nat.reduceShiftRight, Nat.reduceShiftLeft, Nat.reduceAnd, Nat.reduceOr, Nat.reduceBNe, Int.reduceToNat, Nat.reduceSub, Int.reduceLE, Int.reduceLT, En.slLe, En.hpLe, En.chE, En.allLt, rxH, dfH, dfD, Int.cast_ofNat_Int])) ?_
  rintro ⟨i, hi, hp⟩
  have last : (∀ j, j < min ds.length 25 → farB (dfAt ds j) = false) → q = farL ds.length l := by
    intro hj
    have : ((List.range (min ds.length 25)).any fun i => farB (dfAt ds i)) = false := by
      rw [List.any_eq_false]
      intro j hm
      rw [hj j (List.mem_range.1 hm)]; simp
    rw [hq, farV, this]; rfl
  have tail : ∀ (hI' : i = min ds.length 25), q = farL ds.length l := fun hI' => last (by rw [← hI']; exact hp)
  by_cases hlt : i < ds.length
  · have d1 : decide ((i : Int) < (ds.length : Int)) = true := decide_eq_true (by omega)
    by_cases h25 : i < 25
    · have d2 : decide ((i : Int) < 25) = true := decide_eq_true (by omega)
      have i1 : inr .i64 ((i : Int) + 1) := by simp only [En.inr, En.lo, En.hi]; omega
      have g1 : (0 : Int) ≤ i ∧ (i : Int) < ds.length := by omega
      have g2 : (0 : Int) ≤ i ∧ i < ds.length := by omega
      have hA : ¬A = none := slok_some h.2.1.1.1 (by omega)
      obtain ⟨o1, o2, o3⟩ := hd i hlt
      have i2 : inr .i64 ((dfAt ds i).body.length : Int) := by simp only [En.inr, En.lo, En.hi]; omega
      have i3 : inr .i64 ((dfAt ds i).np : Int) := by simp only [En.inr, En.lo, En.hi]; omega
      refine hW _ _ _ (sle_hp (hp := (1002, .recs (dfAt ds i).bA (dfAt ds i).bc 7 (dfAt ds i).body.length fun r => ndC (ndAt (dfAt ds i).body r)) :: _) (fun w0 O w H => hh_deep (kD := 1001) (kR := 1002) (i := i) rfl hlt rfl (by decide) H) fun k hk hn => ?_) ?_
      · have : (1002 == k) = false := by simp only [] at hk; simp; omega
        simp only [lookH, this, cond_false]; exact hn
      refine hR 1000 _ _ ?_
      have yes : farB (dfAt ds i) = true → q = true := by
        intro hb
        have : ((List.range (min ds.length 25)).any fun i => farB (dfAt ds i)) = true := by
          rw [List.any_eq_true]; exact ⟨i, List.mem_range.2 (by omega), hb⟩
        rw [hq, farV, this]; rfl
      cases d3 : decide (((dfAt ds i).body.length : Int) > 60) with
      | true =>
        have hqq := yes (by rw [farB, d3]; rfl)
        simp (maxSteps := 10000000) only [En.E, En.evsC, List.map_cons, List.map_nil, Nat.reduceBEq, Nat.reduceAdd, Nat.reduceMul, Nat.reduceEqDiff, Nat.reduceLeDiff, Nat.reduceLT, ne_eq, reduceCtorEq, Int.reduceBEq, Int.reduceBNe, Int.reduceAdd, Int.reduceSub, Int.reduceMul, Int.reduceTDiv, Int.reduceTMod, Int.reduceNeg, En.bitN, Nat.testBit, Nat.reduceShiftRight, Nat.reduceShiftLeft, Nat.reduceAnd, Nat.reduceOr, Nat.reduceBNe, Int.reduceToNat, Nat.reduceSub, Int.reduceLE, Int.reduceLT, En.vV, hs, hv, hT, hG, hF, rxH, dfH, dfD, d1, d2, d3, i1, i2, i3, g1, g2, hA, dfC_n, spWide_q, NdR_q, chL_q, o1, o2, Int.toNat_natCast, hqq, Bool.false_eq_true]
      | false =>
        cases d4 : decide (((dfAt ds i).np : Int) > 5) with
        | true =>
          have hqq := yes (by rw [farB, d3, d4]; rfl)
          simp (maxSteps := 10000000) only [En.E, En.evsC, List.map_cons, List.map_nil, Nat.reduceBEq, Nat.reduceAdd, Nat.reduceMul, Nat.reduceEqDiff, Nat.reduceLeDiff, Nat.reduceLT, ne_eq, reduceCtorEq, Int.reduceBEq, Int.reduceBNe, Int.reduceAdd, Int.reduceSub, Int.reduceMul, Int.reduceTDiv, Int.reduceTMod, Int.reduceNeg, En.bitN, Nat.testBit, Nat.reduceShiftRight, Nat.reduceShiftLeft, Nat.reduceAnd, Nat.reduceOr, Nat.reduceBNe, Int.reduceToNat, Nat.reduceSub, Int.reduceLE, Int.reduceLT, En.vV, hs, hv, hT, hG, hF, rxH, dfH, dfD, d1, d2, d3, d4, i1, i2, i3, g1, g2, hA, dfC_n, spWide_q, NdR_q, chL_q, o1, o2, Int.toNat_natCast, hqq, Bool.false_eq_true]
        | false =>
          cases d5 : wideV (dfAt ds i).body with
          | true =>
            have hqq := yes (by rw [farB, d3, d4, d5]; rfl)
            simp (maxSteps := 10000000) only [En.E, En.evsC, List.map_cons, List.map_nil, Nat.reduceBEq, Nat.reduceAdd, Nat.reduceMul, Nat.reduceEqDiff, Nat.reduceLeDiff, Nat.reduceLT, ne_eq, reduceCtorEq, Int.reduceBEq, Int.reduceBNe, Int.reduceAdd, Int.reduceSub, Int.reduceMul, Int.reduceTDiv, Int.reduceTMod, Int.reduceNeg, En.bitN, Nat.testBit, Nat.reduceShiftRight, Nat.reduceShiftLeft, Nat.reduceAnd, Nat.reduceOr, Nat.reduceBNe, Int.reduceToNat, Nat.reduceSub, Int.reduceLE, Int.reduceLT, En.vV, hs, hv, hT, hG, hF, rxH, dfH, dfD, d1, d2, d3, d4, d5, i1, i2, i3, g1, g2, hA, dfC_n, spWide_q, NdR_q, chL_q, o1, o2, Int.toNat_natCast, hqq, Bool.false_eq_true]
          | false =>
            have hno : farB (dfAt ds i) = false := by rw [farB, d3, d4, d5]; rfl
            simp (maxSteps := 10000000) only [En.E, En.evsC, List.map_cons, List.map_nil, Nat.reduceBEq, Nat.reduceAdd, Nat.reduceMul, Nat.reduceEqDiff, Nat.reduceLeDiff, Nat.reduceLT, ne_eq, reduceCtorEq, Int.reduceBEq, Int.reduceBNe, Int.reduceAdd, Int.reduceSub, Int.reduceMul, Int.reduceTDiv, Int.reduceTMod, Int.reduceNeg, En.bitN, Nat.testBit, Nat.reduceShiftRight, Nat.reduceShiftLeft, Nat.reduceAnd, Nat.reduceOr, Nat.reduceBNe, Int.reduceToNat, Nat.reduceSub, Int.reduceLE, Int.reduceLT, En.vV, hs, hv, hT, hG, hF, rxH, dfH, dfD, d1, d2, d3, d4, d5, i1, i2, i3, g1, g2, hA, dfC_n, spWide_q, NdR_q, chL_q, o1, o2, Int.toNat_natCast, Bool.false_eq_true]
            refine ⟨⟨i + 1, by omega, fun j hj => ?_⟩, (sle_all [1003, 1000, 1001] (by decide) (by simp only [En.E, En.evsC, List.map_cons, List.map_nil, Nat.reduceBEq, Nat.reduceAdd, Nat.reduceMul, Nat.reduceEqDiff, Nat.reduceLeDiff, Nat.reduceLT, ne_eq, reduceCtorEq, Int.reduceBEq, Int.reduceBNe, Int.reduceAdd, Int.reduceSub, Int.reduceMul, Int.reduceTDiv, Int.reduceTMod, Int.reduceNeg, En.bitN, Nat.testBit, Nat.reduceShiftRight, Nat.reduceShiftLeft, Nat.reduceAnd, Nat.reduceOr, Nat.reduceBNe, Int.reduceToNat, Nat.reduceSub, Int.reduceLE, Int.reduceLT, En.slLe, En.hpLe, En.chE, En.allLt, rxH, dfH, dfD, Int.natCast_add, Int.cast_ofNat_Int])), by simp only; omega⟩
            by_cases e : j = i
            · rw [e]; exact hno
            · exact hp j (by omega)
    · have d2 : decide ((i : Int) < 25) = false := decide_eq_false (by omega)
      have hqq := tail (by omega)
      refine hR 1000 _ _ ?_
      rw [farL] at hqq
      cases d3 : decide ((ds.length : Int) > 18) with
      | true =>
        rw [d3] at hqq
        simp (maxSteps := 10000000) only [En.E, En.evsC, List.map_cons, List.map_nil, Nat.reduceBEq, Nat.reduceAdd, Nat.reduceMul, Nat.reduceEqDiff, Nat.reduceLeDiff, Nat.reduceLT, ne_eq, reduceCtorEq, Int.reduceBEq, Int.reduceBNe, Int.reduceAdd, Int.reduceSub, Int.reduceMul, Int.reduceTDiv, Int.reduceTMod, Int.reduceNeg, En.bitN, Nat.testBit, Nat.reduceShiftRight, Nat.reduceShiftLeft, Nat.reduceAnd, Nat.reduceOr, Nat.reduceBNe, Int.reduceToNat, Nat.reduceSub, Int.reduceLE, Int.reduceLT, En.vV, hs, hv, hT, hG, hF, rxH, d1, d2, d3, il, ids, spWide_q, NdR_q, chL_q, hlen, hz, hqq, Bool.false_eq_true]
      | false => exact absurd (of_decide_eq_false d3) (by omega)
  · have d1 : decide ((i : Int) < (ds.length : Int)) = false := decide_eq_false (by omega)
    have hqq := tail (by omega)
    refine hR 1000 _ _ ?_
    rw [farL] at hqq
    cases d3 : decide ((ds.length : Int) > 18) with
    | true =>
      rw [d3] at hqq
      simp (maxSteps := 10000000) only [En.E, En.evsC, List.map_cons, List.map_nil, Nat.reduceBEq, Nat.reduceAdd, Nat.reduceMul, Nat.reduceEqDiff, Nat.reduceLeDiff, Nat.reduceLT, ne_eq, reduceCtorEq, Int.reduceBEq, Int.reduceBNe, Int.reduceAdd, Int.reduceSub, Int.reduceMul, Int.reduceTDiv, Int.reduceTMod, Int.reduceNeg, En.bitN, Nat.testBit, Nat.reduceShiftRight, Nat.reduceShiftLeft, Nat.reduceAnd, Nat.reduceOr, Nat.reduceBNe, Int.reduceToNat, Nat.reduceSub, Int.reduceLE, Int.reduceLT, En.vV, hs, hv, hT, hG, hF, rxH, d1, d3, il, ids, spWide_q, NdR_q, chL_q, hlen, hz, hqq, Bool.false_eq_true]
    | false =>
      rw [d3] at hqq
      cases d4 : decide ((l.length : Int) > 450) with
      | true =>
        rw [d4] at hqq
        simp (maxSteps := 10000000) only [En.E, En.evsC, List.map_cons, List.map_nil, Nat.reduceBEq, Nat.reduceAdd, Nat.reduceMul, Nat.reduceEqDiff, Nat.reduceLeDiff, Nat.reduceLT, ne_eq, reduceCtorEq, Int.reduceBEq, Int.reduceBNe, Int.reduceAdd, Int.reduceSub, Int.reduceMul, Int.reduceTDiv, Int.reduceTMod, Int.reduceNeg, En.bitN, Nat.testBit, Nat.reduceShiftRight, Nat.reduceShiftLeft, Nat.reduceAnd, Nat.reduceOr, Nat.reduceBNe, Int.reduceToNat, Nat.reduceSub, Int.reduceLE, Int.reduceLT, En.vV, hs, hv, hT, hG, hF, rxH, d1, d3, d4, il, ids, spWide_q, NdR_q, chL_q, hlen, hz, hqq, Bool.false_eq_true]
      | false =>
        rw [d4] at hqq
        simp (maxSteps := 10000000) only [En.E, En.evsC, List.map_cons, List.map_nil, Nat.reduceBEq, Nat.reduceAdd, Nat.reduceMul, Nat.reduceEqDiff, Nat.reduceLeDiff, Nat.reduceLT, ne_eq, reduceCtorEq, Int.reduceBEq, Int.reduceBNe, Int.reduceAdd, Int.reduceSub, Int.reduceMul, Int.reduceTDiv, Int.reduceTMod, Int.reduceNeg, En.bitN, Nat.testBit, Nat.reduceShiftRight, Nat.reduceShiftLeft, Nat.reduceAnd, Nat.reduceOr, Nat.reduceBNe, Int.reduceToNat, Nat.reduceSub, Int.reduceLE, Int.reduceLT, En.vV, hs, hv, hT, hG, hF, rxH, d1, d3, d4, il, ids, spWide_q, NdR_q, chL_q, hlen, hz, hqq, Bool.false_eq_true]
/-- what is not far is small -/
theorem wide_no {l : List Nd} (hl : l.length ≤ 500) (h : wideV l = false) : zsN l ∧ ∀ i, i < l.length → (ndAt l i).nm.size ≤ 100 ∧ (ndAt l i).tx.size ≤ 2000 := by
  have key : ∀ i, i < l.length → (ndAt l i).nm.size ≤ 100 ∧ (ndAt l i).tx.size ≤ 2000 := by
    intro i hi
    have := List.any_eq_false.1 h i (List.mem_range.2 (by omega))
    rw [bigN] at this
    cases d3 : decide (((ndAt l i).nm.size : Int) > 100) with
    | true => rw [d3] at this; exact absurd rfl this
    | false =>
      rw [d3] at this
      have h1 := of_decide_eq_false d3
      have h2 : ¬ ((ndAt l i).tx.size : Int) > 2000 := by simpa using this
      omega
  exact ⟨fun i hi => by have := key i hi; omega, key⟩
theorem farB_no {d : Df} (h : farB d = false) : d.body.length ≤ 60 ∧ zsN d.body ∧ d.np ≤ 5 := by
  rw [farB] at h
  cases d3 : decide ((d.body.length : Int) > 60) with
  | true => rw [d3] at h; cases h
  | false =>
    rw [d3] at h
    cases d4 : decide ((d.np : Int) > 5) with
    | true => rw [d4] at h; cases h
    | false =>
      rw [d4] at h
      have h1 := of_decide_eq_false d3
      have h2 := of_decide_eq_false d4
      exact ⟨by omega, (wide_no (by omega) h).1, by omega⟩
theorem far_no {ds : List Df} {l : List Nd} (h : farV ds l = false) : ds.length ≤ 18 ∧ dfOk ds ∧ l.length ≤ 450 ∧ zsN l := by
  rw [farV] at h
  cases ha : (List.range (min ds.length 25)).any fun i => farB (dfAt ds i) with
  | true => rw [ha] at h; cases h
  | false =>
    rw [ha] at h
    have h : farL ds.length l = false := h
    rw [farL] at h
    cases d3 : decide ((ds.length : Int) > 18) with
    | true => rw [d3] at h; cases h
    | false =>
      rw [d3] at h
      cases d4 : decide ((l.length : Int) > 450) with
      | true => rw [d4] at h; cases h
      | false =>
        rw [d4] at h
        have h1 := of_decide_eq_false d3
        have h2 := of_decide_eq_false d4
        refine ⟨by omega, fun i hi => ?_, by omega, (wide_no (by omega) h).1⟩
        have := farB_no (by simpa using List.any_eq_false.1 ha i (List.mem_range.2 (by omega)))
        exact ⟨by omega, this.2.1, by omega⟩
def dfMo (A : Option Addr) (n c k : Nat) (H : Nat → Ch) : Prop := DfR A n c (H k) (H 1001) ∧ n ≤ 9223372036854775807 ∧ dfM (dsL n (H k) (H 1001))
def spFar : Spc
  | [.g kd A n c, .g k B m d], H, _ => .is (dfMo A n c kd H ∧ NdR B m d (H k) ∧ m ≤ 9223372036854775807 ∧ zsM (chL m (H k))) (.v (.bool (farV (dsL n (H kd) (H 1001)) (chL m (H k)))))
  | [.g kd A n c, .v (.slice none 0 0)], H, _ => .is (dfMo A n c kd H) (.v (.bool (farV (dsL n (H kd) (H 1001)) [])))
  | _, _, _ => .bad
theorem spFar_q {k kd n m c d : Nat} {A B : Option Addr} {H : Nat → Ch} {nx : Nat} : spFar [.g kd A n c, .g k B m d] H nx = .is (dfMo A n c kd H ∧ NdR B m d (H k) ∧ m ≤ 9223372036854775807 ∧ zsM (chL m (H k))) (.v (.bool (farV (dsL n (H kd) (H 1001)) (chL m (H k))))) := rfl
theorem spFar_n {kd n c : Nat} {A : Option Addr} {H : Nat → Ch} {nx : Nat} : spFar [.g kd A n c, .v (.slice none 0 0)] H nx = .is (dfMo A n c kd H) (.v (.bool (farV (dsL n (H kd) (H 1001)) []))) := rfl
theorem spFar_ok : SpecOk Tryz.prog 17 spFar := by
  intro args hp nx w0 O w H hv
  unfold spFar at hv ⊢
  split at hv
  · next kd A n c k B m d =>
    obtain ⟨⟨h1, hn, hd⟩, g1, gn, gz⟩ := hv
    obtain ⟨hl, hh⟩ := DfR_hold h1 (H.hold kd) (H.hold 1001)
    obtain ⟨gl, gg⟩ := NdR_hold g1 (H.hold k)
    generalize dsL n (lookH hp kd) (lookH hp 1001) = ds at hl hh hd ⊢
    generalize chL m (lookH hp k) = l at gl gg gz ⊢
    subst hl
    subst gl
    refine (far_any ds hn hd A c l gn gz B d w ⟨⟨gg _, rfl⟩, ⟨(hh _ 1002).1, rfl⟩, ⟨(hh _ 1002).2, rfl⟩, trivial⟩).mono ?_
    rintro e w' ⟨rfl, hb⟩
    exact ⟨⟨0, none, 0, none, 0, mz⟩, rfl, .still hb⟩
  · next kd A n c =>
    obtain ⟨h1, hn, hd⟩ := hv
    obtain ⟨hl, hh⟩ := DfR_hold h1 (H.hold kd) (H.hold 1001)
    generalize dsL n (lookH hp kd) (lookH hp 1001) = ds at hl hh hd ⊢
    subst hl
    have z : Hold w.heap.size w (.recs none 0 7 ([] : List Nd).length fun i => ndC (ndAt [] i)) := ⟨⟨Nat.le_refl 0, fun h => absurd rfl h⟩, fun i hi => absurd hi (Nat.not_lt_zero i)⟩
    refine (far_any ds hn hd A c [] (Nat.zero_le _) (fun i hi => absurd hi (Nat.not_lt_zero i)) none 0 w ⟨⟨z, rfl⟩, ⟨(hh _ 1002).1, rfl⟩, ⟨(hh _ 1002).2, rfl⟩, trivial⟩).mono ?_
    rintro e w' ⟨rfl, hb⟩
    exact ⟨⟨0, none, 0, none, 0, mz⟩, rfl, .still hb⟩
  · exact hv.elim
def glCe : List (FuncId × Spc) := [(17, spFar), (18, spExpr25), (19, spRExpr), (12, spAwake25)]
theorem glCe_ok : GOk Tryz.prog (lookG glCe) := lG_cons (by kernel_rfl) spFar_ok <| lG_cons (by kernel_rfl) spExpr25_ok <| lG_cons (by kernel_rfl) spRExpr_ok <| lG_cons (by kernel_rfl) spAwake25_ok lG_nil
set_option maxRecDepth 100000 in
set_option maxHeartbeats 4000000 in
theorem costExprs_walk (ds : List Df) (hn : ds.length ≤ 9223372036854775807) (hd : dfM ds) (A : Option Addr) (c : Nat) (l : List Nd) (hlen : l.length ≤ 9223372036854775807) (hz : zsM l) (B : Option Addr) (d : Nat) (bn on cn ba oa ca : Nat) (h4 : 4 ≤ cn) (h3 : 3 ≤ ca) (w : World)
    (h : allRd w.heap.size w (exH ds A c l B d bn on cn ba oa ca)) :
    Calls Tryz.prog 4 #[.slice A ds.length c, .slice B l.length d] w fun e w' => e = .returned (.bool true) ∧ Below w.heap.size w w' := by
  refine calls_go (args := [.g 1000 A ds.length c, .g 1003 B l.length d]) (hp := exH ds A c l B d bn on cn ba oa ca) (nx := 1004) (n := 400) (U := [(1000000, 9)]) (V := []) (tl := tlFa) (gl := glCe) (post := fun s ys => ys = [.v (.bool true)])
    followP tlFa_ok glCe_ok Tryz.func4 rfl (by kernel_rfl) (Nat.le_of_ble_eq_true (by kernel_rfl)) (by kernel_rfl) (by kernel_rfl) (hh_list h) (free_list (by simp [allLt, exH, gHu, gHp])) ?_ ?_
  · rintro s ys w' rfl H
    exact ⟨rfl, H.below⟩
  intro L F T G nd va hE
  obtain ⟨hL, hF, hs, hv, hT, hG, hR, hI, hJ, hW⟩ := hE
  rw [Tryz.results4] at hF
  simp (maxSteps := 1000000) only [En.nN, En.E, En.evsC, List.map_cons, List.map_nil, Nat.reduceBEq, Nat.reduceAdd, Nat.reduceMul, Nat.reduceEqDiff, Nat.reduceLeDiff, Nat.reduceLT, ne_eq, reduceCtorEq, Int.reduceBEq, Int.reduceBNe, Int.reduceAdd, Int.reduceSub, Int.reduceMul, Int.reduceTDiv, Int.reduceTMod, Int.reduceNeg, En.bitN, Nat.testBit, Nat.reduceShiftRight, Nat.reduceShiftLeft, Nat.reduceAnd, Nat.reduceOr, Nat.reduceBNe, Int.reduceToNat, Nat.reduceSub, Int.reduceLE, Int.reduceLT] at hv
  simp only [En.at_nil, En.at_cons, En.ag_nil, En.ag_cons, and_true, tlFa, glCe, tyInt, tyI64, tyBool, tyStr, tyStrs, tyErr, tyNode, tyNodes, tyDef, tyDefs] at hT hG
  cases hf : farV ds l with
  | true =>
    simp (maxSteps := 10000000) only [En.E, En.evsC, List.map_cons, List.map_nil, Nat.reduceBEq, Nat.reduceAdd, Nat.reduceMul, Nat.reduceEqDiff, Nat.reduceLeDiff, Nat.reduceLT, ne_eq, reduceCtorEq, Int.reduceBEq, Int.reduceBNe, Int.reduceAdd, Int.reduceSub, Int.reduceMul, Int.reduceTDiv, Int.reduceTMod, Int.reduceNeg, En.bitN, Nat.testBit, Nat.reduceShiftRight, Nat.reduceShiftLeft, Nat.reduceAnd, Nat.reduceOr, Nat.reduceBNe, Int.reduceToNat, Nat.reduceSub, Int.reduceLE, Int.reduceLT, En.vV, hs, hv, hT, hG, hF, exH, gHu, gHp, spFar_q, dfMo, DfR_q, dsL_q, NdR_q, chL_q, hn, hd, hlen, hz, hf, spAwake25_q, globR_q, globU_q, h4, h3]
  | false =>
    obtain ⟨f1, f2, f3, f4⟩ := far_no hf
    have f5 : ds.length ≤ 100000 := by omega
    have f6 : l.length ≤ 100000 := by omega
    simp (maxSteps := 10000000) only [En.E, En.evsC, List.map_cons, List.map_nil, Nat.reduceBEq, Nat.reduceAdd, Nat.reduceMul, Nat.reduceEqDiff, Nat.reduceLeDiff, Nat.reduceLT, ne_eq, reduceCtorEq, Int.reduceBEq, Int.reduceBNe, Int.reduceAdd, Int.reduceSub, Int.reduceMul, Int.reduceTDiv, Int.reduceTMod, Int.reduceNeg, En.bitN, Nat.testBit, Nat.reduceShiftRight, Nat.reduceShiftLeft, Nat.reduceAnd, Nat.reduceOr, Nat.reduceBNe, Int.reduceToNat, Nat.reduceSub, Int.reduceLE, Int.reduceLT, En.vV, hs, hv, hT, hG, hF, exH, gHu, gHp, spFar_q, dfMo, DfR_q, dsL_q, NdR_q, chL_q, hn, hd, hlen, hz, hf, spAwake25_q, globR_q, globU_q, h4, h3, spExpr25_q, dfCo, ckR, f2, f4, f5, f6, spRExpr_q, rexCo, exprV_eq]
end Pr
end Go.Proofs.YtapgddiocdcaeaaGreatDoor
