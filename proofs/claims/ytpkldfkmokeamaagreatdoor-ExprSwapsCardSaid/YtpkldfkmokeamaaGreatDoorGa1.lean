/-
expr.grow, walked: what belongs to each node (chapter 15).
-/
import Derived.Test.YtpkldfkmokeamaaGreatDoorNb1
set_option linter.unusedSimpArgs false
set_option linter.unusedVariables false
namespace Go.Proofs.YtpkldfkmokeamaaGreatDoor
namespace Pr
open Go Go.RowKit En
open Ex
def tlGr : List (TypeId × TI) := [tyInt, tyI64, tyBool, tyStr, tyErr, tyNode, tyNodes, tyInts, tyRows, tyBools, tyTree]
theorem tlGr_ok : TyAll Tryz.prog (lookT tlGr) := tyAll_p tyInt_ok <| tyAll_p tyI64_ok <| tyAll_p tyBool_ok <| tyAll_p tyStr_ok <| tyAll_p tyErr_ok <| tyAll_p tyNode_ok <| tyAll_p tyNodes_ok <| tyAll_p tyInts_ok <| tyAll_p tyRows_ok <| tyAll_p tyBools_ok <| tyAll_p tyTree_ok tyAll_nil
def glGr : List (FuncId × Spc) := [(67, spRest)]
theorem glGr_ok : GOk Tryz.prog (lookG glGr) := lG_cons (by kernel_rfl) spRest_ok lG_nil
def numTo (l : List Nd) (i j : Nat) : Bool := (List.range i).any fun a => decide (a < j) && decide (j ≤ a + Ks l a)
theorem numTo_zero (l : List Nd) (j : Nat) : numTo l 0 j = false := rfl
theorem numTo_succ (l : List Nd) (i j : Nat) : numTo l (i + 1) j = (numTo l i j || (decide (i < j) && decide (j ≤ i + Ks l i))) := by
  simp [numTo, List.range_succ]
theorem numTo_skip {l : List Nd} {i : Nat} (h : Ks l i = 0) (j : Nat) : numTo l (i + 1) j = numTo l i j := by
  rw [numTo_succ, h]
  have : (decide (i < j) && decide (j ≤ i + 0)) = false := by
    rw [Bool.and_eq_false_iff]
    by_cases h : i < j
    · right; simp; omega
    · left; simpa using h
  rw [this, Bool.or_false]
theorem nd_eta (d : Nd) : (⟨d.k, d.p, d.c, d.nm, d.tx, d.n, d.s⟩ : Nd) = d := rfl
theorem slok_some {w : World} {A : Option Addr} {c z n : Nat} {f : Nat → Nat → Value} (h : SlOk w A c z n f) (hn : n ≠ 0) : ¬A = none := by
  obtain ⟨b, o, rfl, _⟩ := h.2 hn
  exact fun h => by cases h
def eV (l : List Nd) (r j : Nat) : SV := .v (.int .i64 ((if r ≤ j then EndP l.length (Ms l) (Ks l) j else 0 : Nat) : Int))
def dV (l : List Nd) (r j : Nat) : SV := .v (.int .i64 ((if r ≤ j then Dep l.length (Ms l) (Ks l) j else 0 : Nat) : Int))
def mN (l : List Nd) (r j : Nat) : Nat := if r ≤ j ∧ j < l.length then (kidsP l.length (Ms l) (Ks l) j).length else 0
def kV (l : List Nd) (r : Nat) (B : Nat → Option Addr) (cp : Nat → Nat) (j : Nat) : SV := if mN l r j = 0 then .v (.slice none 0 0) else .v (.slice (B j) (mN l r j) (cp j))
def nV (l : List Nd) (j : Nat) : SV := .v (.bool (numTo l l.length j))
theorem eV_n (l : List Nd) : tabS l.length (eV l l.length) = tabS l.length fun _ => .v (.int .i64 0) := tab_congr fun j hj => by rw [eV, if_neg (by omega)]; rfl
theorem dV_n (l : List Nd) : tabS l.length (dV l l.length) = tabS l.length fun _ => .v (.int .i64 0) := tab_congr fun j hj => by rw [dV, if_neg (by omega)]; rfl
theorem mN_n (l : List Nd) : mN l l.length = fun _ => 0 := funext fun j => if_neg (by omega)
theorem kV_n (l : List Nd) (B : Nat → Option Addr) (cp : Nat → Nat) : tabS l.length (kV l l.length B cp) = tabS l.length fun _ => .v (.slice none 0 0) := tab_congr fun j hj => by rw [kV, mN_n, if_pos rfl]
theorem nV_n (l : List Nd) : tabS l.length (nV l) = tabS l.length fun j => .v (.bool (numTo l l.length j)) := tab_congr fun j hj => rfl
theorem hh_deep0 {O : Nat → Prop} {w0 w : World} {hp : Hp} {kD n z : Nat} {own : Bool} {A : Nat → Option Addr} {c : Nat → Nat} {f : Nat → Nat → List SV} (H : HH w0 O hp w) : HH w0 O ((kD, .deep own n z A c (fun _ => 0) f) :: hp) w := by
  have lk : ∀ j, lookH ((kD, Ch.deep own n z A c (fun _ => 0) f) :: hp) j = if kD = j then .deep own n z A c (fun _ => 0) f else lookH hp j := by
    intro j
    simp only [lookH]
    by_cases h : kD = j
    · simp [h]
    · have e : (kD == j) = false := by simpa using h
      rw [e, if_neg h]; rfl
  refine ⟨H.below, fun k b hb => ?_, fun k => ?_, fun k j hkj hmk b hb => ?_⟩
  · rw [lk] at hb
    split at hb
    · obtain ⟨_, _, h, _⟩ := hb; exact absurd rfl h
    · exact H.old k b hb
  · rw [lk]
    split
    · exact fun i _ => ⟨⟨⟨Nat.zero_le _, fun h => absurd rfl h⟩, fun r hr => absurd hr (Nat.not_lt_zero _)⟩, fun _ h => absurd rfl h⟩
    · exact H.hold k
  · rw [lk] at hmk hb ⊢
    split at hmk
    · cases hmk
    · next h1 =>
      rw [if_neg h1] at hb
      split
      · rintro ⟨_, _, h, _⟩; exact h rfl
      · exact H.sep k j hkj hmk b hb
theorem eV_in {l : List Nd} {r j : Nat} (h : r ≤ j) : eV l r j = .v (.int .i64 (EndP l.length (Ms l) (Ks l) j)) := by rw [eV, if_pos h]
theorem dV_in {l : List Nd} {r j : Nat} (h : r ≤ j) : dV l r j = .v (.int .i64 (Dep l.length (Ms l) (Ks l) j)) := by rw [dV, if_pos h]
theorem dV_out {l : List Nd} {r j : Nat} (h : j < r) : dV l r j = .v (.int .i64 0) := by rw [dV, if_neg (by omega)]; rfl
theorem kV_out {l : List Nd} {r j : Nat} {B : Nat → Option Addr} {cp : Nat → Nat} (h : j < r) : kV l r B cp j = .v (.slice none 0 0) := if_pos (if_neg (by omega))
def kF (l : List Nd) (j q : Nat) : List SV := cut ((kidsP l.length (Ms l) (Ks l) j).map fun p : Nat => SV.v (.int .i64 (p : Int))) (q * 1) 1
theorem updF_idem {α : Type} (f : Nat → α) (i : Nat) (x y : α) : updF (updF f i x) i y = updF f i y := by
  funext j
  by_cases e : j = i
  · rw [e, updF_same, updF_same]
  · rw [updF_ne e, updF_ne e, updF_ne e]
theorem e_put {l : List Nd} {i : Nat} {x : Int} (h : x = (EndP l.length (Ms l) (Ks l) i : Int)) : tabS l.length (updF (eV l (i + 1)) i (.v (.int .i64 x))) = tabS l.length (eV l i) := by
  refine tab_congr fun j _ => ?_
  by_cases e : j = i
  · rw [e, updF_same, eV_in (Nat.le_refl i), h]
  · simp only [updF_ne e, eV, show (i + 1 ≤ j) = (i ≤ j) from propext (by omega)]
theorem d_put {l : List Nd} {i : Nat} {x : Int} (h : x = (Dep l.length (Ms l) (Ks l) i : Int)) : tabS l.length (updF (dV l (i + 1)) i (.v (.int .i64 x))) = tabS l.length (dV l i) := by
  refine tab_congr fun j _ => ?_
  by_cases e : j = i
  · rw [e, updF_same, dV_in (Nat.le_refl i), h]
  · simp only [updF_ne e, dV, show (i + 1 ≤ j) = (i ≤ j) from propext (by omega)]
theorem m_skip {l : List Nd} {i : Nat} (h : kidsP l.length (Ms l) (Ks l) i = []) : mN l (i + 1) = mN l i := by
  funext j
  by_cases e : j = i
  · rw [e, mN, mN, if_neg (by omega), h]; split <;> rfl
  · simp only [mN, show (i + 1 ≤ j) = (i ≤ j) from propext (by omega)]
theorem k_skip {l : List Nd} {i : Nat} (h : kidsP l.length (Ms l) (Ks l) i = []) (B : Nat → Option Addr) (cp : Nat → Nat) : kV l (i + 1) B cp = kV l i B cp := by
  funext j; rw [kV, kV, m_skip h]
theorem m_put {l : List Nd} {i m : Nat} (hi : i < l.length) (h : m = (kidsP l.length (Ms l) (Ks l) i).length) : updF (mN l (i + 1)) i m = mN l i := by
  funext j
  by_cases e : j = i
  · rw [e, updF_same, mN, if_pos ⟨Nat.le_refl i, hi⟩, h]
  · simp only [updF_ne e, mN, show (i + 1 ≤ j) = (i ≤ j) from propext (by omega)]
theorem k_put {l : List Nd} {i m k : Nat} {A : Option Addr} {c : Nat} {B : Nat → Option Addr} {cp : Nat → Nat} (hi : i < l.length) (h : m = (kidsP l.length (Ms l) (Ks l) i).length) (h0 : m ≠ 0) :
    dens (tabS l.length (updF (kV l (i + 1) B cp) i (.g k A m c))) = dens (tabS l.length (kV l i (updF B i A) (updF cp i c))) := by
  refine tab_dens fun j _ => ?_
  by_cases e : j = i
  · subst e
    have hm : mN l j j = m := by rw [mN, if_pos ⟨Nat.le_refl j, hi⟩, h]
    rw [updF_same, kV, hm, if_neg h0, updF_same, updF_same]; rfl
  · simp only [updF_ne e, kV, mN, show (i + 1 ≤ j) = (i ≤ j) from propext (by omega)]
theorem f_put {l : List Nd} {i : Nat} {cs : List SV} (h : cs = (kidsP l.length (Ms l) (Ks l) i).map fun p : Nat => SV.v (.int .i64 (p : Int))) : updF (kF l) i (fun q => cut cs (q * 1) 1) = kF l := by
  funext j
  by_cases e : j = i
  · rw [e, updF_same, h]; rfl
  · rw [updF_ne e]
section
variable (l : List Nd) (A : Option Addr) (c bT bE bD bK bN : Nat)
def trC : List SV := [.gp 1002 bE 0 l.length l.length, .gp 1003 bD 0 l.length l.length, .gp 1004 bK 0 l.length l.length, .gp 1005 bN 0 l.length l.length]
def grH (fE fD fK fN : Nat → SV) : Hp :=
  [(1000, .recs A c 7 l.length (fun i => ndC (ndAt l i))), (1001, .blk bT (trC l bE bD bK bN) 55), (1002, .blk bE (tabS l.length fE) 3), (1003, .blk bD (tabS l.length fD) 3), (1004, .blk bK (tabS l.length fK) 31), (1005, .blk bN (tabS l.length fN) 4)]
def grI (i : Nat) : SS :=
  ⟨[(0, .g 1000 A l.length c), (2, .p 1001 bT 0), (3, .v (.bool false)), (4, .v (.int .i64 l.length)), (23, .g 1000 A l.length c), (24, .v (.int .i64 l.length)), (25, .v (.int .i64 i))],
   grH l A c bT bE bD bK bN (fun _ => .v (.int .i64 0)) (fun _ => .v (.int .i64 0)) (fun _ => .v (.slice none 0 0)) (fun j => .v (.bool (numTo l i j))), 200000⟩
def grJ (i k : Nat) (b6 : Nat) : SS :=
  ⟨[(0, .g 1000 A l.length c), (2, .p 1001 bT 0), (3, .v (.bool false)), (4, .v (.int .i64 l.length)), (5, .v (.int .i64 i)), (6, .p 1006 b6 0), (7, .v (.int .i64 k)), (23, .g 1000 A l.length c), (24, .v (.int .i64 l.length)), (25, .v (.int .i64 i))],
   (1006, .blk b6 (ndC (ndAt l i)) 38) :: grH l A c bT bE bD bK bN (fun _ => .v (.int .i64 0)) (fun _ => .v (.int .i64 0)) (fun _ => .v (.slice none 0 0)) (fun j => .v (.bool (numTo l i j || (decide (i < j) && decide (j < k))))), 200000⟩
def grM (r : Nat) (ms : Bool) (B : Nat → Option Addr) (cp : Nat → Nat) : SS :=
  ⟨[(0, .g 1000 A l.length c), (2, .p 1001 bT 0), (3, .v (.bool ms)), (4, .v (.int .i64 l.length)), (8, .v (.int .i64 ((r : Int) - 1)))],
   (1006, .deep true l.length 1 B cp (mN l r) (kF l)) :: grH l A c bT bE bD bK bN (eV l r) (dV l r) (kV l r B cp) (nV l), 200000⟩
theorem tabS_first (n i : Nat) (f : Nat → Bool) : tabS n (fun j => .v (.bool (f j || (decide (i < j) && decide (j < i + 1))))) = tabS n fun j => .v (.bool (f j)) := by
  refine tab_congr fun j _ => ?_
  have : (decide (i < j) && decide (j < i + 1)) = false := by
    rw [Bool.and_eq_false_iff]
    by_cases h : i < j
    · right; simp; omega
    · left; simpa using h
  rw [this, Bool.or_false]
theorem tabS_put {i k : Nat} (h : i < k) (n : Nat) (f : Nat → Bool) : tabS n (updF (fun j => .v (.bool (f j || (decide (i < j) && decide (j < k))))) k (.v (.bool true))) = tabS n fun j => .v (.bool (f j || (decide (i < j) && decide (j < k + 1)))) := by
  refine tab_congr fun j _ => ?_
  by_cases e : j = k
  · subst e
    rw [updF_same]
    simp [h]
  · rw [updF_ne e]
    have : decide (j < k) = decide (j < k + 1) := by rw [decide_eq_decide]; omega
    rw [this]
theorem tabS_end (l : List Nd) (n i : Nat) : tabS n (fun j => .v (.bool (numTo l i j || (decide (i < j) && decide (j < i + 1 + Ks l i))))) = tabS n fun j => .v (.bool (numTo l (i + 1) j)) := by
  refine tab_congr fun j _ => ?_
  have : decide (j < i + 1 + Ks l i) = decide (j ≤ i + Ks l i) := by rw [decide_eq_decide]; omega
  rw [numTo_succ, this]
end
theorem free_row {kD kR nx : Nat} {c c' : Ch} {hp : Hp} (h1 : kD < nx) (h2 : kR < nx) : ∀ k, nx ≤ k → lookH hp k = .no → lookH ((kD, c) :: (kR, c') :: hp) k = .no := by
  intro k hk hn
  have e1 : (kD == k) = false := by simp; omega
  have e2 : (kR == k) = false := by simp; omega
  simp only [lookH, e1, e2, cond_false]; exact hn
theorem sle_snoc {s : SS} {kD kR n z i m' c' : Nat} {e : TypeId} {A' : Option Addr} {cs : List SV} {A : Nat → Option Addr} {c m : Nat → Nat} {f : Nat → Nat → List SV} (hD : lookH s.hp kD = .deep true n z A c m f) (hR : lookH s.hp kR = .rowV A' c' e z m' cs) (hi : i < n) (hl : cs.length = m' * z) (hne : kR ≠ kD) (h1 : kD < s.nx) (h2 : kR < s.nx) :
    SLe s ⟨s.sl, (kD, .deep true n z (updF A i A') (updF c i c') (updF m i m') (updF f i fun r => cut cs (r * z) z)) :: (kR, .no) :: s.hp, s.nx⟩ :=
  sle_hp (fun _ _ _ H => hh_snoc hD hR hi hl hne H) (free_row h1 h2)
def grT (l : List Nd) (bE bD bK bN : Nat) (ms : Bool) : List SV :=
  [.agg [.gp 1002 bE 0 l.length l.length, .gp 1003 bD 0 l.length l.length, .gp 1004 bK 0 l.length l.length, .gp 1005 bN 0 l.length l.length], .v (.bool ms)]
def grPost (l : List Nd) (s : SS) (ys : List SV) : Prop := ∃ bE bD bK bN ms B cp, ys = grT l bE bD bK bN ms ∧
  lookH s.hp 1002 = .blk bE (tabS l.length (eV l 0)) 3 ∧ lookH s.hp 1003 = .blk bD (tabS l.length (dV l 0)) 3 ∧ lookH s.hp 1004 = .blk bK (tabS l.length (kV l 0 B cp)) 31 ∧ lookH s.hp 1005 = .blk bN (tabS l.length (nV l)) 4 ∧
  lookH s.hp 1006 = .deep true l.length 1 B cp (mN l 0) (kF l)
set_option maxRecDepth 100000 in
set_option maxHeartbeats 4000000 in
theorem grow_any (l : List Nd) (hg : Good l) (A : Option Addr) (c : Nat) (w : World) (h : Hold w.heap.size w (.recs A c 7 l.length (fun i => ndC (ndAt l i)))) :
    Calls Tryz.prog 58 #[.slice A l.length c] w fun e w' => ∃ bE bD bK bN ms B cp, e = .returned (den (.tup (grT l bE bD bK bN ms))) ∧ Below w.heap.size w w' ∧
      Hold w.heap.size w' (.blk bE (tabS l.length (eV l 0)) 3) ∧ Hold w.heap.size w' (.blk bD (tabS l.length (dV l 0)) 3) ∧ Hold w.heap.size w' (.blk bK (tabS l.length (kV l 0 B cp)) 31) ∧ Hold w.heap.size w' (.blk bN (tabS l.length (nV l)) 4) ∧
      Hold w.heap.size w' (.deep true l.length 1 B cp (mN l 0) (kF l)) := by
  have hlen := hg.len
  refine calls_go (args := [.g 1000 A l.length c]) (hp := [(1000, .recs A c 7 l.length (fun i => ndC (ndAt l i)))]) (nx := 1001) (n := 4000) (U := [(21, 3), (1000000, 84)]) (V := [(24, ([(10, 206144)], [(1, [206144]), (4, [206144])]))]) (tl := tlGr) (gl := glGr) (post := grPost l)
    followP tlGr_ok glGr_ok Tryz.func58 rfl (by kernel_rfl) (Nat.le_of_ble_eq_true (by kernel_rfl)) (by kernel_rfl) (by kernel_rfl) (hh_list ⟨⟨h, rfl⟩, trivial⟩) (free_list (by simp [allLt])) ?_ ?_
  · rintro s ys w' ⟨bE, bD, bK, bN, ms, B, cp, rfl, q1, q2, q3, q4, q5⟩ H
    exact ⟨bE, bD, bK, bN, ms, B, cp, rfl, H.below, q1 ▸ H.hold 1002, q2 ▸ H.hold 1003, q3 ▸ H.hold 1004, q4 ▸ H.hold 1005, q5 ▸ H.hold 1006⟩
  intro L F T G nd va hE
  obtain ⟨hL, hF, hs, hv, hT, hG, hR, hI, hJ, hW⟩ := hE
  rw [Tryz.results58] at hF
  simp (maxSteps := 1000000) only [En.nN, En.E, En.evsC, List.map_cons, List.map_nil, Nat.reduceBEq, Nat.reduceAdd, Nat.reduceMul, Nat.reduceEqDiff, Nat.reduceLeDiff, Nat.reduceLT, ne_eq, reduceCtorEq, Int.reduceBEq, Int.reduceBNe, Int.reduceAdd, Int.reduceSub, Int.reduceMul, Int.reduceTDiv, Int.reduceTMod, Int.reduceNeg, En.bitN, Nat.testBit, Nat.reduceShiftRight, Nat.reduceShiftLeft, Nat.reduceAnd, Nat.reduceOr, Nat.reduceBNe, Int.reduceToNat, Nat.reduceSub, Int.reduceLE, Int.reduceLT] at hv
  simp only [En.at_nil, En.at_cons, En.ag_nil, En.ag_cons, and_true, tlGr, glGr, tyInt, tyI64, tyBool, tyStr, tyErr, tyNode, tyNodes, tyInts, tyRows, tyBools, tyTree] at hT hG
  simp (maxSteps := 10000000) only [En.E, En.evsC, List.map_cons, List.map_nil, Nat.reduceBEq, Nat.reduceAdd, Nat.reduceMul, Nat.reduceEqDiff, Nat.reduceLeDiff, Nat.reduceLT, ne_eq, reduceCtorEq, Int.reduceBEq, Int.reduceBNe, Int.reduceAdd, Int.reduceSub, Int.reduceMul, Int.reduceTDiv, Int.reduceTMod, Int.reduceNeg, En.bitN, Nat.testBit, Nat.reduceShiftRight, Nat.reduceShiftLeft, Nat.reduceAnd, Nat.reduceOr, Nat.reduceBNe, Int.reduceToNat, Nat.reduceSub, Int.reduceLE, Int.reduceLT, En.vV, hs, hv, hT, hG, hF, rep_tab, Int.toNat_natCast]
  intro bT
  refine ⟨by omega, fun bE => ⟨by omega, fun bD => ⟨by omega, fun bK => ⟨by omega, fun bN => ?_⟩⟩⟩⟩
  refine hI {i : Nat // i ≤ l.length} (fun x => grI l A c bT bE bD bK bN x.1) (fun x => l.length - x.1) _ _ _ ⟨0, Nat.zero_le _⟩ (sle_all [1000, 1001, 2025, 3049, 4073, 5097] (by decide) (by simp only [En.E, En.evsC, List.map_cons, List.map_nil, Nat.reduceBEq, Nat.reduceAdd, Nat.reduceMul, Nat.reduceEqDiff, Nat.reduceLeDiff, Nat.reduceLT, ne_eq, reduceCtorEq, Int.reduceBEq, Int.reduceBNe, Int.reduceAdd, Int.reduceSub, Int.reduceMul, Int.reduceTDiv, Int.reduceTMod, Int.reduceNeg, En.bitN, Nat.testBit, Nat.reduceShiftRight, Nat.reduceShiftLeft, Nat.reduceAnd, Nat.reduceOr, Nat.reduceBNe, Int.reduceToNat, Nat.reduceSub, Int.reduceLE, Int.reduceLT, En.slLe, En.hpLe, En.chE, En.allLt, grI, grH, trC, En.dens, En.den, Int.cast_ofNat_Int, numTo_zero])) ?_
  rintro ⟨i, hi⟩
  refine hR 3000 _ _ ?_
  have r1000 : inr .i64 ((i : Int) + 1) := by simp only [En.inr, En.lo, En.hi]; omega
  by_cases hlt : i < l.length
  · have d0 : decide ((i : Int) < (l.length : Int)) = true := decide_eq_true (by omega)
    by_cases h3 : (ndAt l i).k = 3
    · have d1 : ((ndAt l i).k == 3) = true := by rw [h3]; rfl
      obtain ⟨hc0, hc1⟩ := hg.ls i hlt h3
      have hK : (ndAt l i).c = (Ks l i : Int) := by simp only [Ks, Kn, if_pos h3]; omega
      simp (maxSteps := 10000000) only [En.E, En.evsC, List.map_cons, List.map_nil, Nat.reduceBEq, Nat.reduceAdd, Nat.reduceMul, Nat.reduceEqDiff, Nat.reduceLeDiff, Nat.reduceLT, ne_eq, reduceCtorEq, Int.reduceBEq, Int.reduceBNe, Int.reduceAdd, Int.reduceSub, Int.reduceMul, Int.reduceTDiv, Int.reduceTMod, Int.reduceNeg, En.bitN, Nat.testBit, Nat.reduceShiftRight, Nat.reduceShiftLeft, Nat.reduceAnd, Nat.reduceOr, Nat.reduceBNe, Int.reduceToNat, Nat.reduceSub, Int.reduceLE, Int.reduceLT, En.vV, hs, hv, hT, hG, hF, grI, grH, trC, d0, d1, ndC, Int.toNat_natCast, r1000]
      refine ⟨by omega, by omega, fun b => ?_⟩
      refine hI {k : Nat // i + 1 ≤ k ∧ k ≤ i + 1 + Ks l i} (fun x => grJ l A c bT bE bD bK bN i x.1 b) (fun x => i + 1 + Ks l i - x.1) _ _ _ ⟨i + 1, by omega⟩ (sle_all [200000, 1000, 1001, 1002, 1003, 1004, 1005] (by decide) (by simp only [En.E, En.evsC, List.map_cons, List.map_nil, Nat.reduceBEq, Nat.reduceAdd, Nat.reduceMul, Nat.reduceEqDiff, Nat.reduceLeDiff, Nat.reduceLT, ne_eq, reduceCtorEq, Int.reduceBEq, Int.reduceBNe, Int.reduceAdd, Int.reduceSub, Int.reduceMul, Int.reduceTDiv, Int.reduceTMod, Int.reduceNeg, En.bitN, Nat.testBit, Nat.reduceShiftRight, Nat.reduceShiftLeft, Nat.reduceAnd, Nat.reduceOr, Nat.reduceBNe, Int.reduceToNat, Nat.reduceSub, Int.reduceLE, Int.reduceLT, En.slLe, En.hpLe, En.chE, En.allLt, grJ, grH, trC, ndC, En.den, Int.natCast_add, Int.cast_ofNat_Int, tabS_first])) ?_
      rintro ⟨k, hk0, hk1⟩
      refine hR 3000 _ _ ?_
      have i1 : inr .i64 ((i : Int) + (Ks l i : Int)) := by simp only [En.inr, En.lo, En.hi]; omega
      have i2 : inr .i64 ((k : Int) + 1) := by simp only [En.inr, En.lo, En.hi]; omega
      by_cases hkt : k ≤ i + Ks l i
      · have d2 : decide ((k : Int) ≤ (i : Int) + (Ks l i : Int)) = true := decide_eq_true (by omega)
        have hkl : k < l.length := by omega
        simp (maxSteps := 10000000) only [En.E, En.evsC, List.map_cons, List.map_nil, Nat.reduceBEq, Nat.reduceAdd, Nat.reduceMul, Nat.reduceEqDiff, Nat.reduceLeDiff, Nat.reduceLT, ne_eq, reduceCtorEq, Int.reduceBEq, Int.reduceBNe, Int.reduceAdd, Int.reduceSub, Int.reduceMul, Int.reduceTDiv, Int.reduceTMod, Int.reduceNeg, En.bitN, Nat.testBit, Nat.reduceShiftRight, Nat.reduceShiftLeft, Nat.reduceAnd, Nat.reduceOr, Nat.reduceBNe, Int.reduceToNat, Nat.reduceSub, Int.reduceLE, Int.reduceLT, En.vV, hs, hv, hT, hG, hF, grJ, grH, trC, d2, ndC, hK, Int.toNat_natCast, i1, i2, Nat.mul_one, tab_put hkl, tab_lenS, tabS_put (show i < k by omega)]
        refine ⟨by omega, by omega, ⟨k + 1, by omega, by omega⟩, (sle_all [1006, 1000, 1001, 1002, 1003, 1004, 1005] (by decide) (by simp only [En.E, En.evsC, List.map_cons, List.map_nil, Nat.reduceBEq, Nat.reduceAdd, Nat.reduceMul, Nat.reduceEqDiff, Nat.reduceLeDiff, Nat.reduceLT, ne_eq, reduceCtorEq, Int.reduceBEq, Int.reduceBNe, Int.reduceAdd, Int.reduceSub, Int.reduceMul, Int.reduceTDiv, Int.reduceTMod, Int.reduceNeg, En.bitN, Nat.testBit, Nat.reduceShiftRight, Nat.reduceShiftLeft, Nat.reduceAnd, Nat.reduceOr, Nat.reduceBNe, Int.reduceToNat, Nat.reduceSub, Int.reduceLE, Int.reduceLT, En.slLe, En.hpLe, En.chE, En.allLt, Int.natCast_add, Int.cast_ofNat_Int])), by simp only; omega⟩
      · have d2 : decide ((k : Int) ≤ (i : Int) + (Ks l i : Int)) = false := decide_eq_false (by omega)
        obtain rfl : k = i + 1 + Ks l i := by omega
        simp (maxSteps := 10000000) only [En.E, En.evsC, List.map_cons, List.map_nil, Nat.reduceBEq, Nat.reduceAdd, Nat.reduceMul, Nat.reduceEqDiff, Nat.reduceLeDiff, Nat.reduceLT, ne_eq, reduceCtorEq, Int.reduceBEq, Int.reduceBNe, Int.reduceAdd, Int.reduceSub, Int.reduceMul, Int.reduceTDiv, Int.reduceTMod, Int.reduceNeg, En.bitN, Nat.testBit, Nat.reduceShiftRight, Nat.reduceShiftLeft, Nat.reduceAnd, Nat.reduceOr, Nat.reduceBNe, Int.reduceToNat, Nat.reduceSub, Int.reduceLE, Int.reduceLT, En.vV, hs, hv, hT, hG, hF, grJ, grH, trC, d2, ndC, hK, Int.toNat_natCast, i1, r1000, tabS_end]
        exact ⟨⟨i + 1, hlt⟩, (sle_all [1000, 1001, 1002, 1003, 1004, 1005] (by decide) (by simp only [En.E, En.evsC, List.map_cons, List.map_nil, Nat.reduceBEq, Nat.reduceAdd, Nat.reduceMul, Nat.reduceEqDiff, Nat.reduceLeDiff, Nat.reduceLT, ne_eq, reduceCtorEq, Int.reduceBEq, Int.reduceBNe, Int.reduceAdd, Int.reduceSub, Int.reduceMul, Int.reduceTDiv, Int.reduceTMod, Int.reduceNeg, En.bitN, Nat.testBit, Nat.reduceShiftRight, Nat.reduceShiftLeft, Nat.reduceAnd, Nat.reduceOr, Nat.reduceBNe, Int.reduceToNat, Nat.reduceSub, Int.reduceLE, Int.reduceLT, En.slLe, En.hpLe, En.chE, En.allLt, Int.natCast_add, Int.cast_ofNat_Int])), by simp only; omega⟩
    · have d1 : ((ndAt l i).k == 3) = false := by simpa using h3
      have hK : Ks l i = 0 := if_neg h3
      simp (maxSteps := 10000000) only [En.E, En.evsC, List.map_cons, List.map_nil, Nat.reduceBEq, Nat.reduceAdd, Nat.reduceMul, Nat.reduceEqDiff, Nat.reduceLeDiff, Nat.reduceLT, ne_eq, reduceCtorEq, Int.reduceBEq, Int.reduceBNe, Int.reduceAdd, Int.reduceSub, Int.reduceMul, Int.reduceTDiv, Int.reduceTMod, Int.reduceNeg, En.bitN, Nat.testBit, Nat.reduceShiftRight, Nat.reduceShiftLeft, Nat.reduceAnd, Nat.reduceOr, Nat.reduceBNe, Int.reduceToNat, Nat.reduceSub, Int.reduceLE, Int.reduceLT, En.vV, hs, hv, hT, hG, hF, grI, grH, trC, d0, d1, ndC, Int.toNat_natCast, r1000]
      refine ⟨by omega, by omega, fun b => ⟨⟨i + 1, hlt⟩, (sle_all [1000, 1001, 1002, 1003, 1004, 1005] (by decide) (by simp only [En.E, En.evsC, List.map_cons, List.map_nil, Nat.reduceBEq, Nat.reduceAdd, Nat.reduceMul, Nat.reduceEqDiff, Nat.reduceLeDiff, Nat.reduceLT, ne_eq, reduceCtorEq, Int.reduceBEq, Int.reduceBNe, Int.reduceAdd, Int.reduceSub, Int.reduceMul, Int.reduceTDiv, Int.reduceTMod, Int.reduceNeg, En.bitN, Nat.testBit, Nat.reduceShiftRight, Nat.reduceShiftLeft, Nat.reduceAnd, Nat.reduceOr, Nat.reduceBNe, Int.reduceToNat, Nat.reduceSub, Int.reduceLE, Int.reduceLT, En.slLe, En.hpLe, En.chE, En.allLt, Int.natCast_add, Int.cast_ofNat_Int, numTo_skip hK])), by simp only; omega⟩⟩
  · have d0 : decide ((i : Int) < (l.length : Int)) = false := decide_eq_false (by omega)
    have i1 : inr .i64 ((l.length : Int) - 1) := by simp only [En.inr, En.lo, En.hi]; omega
    obtain rfl : i = l.length := by omega
    simp (maxSteps := 10000000) only [En.E, En.evsC, List.map_cons, List.map_nil, Nat.reduceBEq, Nat.reduceAdd, Nat.reduceMul, Nat.reduceEqDiff, Nat.reduceLeDiff, Nat.reduceLT, ne_eq, reduceCtorEq, Int.reduceBEq, Int.reduceBNe, Int.reduceAdd, Int.reduceSub, Int.reduceMul, Int.reduceTDiv, Int.reduceTMod, Int.reduceNeg, En.bitN, Nat.testBit, Nat.reduceShiftRight, Nat.reduceShiftLeft, Nat.reduceAnd, Nat.reduceOr, Nat.reduceBNe, Int.reduceToNat, Nat.reduceSub, Int.reduceLE, Int.reduceLT, En.vV, hs, hv, hT, hG, hF, grI, grH, trC, d0, i1]
    refine hW _ _ _ (sle_hp (hp := (1006, .deep true l.length 1 (fun _ => none) (fun _ => 0) (fun _ => 0) (kF l)) :: _) (fun w0 O w H => hh_deep0 H) fun k hk hn => ?_) ?_
    · have : (1006 == k) = false := by simp only [] at hk; simp; omega
      simp only [lookH, this, cond_false]; exact hn
    refine hI {x : Nat × Bool × (Nat → Option Addr) × (Nat → Nat) // x.1 ≤ l.length} (fun x => grM l A c bT bE bD bK bN x.1.1 x.1.2.1 x.1.2.2.1 x.1.2.2.2) (fun x => x.1.1) _ _ _ ⟨(l.length, false, fun _ => none, fun _ => 0), Nat.le_refl _⟩ (sle_all [1006, 1000, 1001, 1002, 1003, 1004, 1005] (by decide) (by simp only [En.E, En.evsC, List.map_cons, List.map_nil, Nat.reduceBEq, Nat.reduceAdd, Nat.reduceMul, Nat.reduceEqDiff, Nat.reduceLeDiff, Nat.reduceLT, ne_eq, reduceCtorEq, Int.reduceBEq, Int.reduceBNe, Int.reduceAdd, Int.reduceSub, Int.reduceMul, Int.reduceTDiv, Int.reduceTMod, Int.reduceNeg, En.bitN, Nat.testBit, Nat.reduceShiftRight, Nat.reduceShiftLeft, Nat.reduceAnd, Nat.reduceOr, Nat.reduceBNe, Int.reduceToNat, Nat.reduceSub, Int.reduceLE, Int.reduceLT, En.slLe, En.hpLe, En.chE, En.allLt, grM, grH, trC, ndC, eV_n, dV_n, kV_n, mN_n, nV_n])) ?_
    rintro ⟨⟨r, ms, B, cp⟩, hr⟩
    simp only at hr
    refine hR 3000 _ _ ?_
    cases r with
    | zero =>
      have d2 : decide (((0 : Nat) : Int) - 1 ≥ 0) = false := rfl
      simp (maxSteps := 10000000) only [En.E, En.evsC, List.map_cons, List.map_nil, Nat.reduceBEq, Nat.reduceAdd, Nat.reduceMul, Nat.reduceEqDiff, Nat.reduceLeDiff, Nat.reduceLT, ne_eq, reduceCtorEq, Int.reduceBEq, Int.reduceBNe, Int.reduceAdd, Int.reduceSub, Int.reduceMul, Int.reduceTDiv, Int.reduceTMod, Int.reduceNeg, En.bitN, Nat.testBit, Nat.reduceShiftRight, Nat.reduceShiftLeft, Nat.reduceAnd, Nat.reduceOr, Nat.reduceBNe, Int.reduceToNat, Nat.reduceSub, Int.reduceLE, Int.reduceLT, En.vV, hs, hv, hT, hG, hF, grM, grH, trC, d2, Int.toNat_natCast]
      exact ⟨bE, bD, bK, bN, ms, B, cp, rfl, by rfl, by rfl, by rfl, by rfl, by rfl⟩
    | succ i =>
      have e1 : ((i + 1 : Nat) : Int) - 1 = (i : Int) := by omega
      have d2 : decide ((i : Int) ≥ 0) = true := decide_eq_true (by omega)
      have i1 : inr .i64 ((i : Int) + 1) := by simp only [En.inr, En.lo, En.hi]; omega
      have i2 : inr .i64 ((i : Int) - 1) := by simp only [En.inr, En.lo, En.hi]; omega
      have j1 : inr .i64 (1 : Int) := by simp only [En.inr, En.lo, En.hi]; omega
      have j2 : inr .i64 (2 : Int) := by simp only [En.inr, En.lo, En.hi]; omega
      have hil : i < l.length := by omega
      have hA : ¬A = none := slok_some h.1 (by omega)
      have g1 : (0 : Int) ≤ i ∧ (i : Int) < l.length := by omega
      have g2 : (0 : Int) ≤ i ∧ i < l.length := by omega
      by_cases h3 : (ndAt l i).k = 3
      · have d3 : ((ndAt l i).k == 3) = true := by rw [h3]; rfl
        have d5 : ((ndAt l i).k == 5) = false := by rw [h3]; rfl
        have d6 : ((ndAt l i).k == 6) = false := by rw [h3]; rfl
        obtain ⟨hc0, hc1⟩ := hg.ls i hil h3
        have hK : (ndAt l i).c = (Ks l i : Int) := by
          simp only [Ks, Kn, if_pos h3]; omega
        obtain ⟨hk, hE, hD⟩ := tree0 (n := l.length) (M := Ms l) (K := Ks l) hg.fine hil (show Ms l i = 0 by simp only [Ms, Mn, opN, d5, d6]; rfl)
        replace hE : (i : Int) + 1 + (Ks l i : Int) = EndP l.length (Ms l) (Ks l) i := by omega
        replace hD : (1 : Int) = Dep l.length (Ms l) (Ks l) i := by omega
        have i3 : inr .i64 ((i : Int) + 1 + (Ks l i : Int)) := by simp only [En.inr, En.lo, En.hi]; omega
        have i4 : inr .i64 ((0 : Int) + 1) := by simp only [En.inr, En.lo, En.hi]; omega
        simp (maxSteps := 10000000) only [En.E, En.evsC, List.map_cons, List.map_nil, Nat.reduceBEq, Nat.reduceAdd, Nat.reduceMul, Nat.reduceEqDiff, Nat.reduceLeDiff, Nat.reduceLT, ne_eq, reduceCtorEq, Int.reduceBEq, Int.reduceBNe, Int.reduceAdd, Int.reduceSub, Int.reduceMul, Int.reduceTDiv, Int.reduceTMod, Int.reduceNeg, En.bitN, Nat.testBit, Nat.reduceShiftRight, Nat.reduceShiftLeft, Nat.reduceAnd, Nat.reduceOr, Nat.reduceBNe, Int.reduceToNat, Nat.reduceSub, Int.reduceLE, Int.reduceLT, En.vV, hs, hv, hT, hG, hF, grM, grH, trC, d2, e1, d3, i1, i2, i3, i4, spRest_q, ndC, opN, d5, d6, cond_false, cond_true, Int.toNat_natCast, hA, g1, g2, hK, tab_put hil, tab_nth hil, tab_lenS, Nat.mul_one, dV_out (Nat.lt_succ_self i), updF_same]
        intro b
        refine ⟨by omega, by omega, j1, by omega, ⟨(i, ms, B, cp), by simp only; omega⟩, (sle_all [1006, 1000, 1001, 1002, 1003, 1004, 1005] (by decide) (by simp only [En.E, En.evsC, List.map_cons, List.map_nil, Nat.reduceBEq, Nat.reduceAdd, Nat.reduceMul, Nat.reduceEqDiff, Nat.reduceLeDiff, Nat.reduceLT, ne_eq, reduceCtorEq, Int.reduceBEq, Int.reduceBNe, Int.reduceAdd, Int.reduceSub, Int.reduceMul, Int.reduceTDiv, Int.reduceTMod, Int.reduceNeg, En.bitN, Nat.testBit, Nat.reduceShiftRight, Nat.reduceShiftLeft, Nat.reduceAnd, Nat.reduceOr, Nat.reduceBNe, Int.reduceToNat, Nat.reduceSub, Int.reduceLE, Int.reduceLT, En.slLe, En.hpLe, En.chE, En.allLt, e_put hE, d_put hD, m_skip hk, k_skip hk])), by simp only; omega⟩
      · have d3 : ((ndAt l i).k == 3) = false := by simpa using h3
        have hK : Ks l i = 0 := if_neg h3
        by_cases ho : opN (ndAt l i) = true
        · have ho' := ho
          simp only [opN] at ho'
          have hM : Ms l i = (ndAt l i).c.toNat := if_pos ho
          have hF := hg.fine
          rcases hg.op i hil ho with hc | hc
          · have hm : Ms l i = 1 := by rw [hM, hc]; rfl
            obtain ⟨t1, t2⟩ := tree1 (n := l.length) (M := Ms l) (K := Ks l) hg.fine hil hm hK
            by_cases hx : l.length ≤ i + 1
            · obtain ⟨hk, hE, hD⟩ := t1 hx
              replace hE : (i : Int) + 1 = EndP l.length (Ms l) (Ks l) i := by omega
              replace hD : (1 : Int) = Dep l.length (Ms l) (Ks l) i := by omega
              have d7 : decide ((i : Int) + 1 ≥ (l.length : Int)) = true := decide_eq_true (by omega)
              simp (maxSteps := 10000000) only [En.E, En.evsC, List.map_cons, List.map_nil, Nat.reduceBEq, Nat.reduceAdd, Nat.reduceMul, Nat.reduceEqDiff, Nat.reduceLeDiff, Nat.reduceLT, ne_eq, reduceCtorEq, Int.reduceBEq, Int.reduceBNe, Int.reduceAdd, Int.reduceSub, Int.reduceMul, Int.reduceTDiv, Int.reduceTMod, Int.reduceNeg, En.bitN, Nat.testBit, Nat.reduceShiftRight, Nat.reduceShiftLeft, Nat.reduceAnd, Nat.reduceOr, Nat.reduceBNe, Int.reduceToNat, Nat.reduceSub, Int.reduceLE, Int.reduceLT, En.vV, hs, hv, hT, hG, hF, grM, grH, trC, d2, e1, d3, i1, i2, j1, j2, spRest_q, ndC, opN, ho', cond_false, cond_true, Int.toNat_natCast, hA, g1, g2, tab_put hil, tab_nth hil, tab_lenS, Nat.mul_one, dV_out (Nat.lt_succ_self i), kV_out (Nat.lt_succ_self i), updF_same, updF_idem, hc, d7]
              intro b
              refine ⟨by omega, by omega, by omega, ⟨(i, true, B, cp), by simp only; omega⟩, (sle_all [1006, 1000, 1001, 1002, 1003, 1004, 1005] (by decide) (by simp only [En.E, En.evsC, List.map_cons, List.map_nil, Nat.reduceBEq, Nat.reduceAdd, Nat.reduceMul, Nat.reduceEqDiff, Nat.reduceLeDiff, Nat.reduceLT, ne_eq, reduceCtorEq, Int.reduceBEq, Int.reduceBNe, Int.reduceAdd, Int.reduceSub, Int.reduceMul, Int.reduceTDiv, Int.reduceTMod, Int.reduceNeg, En.bitN, Nat.testBit, Nat.reduceShiftRight, Nat.reduceShiftLeft, Nat.reduceAnd, Nat.reduceOr, Nat.reduceBNe, Int.reduceToNat, Nat.reduceSub, Int.reduceLE, Int.reduceLT, En.slLe, En.hpLe, En.chE, En.allLt, e_put hE, d_put hD, m_skip hk, k_skip hk])), by simp only; omega⟩
            · obtain ⟨hk, hE, hD⟩ := t2 (by omega)
              have hx1 : i + 1 < l.length := by omega
              have d7 : decide ((i : Int) + 1 ≥ (l.length : Int)) = false := decide_eq_false (by omega)
              have z : ((i : Int) + 1).toNat = i + 1 := by omega
              have hb := Dep_le (M := Ms l) hg.fine _ (i + 1) (Nat.le_refl _) hx1
              have hq : [SV.v (.int .i64 ((i : Int) + 1))] = (kidsP l.length (Ms l) (Ks l) i).map fun p : Nat => SV.v (.int .i64 (p : Int)) := by rw [hk]; rfl
              have hl : 1 = (kidsP l.length (Ms l) (Ks l) i).length := by rw [hk]; rfl
              have dm : (if (Dep l.length (Ms l) (Ks l) (i + 1) : Int) > 0 then (Dep l.length (Ms l) (Ks l) (i + 1) : Int) else 0) = Dep l.length (Ms l) (Ks l) (i + 1) := if_pos (by omega)
              replace hE : (EndP l.length (Ms l) (Ks l) (i + 1) : Int) = EndP l.length (Ms l) (Ks l) i := by omega
              replace hD : (Dep l.length (Ms l) (Ks l) (i + 1) : Int) + 1 = Dep l.length (Ms l) (Ks l) i := by omega
              have i5 : inr .i64 ((Dep l.length (Ms l) (Ks l) (i + 1) : Int) + 1) := by simp only [En.inr, En.lo, En.hi]; omega
              simp (maxSteps := 10000000) only [En.E, En.evsC, List.map_cons, List.map_nil, Nat.reduceBEq, Nat.reduceAdd, Nat.reduceMul, Nat.reduceEqDiff, Nat.reduceLeDiff, Nat.reduceLT, ne_eq, reduceCtorEq, Int.reduceBEq, Int.reduceBNe, Int.reduceAdd, Int.reduceSub, Int.reduceMul, Int.reduceTDiv, Int.reduceTMod, Int.reduceNeg, En.bitN, Nat.testBit, Nat.reduceShiftRight, Nat.reduceShiftLeft, Nat.reduceAnd, Nat.reduceOr, Nat.reduceBNe, Int.reduceToNat, Nat.reduceSub, Int.reduceLE, Int.reduceLT, En.vV, hs, hv, hT, hG, hF, grM, grH, trC, d2, e1, d3, i1, i2, j1, j2, spRest_q, ndC, opN, ho', cond_false, cond_true, Int.toNat_natCast, hA, g1, g2, tab_put hil, tab_nth hil, tab_lenS, Nat.mul_one, dV_out (Nat.lt_succ_self i), kV_out (Nat.lt_succ_self i), updF_same, updF_idem, hc, d7, z, tab_nth hx1, dV_in (Nat.le_refl (i + 1)), eV_in (Nat.le_refl (i + 1)), dm, i5]
              intro b
              refine ⟨by omega, fun b1 A1 c1 => ?_⟩
              repeat' refine And.intro (by omega) ?_
              refine ⟨⟨(i, ms, updF B i A1, updF cp i c1), by simp only; omega⟩, (SLe.trans (sle_snoc (kD := 1006) (kR := 206144) (i := i) rfl rfl hil rfl (by decide) (Nat.le_of_ble_eq_true rfl) (Nat.le_of_ble_eq_true rfl)) (sle_all [1006, 1000, 1001, 1002, 1003, 1004, 1005] (by decide) (by simp only [En.E, En.evsC, List.map_cons, List.map_nil, Nat.reduceBEq, Nat.reduceAdd, Nat.reduceMul, Nat.reduceEqDiff, Nat.reduceLeDiff, Nat.reduceLT, ne_eq, reduceCtorEq, Int.reduceBEq, Int.reduceBNe, Int.reduceAdd, Int.reduceSub, Int.reduceMul, Int.reduceTDiv, Int.reduceTMod, Int.reduceNeg, En.bitN, Nat.testBit, Nat.reduceShiftRight, Nat.reduceShiftLeft, Nat.reduceAnd, Nat.reduceOr, Nat.reduceBNe, Int.reduceToNat, Nat.reduceSub, Int.reduceLE, Int.reduceLT, En.slLe, En.hpLe, En.chE, En.allLt, e_put hE, d_put hD, m_put hil hl, k_put hil hl (by decide : (1 : Nat) ≠ 0), f_put hq, Int.cast_ofNat_Int]))), by simp only; omega⟩
          · have hm : Ms l i = 2 := by rw [hM, hc]; rfl
            obtain ⟨t1, t2, t3⟩ := tree2 (n := l.length) (M := Ms l) (K := Ks l) hg.fine hil hm hK
            by_cases hx : l.length ≤ i + 1
            · obtain ⟨hk, hE, hD⟩ := t1 hx
              replace hE : (i : Int) + 1 = EndP l.length (Ms l) (Ks l) i := by omega
              replace hD : (1 : Int) = Dep l.length (Ms l) (Ks l) i := by omega
              have d7 : decide ((i : Int) + 1 ≥ (l.length : Int)) = true := decide_eq_true (by omega)
              simp (maxSteps := 10000000) only [En.E, En.evsC, List.map_cons, List.map_nil, Nat.reduceBEq, Nat.reduceAdd, Nat.reduceMul, Nat.reduceEqDiff, Nat.reduceLeDiff, Nat.reduceLT, ne_eq, reduceCtorEq, Int.reduceBEq, Int.reduceBNe, Int.reduceAdd, Int.reduceSub, Int.reduceMul, Int.reduceTDiv, Int.reduceTMod, Int.reduceNeg, En.bitN, Nat.testBit, Nat.reduceShiftRight, Nat.reduceShiftLeft, Nat.reduceAnd, Nat.reduceOr, Nat.reduceBNe, Int.reduceToNat, Nat.reduceSub, Int.reduceLE, Int.reduceLT, En.vV, hs, hv, hT, hG, hF, grM, grH, trC, d2, e1, d3, i1, i2, j1, j2, spRest_q, ndC, opN, ho', cond_false, cond_true, Int.toNat_natCast, hA, g1, g2, tab_put hil, tab_nth hil, tab_lenS, Nat.mul_one, dV_out (Nat.lt_succ_self i), kV_out (Nat.lt_succ_self i), updF_same, updF_idem, hc, d7]
              intro b
              refine ⟨by omega, by omega, by omega, ⟨(i, true, B, cp), by simp only; omega⟩, (sle_all [1006, 1000, 1001, 1002, 1003, 1004, 1005] (by decide) (by simp only [En.E, En.evsC, List.map_cons, List.map_nil, Nat.reduceBEq, Nat.reduceAdd, Nat.reduceMul, Nat.reduceEqDiff, Nat.reduceLeDiff, Nat.reduceLT, ne_eq, reduceCtorEq, Int.reduceBEq, Int.reduceBNe, Int.reduceAdd, Int.reduceSub, Int.reduceMul, Int.reduceTDiv, Int.reduceTMod, Int.reduceNeg, En.bitN, Nat.testBit, Nat.reduceShiftRight, Nat.reduceShiftLeft, Nat.reduceAnd, Nat.reduceOr, Nat.reduceBNe, Int.reduceToNat, Nat.reduceSub, Int.reduceLE, Int.reduceLT, En.slLe, En.hpLe, En.chE, En.allLt, e_put hE, d_put hD, m_skip hk, k_skip hk])), by simp only; omega⟩
            · have hx1 : i + 1 < l.length := by omega
              have d7 : decide ((i : Int) + 1 ≥ (l.length : Int)) = false := decide_eq_false (by omega)
              have z : ((i : Int) + 1).toNat = i + 1 := by omega
              have hb := Dep_le (M := Ms l) hg.fine _ (i + 1) (Nat.le_refl _) hx1
              have dm : (if (Dep l.length (Ms l) (Ks l) (i + 1) : Int) > 0 then (Dep l.length (Ms l) (Ks l) (i + 1) : Int) else 0) = Dep l.length (Ms l) (Ks l) (i + 1) := if_pos (by omega)
              by_cases hy : l.length ≤ EndP l.length (Ms l) (Ks l) (i + 1)
              · obtain ⟨hk, hE, hD⟩ := t2 hx1 hy
                have d8 : decide ((EndP l.length (Ms l) (Ks l) (i + 1) : Int) ≥ (l.length : Int)) = true := decide_eq_true (by omega)
                have hq : [SV.v (.int .i64 ((i : Int) + 1))] = (kidsP l.length (Ms l) (Ks l) i).map fun p : Nat => SV.v (.int .i64 (p : Int)) := by rw [hk]; rfl
                have hl : 1 = (kidsP l.length (Ms l) (Ks l) i).length := by rw [hk]; rfl
                replace hE : (EndP l.length (Ms l) (Ks l) (i + 1) : Int) = EndP l.length (Ms l) (Ks l) i := by omega
                replace hD : (Dep l.length (Ms l) (Ks l) (i + 1) : Int) + 1 = Dep l.length (Ms l) (Ks l) i := by omega
                have i5 : inr .i64 ((Dep l.length (Ms l) (Ks l) (i + 1) : Int) + 1) := by simp only [En.inr, En.lo, En.hi]; omega
                simp (maxSteps := 10000000) only [En.E, En.evsC, List.map_cons, List.map_nil, Nat.reduceBEq, Nat.reduceAdd, Nat.reduceMul, Nat.reduceEqDiff, Nat.reduceLeDiff, Nat.reduceLT, ne_eq, reduceCtorEq, Int.reduceBEq, Int.reduceBNe, Int.reduceAdd, Int.reduceSub, Int.reduceMul, Int.reduceTDiv, Int.reduceTMod, Int.reduceNeg, En.bitN, Nat.testBit, Nat.reduceShiftRight, Nat.reduceShiftLeft, Nat.reduceAnd, Nat.reduceOr, Nat.reduceBNe, Int.reduceToNat, Nat.reduceSub, Int.reduceLE, Int.reduceLT, En.vV, hs, hv, hT, hG, hF, grM, grH, trC, d2, e1, d3, i1, i2, j1, j2, spRest_q, ndC, opN, ho', cond_false, cond_true, Int.toNat_natCast, hA, g1, g2, tab_put hil, tab_nth hil, tab_lenS, Nat.mul_one, dV_out (Nat.lt_succ_self i), kV_out (Nat.lt_succ_self i), updF_same, updF_idem, hc, d7, d8, z, tab_nth hx1, dV_in (Nat.le_refl (i + 1)), eV_in (Nat.le_refl (i + 1)), dm, i5]
                intro b
                refine ⟨by omega, fun b1 A1 c1 => ?_⟩
                repeat' refine And.intro (by omega) ?_
                refine ⟨⟨(i, true, updF B i A1, updF cp i c1), by simp only; omega⟩, (SLe.trans (sle_snoc (kD := 1006) (kR := 206144) (i := i) rfl rfl hil rfl (by decide) (Nat.le_of_ble_eq_true rfl) (Nat.le_of_ble_eq_true rfl)) (sle_all [1006, 1000, 1001, 1002, 1003, 1004, 1005] (by decide) (by simp only [En.E, En.evsC, List.map_cons, List.map_nil, Nat.reduceBEq, Nat.reduceAdd, Nat.reduceMul, Nat.reduceEqDiff, Nat.reduceLeDiff, Nat.reduceLT, ne_eq, reduceCtorEq, Int.reduceBEq, Int.reduceBNe, Int.reduceAdd, Int.reduceSub, Int.reduceMul, Int.reduceTDiv, Int.reduceTMod, Int.reduceNeg, En.bitN, Nat.testBit, Nat.reduceShiftRight, Nat.reduceShiftLeft, Nat.reduceAnd, Nat.reduceOr, Nat.reduceBNe, Int.reduceToNat, Nat.reduceSub, Int.reduceLE, Int.reduceLT, En.slLe, En.hpLe, En.chE, En.allLt, e_put hE, d_put hD, m_put hil hl, k_put hil hl (by decide : (1 : Nat) ≠ 0), f_put hq, Int.cast_ofNat_Int]))), by simp only; omega⟩
              · obtain ⟨hk, hE, hD⟩ := t3 hx1 (by omega)
                have hy1 : EndP l.length (Ms l) (Ks l) (i + 1) < l.length := by omega
                have hy0 := (EndP_gt (M := Ms l) hg.fine hx1).1
                have hy2 : i + 1 ≤ EndP l.length (Ms l) (Ks l) (i + 1) := by omega
                have hb' := Dep_le (M := Ms l) hg.fine _ _ (Nat.le_refl _) hy1
                have ue : ∀ (f : Nat → SV) (x : SV), updF f i x (EndP l.length (Ms l) (Ks l) (i + 1)) = f (EndP l.length (Ms l) (Ks l) (i + 1)) := fun f x => updF_ne (by omega)
                have d8 : decide ((EndP l.length (Ms l) (Ks l) (i + 1) : Int) ≥ (l.length : Int)) = false := decide_eq_false (by omega)
                have hq : [SV.v (.int .i64 ((i : Int) + 1)), SV.v (.int .i64 (EndP l.length (Ms l) (Ks l) (i + 1) : Int))] = (kidsP l.length (Ms l) (Ks l) i).map fun p : Nat => SV.v (.int .i64 (p : Int)) := by rw [hk]; rfl
                have hl : 2 = (kidsP l.length (Ms l) (Ks l) i).length := by rw [hk]; rfl
                obtain ⟨mx, hmx⟩ : ∃ mx, mx = (if (Dep l.length (Ms l) (Ks l) (EndP l.length (Ms l) (Ks l) (i + 1)) : Int) > Dep l.length (Ms l) (Ks l) (i + 1) then (Dep l.length (Ms l) (Ks l) (EndP l.length (Ms l) (Ks l) (i + 1)) : Int) else Dep l.length (Ms l) (Ks l) (i + 1)) := ⟨_, rfl⟩
                replace hE : (EndP l.length (Ms l) (Ks l) (EndP l.length (Ms l) (Ks l) (i + 1)) : Int) = EndP l.length (Ms l) (Ks l) i := by omega
                replace hD : mx + 1 = Dep l.length (Ms l) (Ks l) i := by rw [hmx]; split <;> omega
                have i5 : inr .i64 (mx + 1) := by simp only [En.inr, En.lo, En.hi]; rw [hmx]; split <;> omega
                simp (maxSteps := 10000000) only [En.E, En.evsC, List.map_cons, List.map_nil, Nat.reduceBEq, Nat.reduceAdd, Nat.reduceMul, Nat.reduceEqDiff, Nat.reduceLeDiff, Nat.reduceLT, ne_eq, reduceCtorEq, Int.reduceBEq, Int.reduceBNe, Int.reduceAdd, Int.reduceSub, Int.reduceMul, Int.reduceTDiv, Int.reduceTMod, Int.reduceNeg, En.bitN, Nat.testBit, Nat.reduceShiftRight, Nat.reduceShiftLeft, Nat.reduceAnd, Nat.reduceOr, Nat.reduceBNe, Int.reduceToNat, Nat.reduceSub, Int.reduceLE, Int.reduceLT, En.vV, hs, hv, hT, hG, hF, grM, grH, trC, d2, e1, d3, i1, i2, j1, j2, spRest_q, ndC, opN, ho', cond_false, cond_true, Int.toNat_natCast, hA, g1, g2, tab_put hil, tab_nth hil, tab_lenS, Nat.mul_one, dV_out (Nat.lt_succ_self i), kV_out (Nat.lt_succ_self i), updF_same, updF_idem, hc, d7, d8, z, tab_nth hx1, tab_nth hy1, dV_in (Nat.le_refl (i + 1)), eV_in (Nat.le_refl (i + 1)), dV_in hy2, eV_in hy2, ue, dm, ← hmx, i5]
                intro b
                refine ⟨by omega, fun b1 A1 c1 => ?_⟩
                repeat' refine And.intro (by omega) ?_
                refine fun b2 A2 c2 => ?_
                repeat' refine And.intro (by omega) ?_
                refine ⟨⟨(i, ms, updF B i A2, updF cp i c2), by simp only; omega⟩, (SLe.trans (sle_snoc (kD := 1006) (kR := 220992) (i := i) rfl rfl hil rfl (by decide) (Nat.le_of_ble_eq_true rfl) (Nat.le_of_ble_eq_true rfl)) (sle_all [1006, 1000, 1001, 1002, 1003, 1004, 1005] (by decide) (by simp only [En.E, En.evsC, List.map_cons, List.map_nil, Nat.reduceBEq, Nat.reduceAdd, Nat.reduceMul, Nat.reduceEqDiff, Nat.reduceLeDiff, Nat.reduceLT, ne_eq, reduceCtorEq, Int.reduceBEq, Int.reduceBNe, Int.reduceAdd, Int.reduceSub, Int.reduceMul, Int.reduceTDiv, Int.reduceTMod, Int.reduceNeg, En.bitN, Nat.testBit, Nat.reduceShiftRight, Nat.reduceShiftLeft, Nat.reduceAnd, Nat.reduceOr, Nat.reduceBNe, Int.reduceToNat, Nat.reduceSub, Int.reduceLE, Int.reduceLT, En.slLe, En.hpLe, En.chE, En.allLt, e_put hE, d_put hD, m_put hil hl, k_put hil hl (by decide : (2 : Nat) ≠ 0), f_put hq, Int.cast_ofNat_Int]))), by simp only; omega⟩
        · have d4 : opN (ndAt l i) = false := by simpa using ho
          obtain ⟨hk, hE, hD⟩ := tree0 (n := l.length) (M := Ms l) (K := Ks l) hg.fine hil (show Ms l i = 0 by simp only [Ms, Mn, d4]; rfl)
          replace hE : (i : Int) + 1 = EndP l.length (Ms l) (Ks l) i := by omega
          replace hD : (1 : Int) = Dep l.length (Ms l) (Ks l) i := by omega
          simp only [opN] at d4
          simp (maxSteps := 10000000) only [En.E, En.evsC, List.map_cons, List.map_nil, Nat.reduceBEq, Nat.reduceAdd, Nat.reduceMul, Nat.reduceEqDiff, Nat.reduceLeDiff, Nat.reduceLT, ne_eq, reduceCtorEq, Int.reduceBEq, Int.reduceBNe, Int.reduceAdd, Int.reduceSub, Int.reduceMul, Int.reduceTDiv, Int.reduceTMod, Int.reduceNeg, En.bitN, Nat.testBit, Nat.reduceShiftRight, Nat.reduceShiftLeft, Nat.reduceAnd, Nat.reduceOr, Nat.reduceBNe, Int.reduceToNat, Nat.reduceSub, Int.reduceLE, Int.reduceLT, En.vV, hs, hv, hT, hG, hF, grM, grH, trC, d2, e1, d3, i1, i2, j1, j2, spRest_q, ndC, opN, d4, cond_false, cond_true, Int.toNat_natCast, hA, g1, g2, tab_put hil, tab_nth hil, tab_lenS, Nat.mul_one, dV_out (Nat.lt_succ_self i), kV_out (Nat.lt_succ_self i), updF_same, updF_idem]
          intro b
          refine ⟨by omega, by omega, by omega, ⟨(i, ms, B, cp), by simp only; omega⟩, (sle_all [1006, 1000, 1001, 1002, 1003, 1004, 1005] (by decide) (by simp only [En.E, En.evsC, List.map_cons, List.map_nil, Nat.reduceBEq, Nat.reduceAdd, Nat.reduceMul, Nat.reduceEqDiff, Nat.reduceLeDiff, Nat.reduceLT, ne_eq, reduceCtorEq, Int.reduceBEq, Int.reduceBNe, Int.reduceAdd, Int.reduceSub, Int.reduceMul, Int.reduceTDiv, Int.reduceTMod, Int.reduceNeg, En.bitN, Nat.testBit, Nat.reduceShiftRight, Nat.reduceShiftLeft, Nat.reduceAnd, Nat.reduceOr, Nat.reduceBNe, Int.reduceToNat, Nat.reduceSub, Int.reduceLE, Int.reduceLT, En.slLe, En.hpLe, En.chE, En.allLt, e_put hE, d_put hD, m_skip hk, k_skip hk])), by simp only; omega⟩
end Pr
end Go.Proofs.YtpkldfkmokeamaaGreatDoor
/-
expr.grow's contract (chapter 15).
-/
set_option linter.unusedSimpArgs false
set_option linter.unusedVariables false
namespace Go.Proofs.YtpkldfkmokeamaaGreatDoor
namespace Pr
open Go Go.RowKit En
open Ex
def unNd : List SV → Nd
  | [.v (.int .i64 k), .v (.int .i64 p), .v (.int .i64 c), .v (.string nm), .v (.string tx), .v (.int .i64 n), .v (.int .i64 s)] => ⟨k, p, c, nm, tx, n, s⟩
  | _ => ndZ
def nodesL (n : Nat) (f : Nat → List SV) : List Nd := (List.range n).map fun i => unNd (f i)
theorem nodesL_len (n : Nat) (f : Nat → List SV) : (nodesL n f).length = n := by simp [nodesL]
theorem nodesL_q (l : List Nd) : nodesL l.length (fun i => ndC (ndAt l i)) = l := by
  apply List.ext_getElem (nodesL_len _ _)
  intro i h1 h2
  have : unNd (ndC (ndAt l i)) = ndAt l i := rfl
  simp only [nodesL, List.getElem_map, List.getElem_range, this, ndAt, List.getD_eq_getElem?_getD, List.getElem?_eq_getElem h2, Option.getD_some]
  rfl
def NdR (A : Option Addr) (n c : Nat) : Ch → Prop
  | .recs A' c' 7 n' f => A' = A ∧ c' = c ∧ n' = n ∧ ∀ i, i < n → f i = ndC (ndAt (nodesL n f) i)
  | _ => False
def chL (n : Nat) : Ch → List Nd
  | .recs _ _ 7 _ f => nodesL n f
  | _ => []
theorem NdR_q (l : List Nd) (A : Option Addr) (c : Nat) : NdR A l.length c (.recs A c 7 l.length fun i => ndC (ndAt l i)) = True := by
  simp only [NdR, nodesL_q, true_and, implies_true]
theorem chL_q (l : List Nd) (A : Option Addr) (c : Nat) : chL l.length (.recs A c 7 l.length fun i => ndC (ndAt l i)) = l := nodesL_q l
theorem NdR_hold {A : Option Addr} {n c B : Nat} {w : World} {x : Ch} (h : NdR A n c x) (hh : Hold B w x) : (chL n x).length = n ∧ ∀ B', Hold B' w (.recs A c 7 (chL n x).length fun i => ndC (ndAt (chL n x) i)) := by
  unfold NdR at h
  split at h
  · next A' c' n' f =>
    obtain ⟨rfl, rfl, rfl, he⟩ := h
    refine ⟨nodesL_len _ _, fun B' => ?_⟩
    simp only [chL, nodesL_len]
    refine ⟨⟨hh.1.1, fun hn => ?_⟩, fun i hi => rfl⟩
    obtain ⟨b, o, e, hb, hc⟩ := hh.1.2 hn
    refine ⟨b, o, e, hb, fun i hi j hj => ?_⟩
    have := hc i hi j hj
    simp only [he i hi] at this
    exact this
  · exact h.elim
theorem blk_recs {B B' : Nat} {w : World} {b n : Nat} {f : Nat → SV} {t : TypeId} (h : Hold B w (.blk b (tabS n f) t)) : Hold B' w (.recs (some ⟨b, 0, none⟩) n 1 n fun j => [f j]) := by
  obtain ⟨h1, h2⟩ := h
  refine ⟨⟨Nat.le_refl n, fun _ => ⟨b, 0, rfl, (Array.getElem?_eq_some_iff.1 h2).1, fun i hi j hj => ?_⟩⟩, fun i _ => rfl⟩
  obtain rfl : j = 0 := by omega
  have e : (dens (tabS n f))[i]? = some (den (f i)) := by rw [dens_eq, tabS, List.map_map, List.getElem?_map, List.getElem?_range hi]; rfl
  show w.cell? ⟨b, 0 + (i * 1 + 0), none⟩ = some (den (f i))
  simp [World.cell?, h2, e]
def allFt (Q : Nat → Prop) : Hp → Prop
  | [] => True
  | (_, c) :: l => (∀ b, foot c b → Q b) ∧ allFt Q l
theorem foot_look {Q : Nat → Prop} {l : Hp} (h : allFt Q l) {k b : Nat} (hf : foot (lookH l k) b) : Q b := by
  induction l with
  | nil => exact hf.elim
  | cons x l ih =>
    obtain ⟨i, c⟩ := x
    simp only [lookH] at hf
    cases e : i == k
    · rw [e] at hf; exact ih h.2 hf
    · rw [e] at hf; exact h.1 b hf
theorem allFt5 {Q : Nat → Prop} {k1 k2 k3 k4 k5 : Nat} {c1 c2 c3 c4 c5 : Ch} (h1 : ∀ b, foot c1 b → Q b) (h2 : ∀ b, foot c2 b → Q b) (h3 : ∀ b, foot c3 b → Q b) (h4 : ∀ b, foot c4 b → Q b) (h5 : ∀ b, foot c5 b → Q b) : allFt Q [(k1, c1), (k2, c2), (k3, c3), (k4, c4), (k5, c5)] := ⟨h1, h2, h3, h4, h5, trivial⟩
def grUps (l : List Nd) (nx : Nat) (M : Nat → Option Addr × Nat) : Hp :=
  [(nx, .recs (M 0).1 (M 0).2 1 l.length fun j => [eV l 0 j]), (nx + 1, .recs (M 1).1 (M 1).2 1 l.length fun j => [dV l 0 j]),
   (nx + 2, .recs (M 2).1 (M 2).2 1 l.length fun j => [kV l 0 (fun j => (M (j + 5)).1) (fun j => (M (j + 5)).2) j]), (nx + 3, .recs (M 3).1 (M 3).2 1 l.length fun j => [nV l j]),
   (nx + 4, .deep false l.length 1 (fun j => (M (j + 5)).1) (fun j => (M (j + 5)).2) (mN l 0) (kF l))]
def grV (l : List Nd) (nx : Nat) (M : Nat → Option Addr × Nat) : SV :=
  .agg [.g nx (M 0).1 l.length (M 0).2, .g (nx + 1) (M 1).1 l.length (M 1).2, .g (nx + 2) (M 2).1 l.length (M 2).2, .g (nx + 3) (M 3).1 l.length (M 3).2]
def spGrow : Spc
  | [.g k A n c], H, nx => .many (NdR A n c (H k) ∧ Good (chL n (H k))) fun M => (.tup [grV (chL n (H k)) nx M, .v (.bool ((M 4).2 == 0))], grUps (chL n (H k)) nx M)
  | _, _, _ => .bad
theorem spGrow_q {k n c : Nat} {A : Option Addr} {H : Nat → Ch} {nx : Nat} : spGrow [.g k A n c] H nx = .many (NdR A n c (H k) ∧ Good (chL n (H k))) fun M => (.tup [grV (chL n (H k)) nx M, .v (.bool ((M 4).2 == 0))], grUps (chL n (H k)) nx M) := rfl
theorem spGrow_ok : SpecOk Tryz.prog 58 spGrow := by
  intro args hp nx w0 O w H hv
  unfold spGrow at hv ⊢
  split at hv
  · next k A n c =>
    obtain ⟨h1, h2⟩ := hv
    obtain ⟨hl, hh⟩ := NdR_hold h1 (H.hold k)
    generalize chL n (lookH hp k) = l at hl hh h2 ⊢
    subst hl
    refine (grow_any l h2 A c w (hh _)).mono ?_
    rintro e w' ⟨bE, bD, bK, bN, ms, B, cp, rfl, hb, g1, g2, g3, g4, g5⟩
    let M : Nat → Option Addr × Nat := fun j => if j = 0 then (some ⟨bE, 0, none⟩, l.length) else if j = 1 then (some ⟨bD, 0, none⟩, l.length) else if j = 2 then (some ⟨bK, 0, none⟩, l.length) else if j = 3 then (some ⟨bN, 0, none⟩, l.length) else if j = 4 then (none, if ms then 0 else 1) else (B (j - 5), cp (j - 5))
    have m0 : M 0 = (some ⟨bE, 0, none⟩, l.length) := rfl
    have m1 : M 1 = (some ⟨bD, 0, none⟩, l.length) := rfl
    have m2 : M 2 = (some ⟨bK, 0, none⟩, l.length) := rfl
    have m3 : M 3 = (some ⟨bN, 0, none⟩, l.length) := rfl
    have m4 : ((M 4).2 == 0) = ms := by cases ms <;> rfl
    have mB : (fun j => (M (j + 5)).1) = B := funext fun j => by simp [M]
    have mC : (fun j => (M (j + 5)).2) = cp := funext fun j => by simp [M]
    have hu : ∀ nx, grUps l nx M = [(nx, .recs (some ⟨bE, 0, none⟩) l.length 1 l.length fun j => [eV l 0 j]), (nx + 1, .recs (some ⟨bD, 0, none⟩) l.length 1 l.length fun j => [dV l 0 j]),
        (nx + 2, .recs (some ⟨bK, 0, none⟩) l.length 1 l.length fun j => [kV l 0 B cp j]), (nx + 3, .recs (some ⟨bN, 0, none⟩) l.length 1 l.length fun j => [nV l j]), (nx + 4, .deep false l.length 1 B cp (mN l 0) (kF l))] := by
      intro nx; simp only [grUps, mB, mC, m0, m1, m2, m3]
    refine ⟨⟨0, none, 0, none, 0, M⟩, ?_, ?_⟩
    · simp only [Res.out, grV, grT, m0, m1, m2, m3, m4]; rfl
    · simp only [Res.out, Res.wr, hu]
      refine Stp.rd hb ⟨⟨blk_recs g1, rfl⟩, ⟨blk_recs g2, rfl⟩, ⟨blk_recs g3, rfl⟩, ⟨blk_recs g4, rfl⟩, ⟨fun i hi => ⟨(g5 i hi).1, fun h => by cases h⟩, rfl⟩, trivial⟩ fun k b hf => .inl (foot_look (Q := fun b => w.heap.size ≤ b) (allFt5 ?_ ?_ ?_ ?_ ?_) hf)
      · rintro _ ⟨_, a, h, rfl⟩; cases h; exact g1.1
      · rintro _ ⟨_, a, h, rfl⟩; cases h; exact g2.1
      · rintro _ ⟨_, a, h, rfl⟩; cases h; exact g3.1
      · rintro _ ⟨_, a, h, rfl⟩; cases h; exact g4.1
      · rintro _ ⟨j, hj, hm, a, h, rfl⟩; exact (g5 j hj).2 rfl hm a h
  · exact hv.elim
end Pr
end Go.Proofs.YtpkldfkmokeamaaGreatDoor
