/-
expr.Size, Depth and Kids (chapter 15).
-/
import Derived.Test.YtpkldfkmokeamaaGreatDoorRf1
import Derived.Test.YtpkldfkmokeamaaGreatDoorCh1
set_option linter.unusedSimpArgs false
set_option linter.unusedVariables false
namespace Go.Proofs.YtpkldfkmokeamaaGreatDoor
namespace Pr
open Go Go.RowKit En
open Ex Rf
theorem numTo_nu {l : List Nd} {j : Nat} (hj : j < l.length) : numTo l l.length j = nuV l j := by
  rw [Bool.eq_iff_iff, nuV, numb_iff, numTo, List.any_eq_true]
  constructor
  · rintro ⟨a, _, h⟩
    simp only [Bool.and_eq_true, decide_eq_true_eq] at h
    exact ⟨a, h⟩
  · rintro ⟨a, h1, h2⟩
    exact ⟨a, List.mem_range.2 (by omega), by simp only [Bool.and_eq_true, decide_eq_true_eq]; exact ⟨h1, h2⟩⟩
def tblR (f : Nat → SV) (n : Nat) (A : Option Addr) (m c : Nat) : Ch → Prop
  | .recs A' c' z n' g => A' = A ∧ c' = c ∧ z = 1 ∧ n' = n ∧ m = n ∧ ∀ j, g j = [f j]
  | _ => False
theorem tblR_q {f : Nat → SV} {n c : Nat} {A : Option Addr} : tblR f n A n c (.recs A c 1 n fun j => [f j]) = True := by simp [tblR]
def boxR (n b : Nat) : Ch → Prop
  | .blk b' [.v (.int .i64 a)] _ => b' = b ∧ 0 ≤ a ∧ a < n
  | .cst b' 0 [.v (.int .i64 a)] => b' = b ∧ 0 ≤ a ∧ a < n
  | _ => False
def boxI : Ch → Int
  | .blk _ [.v (.int .i64 a)] _ => a
  | .cst _ _ [.v (.int .i64 a)] => a
  | _ => 0
theorem boxR_c {n b : Nat} {a : Int} : boxR n b (.cst b 0 [.v (.int .i64 a)]) = (0 ≤ a ∧ a < n) := by simp [boxR]
theorem boxI_c {b : Nat} {a : Int} : boxI (.cst b 0 [.v (.int .i64 a)]) = a := rfl
theorem tbl_hold {f : Nat → SV} {n m c B : Nat} {A : Option Addr} {x : Ch} {w : World} (h : tblR f n A m c x) (hx : Hold B w x) : m = n ∧ ∀ B', Hold B' w (.recs A c 1 n fun j => [f j]) := by
  unfold tblR at h
  split at h
  · obtain ⟨rfl, rfl, rfl, rfl, rfl, hg⟩ := h
    refine ⟨rfl, fun B' => ⟨⟨hx.1.1, fun hn => ?_⟩, fun i hi => rfl⟩⟩
    obtain ⟨b, o, e, hb, hc⟩ := hx.1.2 hn
    exact ⟨b, o, e, hb, fun i hi j hj => by have := hc i hi j hj; simp only [hg] at this; exact this⟩
  · exact h.elim
theorem box_hold {n b B : Nat} {x : Ch} {w : World} (h : boxR n b x) (hx : Hold B w x) : (0 ≤ boxI x ∧ boxI x < n) ∧ ∀ B', Hold B' w (.cst b 0 [.v (.int .i64 (boxI x))]) := by
  unfold boxR at h
  split at h
  · next b' a t =>
    obtain ⟨rfl, h1, h2⟩ := h
    refine ⟨⟨h1, h2⟩, fun B' => ⟨lt_of hx.2, fun j v hj => ?_⟩⟩
    exact cell_blk hx.2 (j := 0 + j) (by simpa [dens, boxI] using hj)
  · next b' a =>
    obtain ⟨rfl, h1, h2⟩ := h
    exact ⟨⟨h1, h2⟩, fun B' => hx⟩
  · exact h.elim
def sizP (l : List Nd) (a : Int) : Int := (EndP l.length (Ms l) (Ks l) a.toNat : Int) - a
def depP (l : List Nd) (a : Int) : Int := (Dep l.length (Ms l) (Ks l) a.toNat : Int)
def spSz1 (l : List Nd) : Spc
  | [.agg [.g kE A m c, _, _, _], .p k b 0], H, _ => .is (tblR (eV l 0) l.length A m c (H kE) ∧ boxR l.length b (H k)) (.v (.int .i64 (sizP l (boxI (H k)))))
  | _, _, _ => .bad
theorem spSz1_q {l : List Nd} {kE m c k b : Nat} {A : Option Addr} {x y z : SV} {H : Nat → Ch} {nx : Nat} : spSz1 l [.agg [.g kE A m c, x, y, z], .p k b 0] H nx = .is (tblR (eV l 0) l.length A m c (H kE) ∧ boxR l.length b (H k)) (.v (.int .i64 (sizP l (boxI (H k))))) := rfl
def spDp1 (l : List Nd) : Spc
  | [.agg [_, .g kE A m c, _, _], .p k b 0], H, _ => .is (tblR (dV l 0) l.length A m c (H kE) ∧ boxR l.length b (H k)) (.v (.int .i64 (depP l (boxI (H k)))))
  | _, _, _ => .bad
theorem spDp1_q {l : List Nd} {kE m c k b : Nat} {A : Option Addr} {x y z : SV} {H : Nat → Ch} {nx : Nat} : spDp1 l [.agg [x, .g kE A m c, y, z], .p k b 0] H nx = .is (tblR (dV l 0) l.length A m c (H kE) ∧ boxR l.length b (H k)) (.v (.int .i64 (depP l (boxI (H k))))) := rfl
def gl0z : List (FuncId × Spc) := []
theorem gl0z_ok : GOk Tryz.prog (lookG gl0z) := lG_nil
set_option maxRecDepth 100000 in
set_option maxHeartbeats 4000000 in
theorem size1_any (l : List Nd) (hg : Good l) (A : Option Addr) (c b : Nat) (x y z : SV) (a : Nat) (ha : a < l.length) (w : World) (h : allRd w.heap.size w [(1000, .recs A c 1 l.length fun j => [eV l 0 j]), (1001, .cst b 0 [.v (.int .i64 a)])]) :
    Calls Tryz.prog 50 #[den (.agg [.g 1000 A l.length c, x, y, z]), den (.p 1001 b 0)] w fun e w' => e = .returned (.int .i64 (sizP l a)) ∧ Below w.heap.size w w' := by
  obtain ⟨q, hq⟩ : ∃ q, q = sizP l a := ⟨_, rfl⟩
  rw [← hq]
  refine calls_go (args := [.agg [.g 1000 A l.length c, x, y, z], .p 1001 b 0]) (hp := [(1000, .recs A c 1 l.length fun j => [eV l 0 j]), (1001, .cst b 0 [.v (.int .i64 a)])]) (nx := 1002) (n := 400) (U := []) (V := []) (tl := tlCk) (gl := gl0z) (post := fun s ys => ys = [.v (.int .i64 q)])
    followP tlCk_ok gl0z_ok Tryz.func50 rfl (by kernel_rfl) (Nat.le_of_ble_eq_true (by kernel_rfl)) (by kernel_rfl) (by kernel_rfl) (hh_list h) (free_list (by simp [allLt])) ?_ ?_
  · rintro s ys w' rfl H
    exact ⟨rfl, H.below⟩
  intro L F T G nd va hE
  obtain ⟨hL, hF, hs, hv, hT, hG, hR, hI, hJ, hW⟩ := hE
  rw [Tryz.results50] at hF
  simp (maxSteps := 1000000) only [En.nN, En.E, En.evsC, List.map_cons, List.map_nil, Nat.reduceBEq, Nat.reduceAdd, Nat.reduceMul, Nat.reduceEqDiff, Nat.reduceLeDiff, Nat.reduceLT, ne_eq, reduceCtorEq, Int.reduceBEq, Int.reduceBNe, Int.reduceAdd, Int.reduceSub, Int.reduceMul, Int.reduceTDiv, Int.reduceTMod, Int.reduceNeg, En.bitN, Nat.testBit, Nat.reduceShiftRight, Nat.reduceShiftLeft, Nat.reduceAnd, Nat.reduceOr, Nat.reduceBNe, Int.reduceToNat, Nat.reduceSub, Int.reduceLE, Int.reduceLT] at hv
  simp only [En.at_nil, En.at_cons, En.ag_nil, En.ag_cons, and_true, tlCk, gl0z, tyInt, tyI64, tyBool, tyStr, tyErr, tyNode, tyNodes, tyInts, tyRows, tyBools, tyTree] at hT hG
  have hA : ¬A = none := slok_some h.1.1.1 (by omega)
  have hlen := hg.len
  have hE := EndP_gt (M := Ms l) hg.fine ha
  have g1 : (0 : Int) ≤ a ∧ (a : Int) < l.length := by omega
  have e1 : eV l 0 a = .v (.int .i64 (EndP l.length (Ms l) (Ks l) a : Int)) := by simp [eV]
  have i1 : inr .i64 ((EndP l.length (Ms l) (Ks l) a : Int) - (a : Int)) := by simp only [En.inr, En.lo, En.hi]; omega
  have hqq : q = (EndP l.length (Ms l) (Ks l) a : Int) - (a : Int) := by rw [hq, sizP, Int.toNat_natCast]
  simp (maxSteps := 10000000) only [En.E, En.evsC, List.map_cons, List.map_nil, Nat.reduceBEq, Nat.reduceAdd, Nat.reduceMul, Nat.reduceEqDiff, Nat.reduceLeDiff, Nat.reduceLT, ne_eq, reduceCtorEq, Int.reduceBEq, Int.reduceBNe, Int.reduceAdd, Int.reduceSub, Int.reduceMul, Int.reduceTDiv, Int.reduceTMod, Int.reduceNeg, En.bitN, Nat.testBit, Nat.reduceShiftRight, Nat.reduceShiftLeft, Nat.reduceAnd, Nat.reduceOr, Nat.reduceBNe, Int.reduceToNat, Nat.reduceSub, Int.reduceLE, Int.reduceLT, En.vV, hs, hv, hT, hG, hF, g1, hA, e1, i1, hqq, Int.toNat_natCast]
  exact ha
theorem spSz1_ok {l : List Nd} (hg : Good l) : SpecOk Tryz.prog 50 (spSz1 l) := by
  intro args hp nx w0 O w H hv
  unfold spSz1 at hv ⊢
  split at hv
  · next kE A m c x y z k b =>
    obtain ⟨h1, h2⟩ := hv
    obtain ⟨rfl, hE⟩ := tbl_hold h1 (H.hold kE)
    obtain ⟨⟨q1, q2⟩, hB⟩ := box_hold h2 (H.hold k)
    generalize boxI (lookH hp k) = a at q1 q2 hB ⊢
    obtain ⟨a, rfl⟩ : ∃ n : Nat, a = (n : Int) := ⟨a.toNat, by omega⟩
    refine (size1_any l hg A c b x y z a (by omega) w ⟨⟨hE _, rfl⟩, ⟨hB _, rfl⟩, trivial⟩).mono ?_
    rintro e w' ⟨rfl, hb⟩
    exact ⟨⟨0, none, 0, none, 0, mz⟩, rfl, .still hb⟩
  · exact hv.elim
set_option maxRecDepth 100000 in
set_option maxHeartbeats 4000000 in
theorem depth1_any (l : List Nd) (hg : Good l) (A : Option Addr) (c b : Nat) (x y z : SV) (a : Nat) (ha : a < l.length) (w : World) (h : allRd w.heap.size w [(1000, .recs A c 1 l.length fun j => [dV l 0 j]), (1001, .cst b 0 [.v (.int .i64 a)])]) :
    Calls Tryz.prog 52 #[den (.agg [x, .g 1000 A l.length c, y, z]), den (.p 1001 b 0)] w fun e w' => e = .returned (.int .i64 (depP l a)) ∧ Below w.heap.size w w' := by
  obtain ⟨q, hq⟩ : ∃ q, q = depP l a := ⟨_, rfl⟩
  rw [← hq]
  refine calls_go (args := [.agg [x, .g 1000 A l.length c, y, z], .p 1001 b 0]) (hp := [(1000, .recs A c 1 l.length fun j => [dV l 0 j]), (1001, .cst b 0 [.v (.int .i64 a)])]) (nx := 1002) (n := 400) (U := []) (V := []) (tl := tlCk) (gl := gl0z) (post := fun s ys => ys = [.v (.int .i64 q)])
    followP tlCk_ok gl0z_ok Tryz.func52 rfl (by kernel_rfl) (Nat.le_of_ble_eq_true (by kernel_rfl)) (by kernel_rfl) (by kernel_rfl) (hh_list h) (free_list (by simp [allLt])) ?_ ?_
  · rintro s ys w' rfl H
    exact ⟨rfl, H.below⟩
  intro L F T G nd va hE
  obtain ⟨hL, hF, hs, hv, hT, hG, hR, hI, hJ, hW⟩ := hE
  rw [Tryz.results52] at hF
  simp (maxSteps := 1000000) only [En.nN, En.E, En.evsC, List.map_cons, List.map_nil, Nat.reduceBEq, Nat.reduceAdd, Nat.reduceMul, Nat.reduceEqDiff, Nat.reduceLeDiff, Nat.reduceLT, ne_eq, reduceCtorEq, Int.reduceBEq, Int.reduceBNe, Int.reduceAdd, Int.reduceSub, Int.reduceMul, Int.reduceTDiv, Int.reduceTMod, Int.reduceNeg, En.bitN, Nat.testBit, Nat.reduceShiftRight, Nat.reduceShiftLeft, Nat.reduceAnd, Nat.reduceOr, Nat.reduceBNe, Int.reduceToNat, Nat.reduceSub, Int.reduceLE, Int.reduceLT] at hv
  simp only [En.at_nil, En.at_cons, En.ag_nil, En.ag_cons, and_true, tlCk, gl0z, tyInt, tyI64, tyBool, tyStr, tyErr, tyNode, tyNodes, tyInts, tyRows, tyBools, tyTree] at hT hG
  have hA : ¬A = none := slok_some h.1.1.1 (by omega)
  have hlen := hg.len
  have g1 : (0 : Int) ≤ a ∧ (a : Int) < l.length := by omega
  have e1 : dV l 0 a = .v (.int .i64 (Dep l.length (Ms l) (Ks l) a : Int)) := by simp [dV]
  have hqq : q = (Dep l.length (Ms l) (Ks l) a : Int) := by rw [hq, depP, Int.toNat_natCast]
  simp (maxSteps := 10000000) only [En.E, En.evsC, List.map_cons, List.map_nil, Nat.reduceBEq, Nat.reduceAdd, Nat.reduceMul, Nat.reduceEqDiff, Nat.reduceLeDiff, Nat.reduceLT, ne_eq, reduceCtorEq, Int.reduceBEq, Int.reduceBNe, Int.reduceAdd, Int.reduceSub, Int.reduceMul, Int.reduceTDiv, Int.reduceTMod, Int.reduceNeg, En.bitN, Nat.testBit, Nat.reduceShiftRight, Nat.reduceShiftLeft, Nat.reduceAnd, Nat.reduceOr, Nat.reduceBNe, Int.reduceToNat, Nat.reduceSub, Int.reduceLE, Int.reduceLT, En.vV, hs, hv, hT, hG, hF, g1, hA, e1, hqq, Int.toNat_natCast]
  exact ha
theorem spDp1_ok {l : List Nd} (hg : Good l) : SpecOk Tryz.prog 52 (spDp1 l) := by
  intro args hp nx w0 O w H hv
  unfold spDp1 at hv ⊢
  split at hv
  · next x kE A m c y z k b =>
    obtain ⟨h1, h2⟩ := hv
    obtain ⟨rfl, hE⟩ := tbl_hold h1 (H.hold kE)
    obtain ⟨⟨q1, q2⟩, hB⟩ := box_hold h2 (H.hold k)
    generalize boxI (lookH hp k) = a at q1 q2 hB ⊢
    obtain ⟨a, rfl⟩ : ∃ n : Nat, a = (n : Int) := ⟨a.toNat, by omega⟩
    refine (depth1_any l hg A c b x y z a (by omega) w ⟨⟨hE _, rfl⟩, ⟨hB _, rfl⟩, trivial⟩).mono ?_
    rintro e w' ⟨rfl, hb⟩
    exact ⟨⟨0, none, 0, none, 0, mz⟩, rfl, .still hb⟩
  · exact hv.elim
def kdR (l : List Nd) (A : Option Addr) (m c : Nat) : Ch → Ch → Prop
  | .recs A' c' z n f, .deep own n' z' B cp mm f' => A' = A ∧ c' = c ∧ z = 1 ∧ n = l.length ∧ m = l.length ∧ own = false ∧ n' = l.length ∧ z' = 1 ∧ mm = mN l 0 ∧ f' = kF l ∧ ∀ j, f j = [kV l 0 B cp j]
  | _, _ => False
theorem kdR_q {l : List Nd} {A : Option Addr} {c : Nat} {B : Nat → Option Addr} {cp : Nat → Nat} : kdR l A l.length c (.recs A c 1 l.length fun j => [kV l 0 B cp j]) (.deep false l.length 1 B cp (mN l 0) (kF l)) = True := by simp [kdR]
def spKd1 (l : List Nd) : Spc
  | [.agg [_, _, .g kK A m c, _], .p k b 0], H, nx => .val (kdR l A m c (H kK) (H (kK + 2)) ∧ boxR l.length b (H k)) fun B d => (.g nx B (ksI l (boxI (H k)).toNat).length d, [(nx, .ints B d .i64 (ksI l (boxI (H k)).toNat))])
  | _, _, _ => .bad
theorem spKd1_q {l : List Nd} {kK m c k b : Nat} {A : Option Addr} {x y z : SV} {H : Nat → Ch} {nx : Nat} : spKd1 l [.agg [x, y, .g kK A m c, z], .p k b 0] H nx = .val (kdR l A m c (H kK) (H (kK + 2)) ∧ boxR l.length b (H k)) fun B d => (.g nx B (ksI l (boxI (H k)).toNat).length d, [(nx, .ints B d .i64 (ksI l (boxI (H k)).toNat))]) := rfl
set_option maxRecDepth 100000 in
set_option maxHeartbeats 4000000 in
theorem kids1_any (l : List Nd) (hg : Good l) (B : Nat → Option Addr) (cp : Nat → Nat) (A : Option Addr) (c b : Nat) (x y z : SV) (a : Nat) (ha : a < l.length) (w : World) (h : allRd w.heap.size w [(1000, .recs A c 1 l.length fun j => [kV l 0 B cp j]), (1001, .cst b 0 [.v (.int .i64 a)])]) :
    Calls Tryz.prog 54 #[den (.agg [x, y, .g 1000 A l.length c, z]), den (.p 1001 b 0)] w fun e w' => e = .returned (den (kV l 0 B cp a)) ∧ Below w.heap.size w w' := by
  obtain ⟨q, hq⟩ : ∃ q, q = kV l 0 B cp a := ⟨_, rfl⟩
  rw [← hq]
  refine calls_go (args := [.agg [x, y, .g 1000 A l.length c, z], .p 1001 b 0]) (hp := [(1000, .recs A c 1 l.length fun j => [kV l 0 B cp j]), (1001, .cst b 0 [.v (.int .i64 a)])]) (nx := 1002) (n := 400) (U := []) (V := []) (tl := tlCk) (gl := gl0z) (post := fun s ys => ys = [q])
    followP tlCk_ok gl0z_ok Tryz.func54 rfl (by kernel_rfl) (Nat.le_of_ble_eq_true (by kernel_rfl)) (by kernel_rfl) (by kernel_rfl) (hh_list h) (free_list (by simp [allLt])) ?_ ?_
  · rintro s ys w' rfl H
    exact ⟨rfl, H.below⟩
  intro L F T G nd va hE
  obtain ⟨hL, hF, hs, hv, hT, hG, hR, hI, hJ, hW⟩ := hE
  rw [Tryz.results54] at hF
  simp (maxSteps := 1000000) only [En.nN, En.E, En.evsC, List.map_cons, List.map_nil, Nat.reduceBEq, Nat.reduceAdd, Nat.reduceMul, Nat.reduceEqDiff, Nat.reduceLeDiff, Nat.reduceLT, ne_eq, reduceCtorEq, Int.reduceBEq, Int.reduceBNe, Int.reduceAdd, Int.reduceSub, Int.reduceMul, Int.reduceTDiv, Int.reduceTMod, Int.reduceNeg, En.bitN, Nat.testBit, Nat.reduceShiftRight, Nat.reduceShiftLeft, Nat.reduceAnd, Nat.reduceOr, Nat.reduceBNe, Int.reduceToNat, Nat.reduceSub, Int.reduceLE, Int.reduceLT] at hv
  simp only [En.at_nil, En.at_cons, En.ag_nil, En.ag_cons, and_true, tlCk, gl0z, tyInt, tyI64, tyBool, tyStr, tyErr, tyNode, tyNodes, tyInts, tyRows, tyBools, tyTree] at hT hG
  have hA : ¬A = none := slok_some h.1.1.1 (by omega)
  have hlen := hg.len
  have g1 : (0 : Int) ≤ a ∧ (a : Int) < l.length := by omega
  have hqv : ∃ v, q = .v v := by
    rw [hq, kV]
    split
    · exact ⟨_, rfl⟩
    · exact ⟨_, rfl⟩
  obtain ⟨v, hv'⟩ := hqv
  rw [hv'] at hq
  simp (maxSteps := 10000000) only [En.E, En.evsC, List.map_cons, List.map_nil, Nat.reduceBEq, Nat.reduceAdd, Nat.reduceMul, Nat.reduceEqDiff, Nat.reduceLeDiff, Nat.reduceLT, ne_eq, reduceCtorEq, Int.reduceBEq, Int.reduceBNe, Int.reduceAdd, Int.reduceSub, Int.reduceMul, Int.reduceTDiv, Int.reduceTMod, Int.reduceNeg, En.bitN, Nat.testBit, Nat.reduceShiftRight, Nat.reduceShiftLeft, Nat.reduceAnd, Nat.reduceOr, Nat.reduceBNe, Int.reduceToNat, Nat.reduceSub, Int.reduceLE, Int.reduceLT, En.vV, hs, hv, hT, hG, hF, g1, hA, ← hq, hv', Int.toNat_natCast]
  exact ha
theorem spKd1_ok {l : List Nd} (hg : Good l) : SpecOk Tryz.prog 54 (spKd1 l) := by
  intro args hp nx w0 O w H hv
  unfold spKd1 at hv ⊢
  split at hv
  · next x y kK A m c z k b =>
    obtain ⟨h1, h2⟩ := hv
    have x1 := H.hold kK
    have x2 := H.hold (kK + 2)
    obtain ⟨⟨q1, q2⟩, hB⟩ := box_hold h2 (H.hold k)
    generalize boxI (lookH hp k) = a at q1 q2 hB ⊢
    obtain ⟨a, rfl⟩ : ∃ n : Nat, a = (n : Int) := ⟨a.toNat, by omega⟩
    rw [Int.toNat_natCast]
    cases hd : lookH hp (kK + 2) with
    | deep own n' z' B cp mm f' =>
      rw [hd] at h1 x2
      cases hk : lookH hp kK with
      | recs A' c' z2 n f =>
        rw [hk] at h1 x1
        obtain ⟨rfl, rfl, rfl, rfl, rfl, rfl, rfl, rfl, rfl, rfl, hf⟩ := h1
        have ha : a < l.length := by omega
        have hE : Hold w.heap.size w (.recs A' c' 1 l.length fun j => [kV l 0 B cp j]) := by
          refine ⟨⟨x1.1.1, fun hn => ?_⟩, fun i hi => rfl⟩
          obtain ⟨b, o, e, hb, hc⟩ := x1.1.2 hn
          exact ⟨b, o, e, hb, fun i hi j hj => by have := hc i hi j hj; simp only [hf] at this; exact this⟩
        refine (kids1_any l hg B cp A' c' b x y z a ha w ⟨⟨hE, rfl⟩, ⟨hB _, rfl⟩, trivial⟩).mono ?_
        rintro e w' ⟨rfl, hb⟩
        have hm : mN l 0 a = (ksI l a).length := by simp [mN, ksI, ha]
        by_cases hz : (ksI l a).length = 0
        · have hn : ksI l a = [] := List.eq_nil_of_length_eq_zero hz
          have hkv : kV l 0 B cp a = .v (.slice none 0 0) := by rw [kV, if_pos (by rw [hm]; exact hz)]
          refine ⟨⟨0, none, 0, none, 0, mz⟩, by simp only [Res.out, hkv, hn]; rfl, ?_⟩
          simp only [Res.out, Res.wr, hn]
          refine Stp.rd hb ⟨⟨⟨Nat.le_refl 0, fun h => absurd rfl h⟩, rfl⟩, trivial⟩ fun k' b' hx => ?_
          refine (foot_look (Q := fun b => False) (l := [(_, _)]) ⟨?_, trivial⟩ hx).elim
          rintro b ⟨hne, _⟩
          exact hne rfl
        · have hkv : kV l 0 B cp a = .v (.slice (B a) (ksI l a).length (cp a)) := by rw [kV, if_neg (by rw [hm]; exact hz), hm]
          refine ⟨⟨0, B a, cp a, none, 0, mz⟩, by simp only [Res.out, hkv]; rfl, ?_⟩
          simp only [Res.out, Res.wr]
          have hS := (x2 a ha).1.1
          rw [hm] at hS
          have hS' : SlOk w (B a) (cp a) 1 (ksI l a).length (fI .i64 (ksI l a)) := hS.congr fun i hi j hj => by
            obtain rfl : j = 0 := by omega
            rw [kF_at hi, fI, List.getD_eq_getElem?_getD]
          have hkp : ∀ i, (∃ a', B a = some a' ∧ a'.block = i) → i < w.heap.size := hS'.foot hz
          refine Stp.rd hb ⟨⟨hS'.kept hb.size fun _ i hi => hb.block i (hkp i hi), rfl⟩, trivial⟩ fun k' b' hx => .inr ⟨kK + 2, ?_, by rw [hd]; rfl⟩
          rw [hd]
          refine foot_look (Q := fun b' => foot (.deep false l.length 1 B cp (mN l 0) (kF l)) b') (l := [(_, _)]) ⟨?_, trivial⟩ hx
          rintro b1 ⟨_, a1, h, rfl⟩
          exact ⟨a, ha, by rw [hm]; exact hz, a1, h, rfl⟩
      | _ => rw [hk] at h1; exact h1.elim
    | _ =>
      rw [hd] at h1
      unfold kdR at h1
      split at h1
      · next h3 => cases h3
      · exact h1.elim
  · exact hv.elim
end Pr
end Go.Proofs.YtpkldfkmokeamaaGreatDoor
/-
expr.of, Size, Depth and Kids (chapter 15; printed by genSz.py).
-/
set_option linter.unusedSimpArgs false
set_option linter.unusedVariables false
namespace Go.Proofs.YtpkldfkmokeamaaGreatDoor
namespace Pr
open Go Go.RowKit En
open Ex Rf
theorem ask_whole {l : List Nd} {a : Int} (h : askV l a = 0) : Whole l.length (Ms l) (Ks l) a.toNat := by
  obtain ⟨h0, h1, h2, h3⟩ := ask_ok h
  have hg := (chk_ok h0).2.2.1
  obtain ⟨t1, t2, t3⟩ := chk_tree h0
  exact all_whole hg.fine (plain_of hg (chk_bad h0)) t1 t2 (by omega) h3
theorem ask_cases (l : List Nd) (a : Int) : (chkV l).2 ≠ 0 ∧ askV l a = (chkV l).2 ∨ (chkV l).2 = 0 ∧ askV l a = 7 ∨ askV l a = 0 := by
  rw [askV]
  by_cases h : (chkV l).2 = 0
  · rw [if_neg (by simp [h])]
    split
    · exact .inr (.inl ⟨h, rfl⟩)
    · exact .inr (.inr rfl)
  · rw [if_pos h]; exact .inl ⟨h, rfl⟩
def ofHp (l : List Nd) (A : Option Addr) (c b : Nat) (a : Int) (bn on cn ba oa ca : Nat) : Hp := (1001, .cst b 0 [.v (.int .i64 a)]) :: odHp l A c bn on cn ba oa ca
def glSize (l : List Nd) : List (FuncId × Spc) := [(39, spChk), (50, spSz1 l)]
theorem glSize_ok {l : List Nd} (hg : Good l) : GOk Tryz.prog (lookG (glSize l)) := lG_cons (by kernel_rfl) spChk_ok <| lG_cons (by kernel_rfl) (spSz1_ok hg) lG_nil
set_option maxRecDepth 100000 in
set_option maxHeartbeats 4000000 in
theorem ofSize_bad (l : List Nd) (h0 : (chkV l).2 ≠ 0) (hlen : l.length ≤ 100000) (hz : zsN l) (a : Int) (A : Option Addr) (c b : Nat) (bn on cn ba oa ca : Nat) (h4 : 4 ≤ cn) (h3 : 3 ≤ ca) (w : World) (h : allRd w.heap.size w (ofHp l A c b a bn on cn ba oa ca)) :
    Calls Tryz.prog 49 #[.slice A l.length c, .int .i64 a, den (.fn (.func 50) [] [.p 1001 b 0])] w (fun e w' => e = .returned (.tuple #[.int .i64 0, .int .i64 (chkV l).2]) ∧ Below w.heap.size w w') := by
  have d0 : ((chkV l).2 != 0) = true := by simpa using h0
  obtain ⟨q, hq⟩ : ∃ q, q = (chkV l).2 := ⟨_, rfl⟩
  rw [← hq]
  refine calls_go (args := [.g 1000 A l.length c, .v (.int .i64 a), .fn (.func 50) [] [.p 1001 b 0]]) (hp := ofHp l A c b a bn on cn ba oa ca) (nx := 1002) (n := 1000) (U := []) (V := []) (tl := tlCk) (gl := gOdE) (post := fun s ys => ys = [.v (.int .i64 0), .v (.int .i64 q)])
    followP tlCk_ok gOdE_ok Tryz.func49 rfl (by kernel_rfl) (Nat.le_of_ble_eq_true (by kernel_rfl)) (by kernel_rfl) (by kernel_rfl) (hh_list h) (free_list (by simp [allLt, ofHp, odHp, gHu, gHp])) ?_ ?_
  · rintro s ys w' rfl H
    exact ⟨rfl, H.below⟩
  intro L F T G nd va hE
  obtain ⟨hL, hF, hs, hv, hT, hG, hR, hI, hJ, hW⟩ := hE
  rw [Tryz.results49] at hF
  simp (maxSteps := 1000000) only [En.nN, En.E, En.evsC, List.map_cons, List.map_nil, Nat.reduceBEq, Nat.reduceAdd, Nat.reduceMul, Nat.reduceEqDiff, Nat.reduceLeDiff, Nat.reduceLT, ne_eq, reduceCtorEq, Int.reduceBEq, Int.reduceBNe, Int.reduceAdd, Int.reduceSub, Int.reduceMul, Int.reduceNeg, Nat.reduceBNe, Int.reduceToNat, Nat.reduceSub, Int.reduceLE, Int.reduceLT] at hv
  simp only [En.at_nil, En.at_cons, En.ag_nil, En.ag_cons, and_true, tlCk, gOdE, tyInt, tyI64, tyBool, tyStr, tyErr, tyNode, tyNodes, tyInts, tyRows, tyBools, tyTree] at hT hG
  simp (maxSteps := 10000000) only [En.E, En.evsC, List.map_cons, List.map_nil, Nat.reduceBEq, Nat.reduceAdd, Nat.reduceMul, Nat.reduceEqDiff, Nat.reduceLeDiff, Nat.reduceLT, ne_eq, reduceCtorEq, Int.reduceBEq, Int.reduceBNe, Int.reduceAdd, Int.reduceSub, Int.reduceMul, Int.reduceNeg, Nat.reduceBNe, Int.reduceToNat, Nat.reduceSub, Int.reduceLE, Int.reduceLT, En.vV, hs, hv, hT, hG, hF, ofHp, odHp, gHu, gHp, d0, spChk_q, ckR, NdR_q, chL_q, globR_q, globU_q, hlen, hz, h4, h3, grV, grUps, Bool.false_eq_true]
  rw [hq]
set_option maxRecDepth 100000 in
set_option maxHeartbeats 4000000 in
theorem ofSize_out (l : List Nd) (h0 : (chkV l).2 = 0) (hlen : l.length ≤ 100000) (hz : zsN l) (a : Int) (hq7 : askV l a = 7) (A : Option Addr) (c b : Nat) (bn on cn ba oa ca : Nat) (h4 : 4 ≤ cn) (h3 : 3 ≤ ca) (w : World) (h : allRd w.heap.size w (ofHp l A c b a bn on cn ba oa ca)) :
    Calls Tryz.prog 49 #[.slice A l.length c, .int .i64 a, den (.fn (.func 50) [] [.p 1001 b 0])] w (fun e w' => e = .returned (.tuple #[.int .i64 0, .int .i64 7]) ∧ Below w.heap.size w w') := by
  have d0 : ((chkV l).2 != 0) = false := by rw [h0]; rfl
  have hok := okL_ok h0
  have hnv0 : nV l a.toNat = .v (.bool (numTo l l.length a.toNat)) := rfl
  refine calls_go (args := [.g 1000 A l.length c, .v (.int .i64 a), .fn (.func 50) [] [.p 1001 b 0]]) (hp := ofHp l A c b a bn on cn ba oa ca) (nx := 1002) (n := 1000) (U := []) (V := []) (tl := tlCk) (gl := gOdE) (post := fun s ys => ys = [.v (.int .i64 0), .v (.int .i64 7)])
    followP tlCk_ok gOdE_ok Tryz.func49 rfl (by kernel_rfl) (Nat.le_of_ble_eq_true (by kernel_rfl)) (by kernel_rfl) (by kernel_rfl) (hh_list h) (free_list (by simp [allLt, ofHp, odHp, gHu, gHp])) ?_ ?_
  · rintro s ys w' rfl H
    exact ⟨rfl, H.below⟩
  intro L F T G nd va hE
  obtain ⟨hL, hF, hs, hv, hT, hG, hR, hI, hJ, hW⟩ := hE
  rw [Tryz.results49] at hF
  simp (maxSteps := 1000000) only [En.nN, En.E, En.evsC, List.map_cons, List.map_nil, Nat.reduceBEq, Nat.reduceAdd, Nat.reduceMul, Nat.reduceEqDiff, Nat.reduceLeDiff, Nat.reduceLT, ne_eq, reduceCtorEq, Int.reduceBEq, Int.reduceBNe, Int.reduceAdd, Int.reduceSub, Int.reduceMul, Int.reduceNeg, Nat.reduceBNe, Int.reduceToNat, Nat.reduceSub, Int.reduceLE, Int.reduceLT] at hv
  simp only [En.at_nil, En.at_cons, En.ag_nil, En.ag_cons, and_true, tlCk, gOdE, tyInt, tyI64, tyBool, tyStr, tyErr, tyNode, tyNodes, tyInts, tyRows, tyBools, tyTree] at hT hG
  rw [askV, if_neg (by simp [h0])] at hq7
  by_cases x1 : a < 0
  · have d1 : decide (a < 0) = true := decide_eq_true x1
    simp (maxSteps := 10000000) only [En.E, En.evsC, List.map_cons, List.map_nil, Nat.reduceBEq, Nat.reduceAdd, Nat.reduceMul, Nat.reduceEqDiff, Nat.reduceLeDiff, Nat.reduceLT, ne_eq, reduceCtorEq, Int.reduceBEq, Int.reduceBNe, Int.reduceAdd, Int.reduceSub, Int.reduceMul, Int.reduceNeg, Nat.reduceBNe, Int.reduceToNat, Nat.reduceSub, Int.reduceLE, Int.reduceLT, En.vV, hs, hv, hT, hG, hF, ofHp, odHp, gHu, gHp, d0, d1, h0, hok, hnv0, spChk_q, ckR, NdR_q, chL_q, globR_q, globU_q, hlen, hz, h4, h3, grV, grUps, Bool.false_eq_true]
    try (intros; trivial)
  · have d1 : decide (a < 0) = false := decide_eq_false x1
    by_cases x2 : (l.length : Int) ≤ a
    · have d2 : decide (a ≥ (l.length : Int)) = true := decide_eq_true x2
      simp (maxSteps := 10000000) only [En.E, En.evsC, List.map_cons, List.map_nil, Nat.reduceBEq, Nat.reduceAdd, Nat.reduceMul, Nat.reduceEqDiff, Nat.reduceLeDiff, Nat.reduceLT, ne_eq, reduceCtorEq, Int.reduceBEq, Int.reduceBNe, Int.reduceAdd, Int.reduceSub, Int.reduceMul, Int.reduceNeg, Nat.reduceBNe, Int.reduceToNat, Nat.reduceSub, Int.reduceLE, Int.reduceLT, En.vV, hs, hv, hT, hG, hF, ofHp, odHp, gHu, gHp, d0, d1, d2, h0, hok, hnv0, spChk_q, ckR, NdR_q, chL_q, globR_q, globU_q, hlen, hz, h4, h3, grV, grUps, Bool.false_eq_true]
      try (intros; trivial)
    · have d2 : decide (a ≥ (l.length : Int)) = false := decide_eq_false x2
      have x3 : nuV l a.toNat = true := by
        cases e : nuV l a.toNat with
        | true => rfl
        | false => rw [if_neg (by rw [e]; simp; omega)] at hq7; cases hq7
      have hnv : nV l a.toNat = .v (.bool true) := by rw [nV, numTo_nu (by omega), x3]
      have c1 : 0 ≤ a := by omega
      have c2 : a < (l.length : Int) := by omega
      have c3 : a.toNat < l.length := by omega
      simp (maxSteps := 10000000) only [En.E, En.evsC, List.map_cons, List.map_nil, Nat.reduceBEq, Nat.reduceAdd, Nat.reduceMul, Nat.reduceEqDiff, Nat.reduceLeDiff, Nat.reduceLT, ne_eq, reduceCtorEq, Int.reduceBEq, Int.reduceBNe, Int.reduceAdd, Int.reduceSub, Int.reduceMul, Int.reduceNeg, Nat.reduceBNe, Int.reduceToNat, Nat.reduceSub, Int.reduceLE, Int.reduceLT, En.vV, hs, hv, hT, hG, hF, ofHp, odHp, gHu, gHp, d0, d1, d2, h0, hok, hnv, c1, c2, c3, spChk_q, ckR, NdR_q, chL_q, globR_q, globU_q, hlen, hz, h4, h3, grV, grUps, Bool.false_eq_true]
      try (intros; trivial)
set_option maxRecDepth 100000 in
set_option maxHeartbeats 4000000 in
theorem ofSize_fine (l : List Nd) (hlen : l.length ≤ 100000) (hz : zsN l) (a : Int) (hq0 : askV l a = 0) (A : Option Addr) (c b : Nat) (bn on cn ba oa ca : Nat) (h4 : 4 ≤ cn) (h3 : 3 ≤ ca) (w : World) (h : allRd w.heap.size w (ofHp l A c b a bn on cn ba oa ca)) :
    Calls Tryz.prog 49 #[.slice A l.length c, .int .i64 a, den (.fn (.func 50) [] [.p 1001 b 0])] w (fun e w' => e = .returned (.tuple #[.int .i64 (sizP l a), .int .i64 0]) ∧ Below w.heap.size w w') := by
  obtain ⟨h0, c1, c2, x3⟩ := ask_ok hq0
  have d0 : ((chkV l).2 != 0) = false := by rw [h0]; rfl
  have hok := okL_ok h0
  have hg := (chk_ok h0).2.2.1
  have d1 : decide (a < 0) = false := decide_eq_false (by omega)
  have d2 : decide (a ≥ (l.length : Int)) = false := decide_eq_false (by omega)
  have hnv : nV l a.toNat = .v (.bool false) := by rw [nV, numTo_nu (by omega), x3]
  have c3 : a.toNat < l.length := by omega
  have glx_ok := glSize_ok hg
  refine calls_go (args := [.g 1000 A l.length c, .v (.int .i64 a), .fn (.func 50) [] [.p 1001 b 0]]) (hp := ofHp l A c b a bn on cn ba oa ca) (nx := 1002) (n := 1000) (U := []) (V := []) (tl := tlCk) (gl := glSize l) (post := fun s ys => ys = [.v (.int .i64 (sizP l a)), .v (.int .i64 0)])
    followP tlCk_ok glx_ok Tryz.func49 rfl (by kernel_rfl) (Nat.le_of_ble_eq_true (by kernel_rfl)) (by kernel_rfl) (by kernel_rfl) (hh_list h) (free_list (by simp [allLt, ofHp, odHp, gHu, gHp])) ?_ ?_
  · rintro s ys w' rfl H
    exact ⟨rfl, H.below⟩
  intro L F T G nd va hE
  obtain ⟨hL, hF, hs, hv, hT, hG, hR, hI, hJ, hW⟩ := hE
  rw [Tryz.results49] at hF
  simp (maxSteps := 1000000) only [En.nN, En.E, En.evsC, List.map_cons, List.map_nil, Nat.reduceBEq, Nat.reduceAdd, Nat.reduceMul, Nat.reduceEqDiff, Nat.reduceLeDiff, Nat.reduceLT, ne_eq, reduceCtorEq, Int.reduceBEq, Int.reduceBNe, Int.reduceAdd, Int.reduceSub, Int.reduceMul, Int.reduceNeg, Nat.reduceBNe, Int.reduceToNat, Nat.reduceSub, Int.reduceLE, Int.reduceLT] at hv
  simp only [En.at_nil, En.at_cons, En.ag_nil, En.ag_cons, and_true, tlCk, glSize, tyInt, tyI64, tyBool, tyStr, tyErr, tyNode, tyNodes, tyInts, tyRows, tyBools, tyTree] at hT hG
  simp (maxSteps := 10000000) only [En.E, En.evsC, List.map_cons, List.map_nil, Nat.reduceBEq, Nat.reduceAdd, Nat.reduceMul, Nat.reduceEqDiff, Nat.reduceLeDiff, Nat.reduceLT, ne_eq, reduceCtorEq, Int.reduceBEq, Int.reduceBNe, Int.reduceAdd, Int.reduceSub, Int.reduceMul, Int.reduceNeg, Nat.reduceBNe, Int.reduceToNat, Nat.reduceSub, Int.reduceLE, Int.reduceLT, En.vV, hs, hv, hT, hG, hF, ofHp, odHp, gHu, gHp, d0, d1, d2, h0, hok, hnv, c1, c2, c3, spSz1_q, tblR_q, kdR_q, boxR_c, boxI_c, spChk_q, ckR, NdR_q, chL_q, globR_q, globU_q, hlen, hz, h4, h3, grV, grUps, Bool.false_eq_true]
  try (intros; trivial)
def glDepth (l : List Nd) : List (FuncId × Spc) := [(39, spChk), (52, spDp1 l)]
theorem glDepth_ok {l : List Nd} (hg : Good l) : GOk Tryz.prog (lookG (glDepth l)) := lG_cons (by kernel_rfl) spChk_ok <| lG_cons (by kernel_rfl) (spDp1_ok hg) lG_nil
set_option maxRecDepth 100000 in
set_option maxHeartbeats 4000000 in
theorem ofDepth_bad (l : List Nd) (h0 : (chkV l).2 ≠ 0) (hlen : l.length ≤ 100000) (hz : zsN l) (a : Int) (A : Option Addr) (c b : Nat) (bn on cn ba oa ca : Nat) (h4 : 4 ≤ cn) (h3 : 3 ≤ ca) (w : World) (h : allRd w.heap.size w (ofHp l A c b a bn on cn ba oa ca)) :
    Calls Tryz.prog 49 #[.slice A l.length c, .int .i64 a, den (.fn (.func 52) [] [.p 1001 b 0])] w (fun e w' => e = .returned (.tuple #[.int .i64 0, .int .i64 (chkV l).2]) ∧ Below w.heap.size w w') := by
  have d0 : ((chkV l).2 != 0) = true := by simpa using h0
  obtain ⟨q, hq⟩ : ∃ q, q = (chkV l).2 := ⟨_, rfl⟩
  rw [← hq]
  refine calls_go (args := [.g 1000 A l.length c, .v (.int .i64 a), .fn (.func 52) [] [.p 1001 b 0]]) (hp := ofHp l A c b a bn on cn ba oa ca) (nx := 1002) (n := 1000) (U := []) (V := []) (tl := tlCk) (gl := gOdE) (post := fun s ys => ys = [.v (.int .i64 0), .v (.int .i64 q)])
    followP tlCk_ok gOdE_ok Tryz.func49 rfl (by kernel_rfl) (Nat.le_of_ble_eq_true (by kernel_rfl)) (by kernel_rfl) (by kernel_rfl) (hh_list h) (free_list (by simp [allLt, ofHp, odHp, gHu, gHp])) ?_ ?_
  · rintro s ys w' rfl H
    exact ⟨rfl, H.below⟩
  intro L F T G nd va hE
  obtain ⟨hL, hF, hs, hv, hT, hG, hR, hI, hJ, hW⟩ := hE
  rw [Tryz.results49] at hF
  simp (maxSteps := 1000000) only [En.nN, En.E, En.evsC, List.map_cons, List.map_nil, Nat.reduceBEq, Nat.reduceAdd, Nat.reduceMul, Nat.reduceEqDiff, Nat.reduceLeDiff, Nat.reduceLT, ne_eq, reduceCtorEq, Int.reduceBEq, Int.reduceBNe, Int.reduceAdd, Int.reduceSub, Int.reduceMul, Int.reduceNeg, Nat.reduceBNe, Int.reduceToNat, Nat.reduceSub, Int.reduceLE, Int.reduceLT] at hv
  simp only [En.at_nil, En.at_cons, En.ag_nil, En.ag_cons, and_true, tlCk, gOdE, tyInt, tyI64, tyBool, tyStr, tyErr, tyNode, tyNodes, tyInts, tyRows, tyBools, tyTree] at hT hG
  simp (maxSteps := 10000000) only [En.E, En.evsC, List.map_cons, List.map_nil, Nat.reduceBEq, Nat.reduceAdd, Nat.reduceMul, Nat.reduceEqDiff, Nat.reduceLeDiff, Nat.reduceLT, ne_eq, reduceCtorEq, Int.reduceBEq, Int.reduceBNe, Int.reduceAdd, Int.reduceSub, Int.reduceMul, Int.reduceNeg, Nat.reduceBNe, Int.reduceToNat, Nat.reduceSub, Int.reduceLE, Int.reduceLT, En.vV, hs, hv, hT, hG, hF, ofHp, odHp, gHu, gHp, d0, spChk_q, ckR, NdR_q, chL_q, globR_q, globU_q, hlen, hz, h4, h3, grV, grUps, Bool.false_eq_true]
  rw [hq]
set_option maxRecDepth 100000 in
set_option maxHeartbeats 4000000 in
theorem ofDepth_out (l : List Nd) (h0 : (chkV l).2 = 0) (hlen : l.length ≤ 100000) (hz : zsN l) (a : Int) (hq7 : askV l a = 7) (A : Option Addr) (c b : Nat) (bn on cn ba oa ca : Nat) (h4 : 4 ≤ cn) (h3 : 3 ≤ ca) (w : World) (h : allRd w.heap.size w (ofHp l A c b a bn on cn ba oa ca)) :
    Calls Tryz.prog 49 #[.slice A l.length c, .int .i64 a, den (.fn (.func 52) [] [.p 1001 b 0])] w (fun e w' => e = .returned (.tuple #[.int .i64 0, .int .i64 7]) ∧ Below w.heap.size w w') := by
  have d0 : ((chkV l).2 != 0) = false := by rw [h0]; rfl
  have hok := okL_ok h0
  have hnv0 : nV l a.toNat = .v (.bool (numTo l l.length a.toNat)) := rfl
  refine calls_go (args := [.g 1000 A l.length c, .v (.int .i64 a), .fn (.func 52) [] [.p 1001 b 0]]) (hp := ofHp l A c b a bn on cn ba oa ca) (nx := 1002) (n := 1000) (U := []) (V := []) (tl := tlCk) (gl := gOdE) (post := fun s ys => ys = [.v (.int .i64 0), .v (.int .i64 7)])
    followP tlCk_ok gOdE_ok Tryz.func49 rfl (by kernel_rfl) (Nat.le_of_ble_eq_true (by kernel_rfl)) (by kernel_rfl) (by kernel_rfl) (hh_list h) (free_list (by simp [allLt, ofHp, odHp, gHu, gHp])) ?_ ?_
  · rintro s ys w' rfl H
    exact ⟨rfl, H.below⟩
  intro L F T G nd va hE
  obtain ⟨hL, hF, hs, hv, hT, hG, hR, hI, hJ, hW⟩ := hE
  rw [Tryz.results49] at hF
  simp (maxSteps := 1000000) only [En.nN, En.E, En.evsC, List.map_cons, List.map_nil, Nat.reduceBEq, Nat.reduceAdd, Nat.reduceMul, Nat.reduceEqDiff, Nat.reduceLeDiff, Nat.reduceLT, ne_eq, reduceCtorEq, Int.reduceBEq, Int.reduceBNe, Int.reduceAdd, Int.reduceSub, Int.reduceMul, Int.reduceNeg, Nat.reduceBNe, Int.reduceToNat, Nat.reduceSub, Int.reduceLE, Int.reduceLT] at hv
  simp only [En.at_nil, En.at_cons, En.ag_nil, En.ag_cons, and_true, tlCk, gOdE, tyInt, tyI64, tyBool, tyStr, tyErr, tyNode, tyNodes, tyInts, tyRows, tyBools, tyTree] at hT hG
  rw [askV, if_neg (by simp [h0])] at hq7
  by_cases x1 : a < 0
  · have d1 : decide (a < 0) = true := decide_eq_true x1
    simp (maxSteps := 10000000) only [En.E, En.evsC, List.map_cons, List.map_nil, Nat.reduceBEq, Nat.reduceAdd, Nat.reduceMul, Nat.reduceEqDiff, Nat.reduceLeDiff, Nat.reduceLT, ne_eq, reduceCtorEq, Int.reduceBEq, Int.reduceBNe, Int.reduceAdd, Int.reduceSub, Int.reduceMul, Int.reduceNeg, Nat.reduceBNe, Int.reduceToNat, Nat.reduceSub, Int.reduceLE, Int.reduceLT, En.vV, hs, hv, hT, hG, hF, ofHp, odHp, gHu, gHp, d0, d1, h0, hok, hnv0, spChk_q, ckR, NdR_q, chL_q, globR_q, globU_q, hlen, hz, h4, h3, grV, grUps, Bool.false_eq_true]
    try (intros; trivial)
  · have d1 : decide (a < 0) = false := decide_eq_false x1
    by_cases x2 : (l.length : Int) ≤ a
    · have d2 : decide (a ≥ (l.length : Int)) = true := decide_eq_true x2
      simp (maxSteps := 10000000) only [En.E, En.evsC, List.map_cons, List.map_nil, Nat.reduceBEq, Nat.reduceAdd, Nat.reduceMul, Nat.reduceEqDiff, Nat.reduceLeDiff, Nat.reduceLT, ne_eq, reduceCtorEq, Int.reduceBEq, Int.reduceBNe, Int.reduceAdd, Int.reduceSub, Int.reduceMul, Int.reduceNeg, Nat.reduceBNe, Int.reduceToNat, Nat.reduceSub, Int.reduceLE, Int.reduceLT, En.vV, hs, hv, hT, hG, hF, ofHp, odHp, gHu, gHp, d0, d1, d2, h0, hok, hnv0, spChk_q, ckR, NdR_q, chL_q, globR_q, globU_q, hlen, hz, h4, h3, grV, grUps, Bool.false_eq_true]
      try (intros; trivial)
    · have d2 : decide (a ≥ (l.length : Int)) = false := decide_eq_false x2
      have x3 : nuV l a.toNat = true := by
        cases e : nuV l a.toNat with
        | true => rfl
        | false => rw [if_neg (by rw [e]; simp; omega)] at hq7; cases hq7
      have hnv : nV l a.toNat = .v (.bool true) := by rw [nV, numTo_nu (by omega), x3]
      have c1 : 0 ≤ a := by omega
      have c2 : a < (l.length : Int) := by omega
      have c3 : a.toNat < l.length := by omega
      simp (maxSteps := 10000000) only [En.E, En.evsC, List.map_cons, List.map_nil, Nat.reduceBEq, Nat.reduceAdd, Nat.reduceMul, Nat.reduceEqDiff, Nat.reduceLeDiff, Nat.reduceLT, ne_eq, reduceCtorEq, Int.reduceBEq, Int.reduceBNe, Int.reduceAdd, Int.reduceSub, Int.reduceMul, Int.reduceNeg, Nat.reduceBNe, Int.reduceToNat, Nat.reduceSub, Int.reduceLE, Int.reduceLT, En.vV, hs, hv, hT, hG, hF, ofHp, odHp, gHu, gHp, d0, d1, d2, h0, hok, hnv, c1, c2, c3, spChk_q, ckR, NdR_q, chL_q, globR_q, globU_q, hlen, hz, h4, h3, grV, grUps, Bool.false_eq_true]
      try (intros; trivial)
set_option maxRecDepth 100000 in
set_option maxHeartbeats 4000000 in
theorem ofDepth_fine (l : List Nd) (hlen : l.length ≤ 100000) (hz : zsN l) (a : Int) (hq0 : askV l a = 0) (A : Option Addr) (c b : Nat) (bn on cn ba oa ca : Nat) (h4 : 4 ≤ cn) (h3 : 3 ≤ ca) (w : World) (h : allRd w.heap.size w (ofHp l A c b a bn on cn ba oa ca)) :
    Calls Tryz.prog 49 #[.slice A l.length c, .int .i64 a, den (.fn (.func 52) [] [.p 1001 b 0])] w (fun e w' => e = .returned (.tuple #[.int .i64 (depP l a), .int .i64 0]) ∧ Below w.heap.size w w') := by
  obtain ⟨h0, c1, c2, x3⟩ := ask_ok hq0
  have d0 : ((chkV l).2 != 0) = false := by rw [h0]; rfl
  have hok := okL_ok h0
  have hg := (chk_ok h0).2.2.1
  have d1 : decide (a < 0) = false := decide_eq_false (by omega)
  have d2 : decide (a ≥ (l.length : Int)) = false := decide_eq_false (by omega)
  have hnv : nV l a.toNat = .v (.bool false) := by rw [nV, numTo_nu (by omega), x3]
  have c3 : a.toNat < l.length := by omega
  have glx_ok := glDepth_ok hg
  refine calls_go (args := [.g 1000 A l.length c, .v (.int .i64 a), .fn (.func 52) [] [.p 1001 b 0]]) (hp := ofHp l A c b a bn on cn ba oa ca) (nx := 1002) (n := 1000) (U := []) (V := []) (tl := tlCk) (gl := glDepth l) (post := fun s ys => ys = [.v (.int .i64 (depP l a)), .v (.int .i64 0)])
    followP tlCk_ok glx_ok Tryz.func49 rfl (by kernel_rfl) (Nat.le_of_ble_eq_true (by kernel_rfl)) (by kernel_rfl) (by kernel_rfl) (hh_list h) (free_list (by simp [allLt, ofHp, odHp, gHu, gHp])) ?_ ?_
  · rintro s ys w' rfl H
    exact ⟨rfl, H.below⟩
  intro L F T G nd va hE
  obtain ⟨hL, hF, hs, hv, hT, hG, hR, hI, hJ, hW⟩ := hE
  rw [Tryz.results49] at hF
  simp (maxSteps := 1000000) only [En.nN, En.E, En.evsC, List.map_cons, List.map_nil, Nat.reduceBEq, Nat.reduceAdd, Nat.reduceMul, Nat.reduceEqDiff, Nat.reduceLeDiff, Nat.reduceLT, ne_eq, reduceCtorEq, Int.reduceBEq, Int.reduceBNe, Int.reduceAdd, Int.reduceSub, Int.reduceMul, Int.reduceNeg, Nat.reduceBNe, Int.reduceToNat, Nat.reduceSub, Int.reduceLE, Int.reduceLT] at hv
  simp only [En.at_nil, En.at_cons, En.ag_nil, En.ag_cons, and_true, tlCk, glDepth, tyInt, tyI64, tyBool, tyStr, tyErr, tyNode, tyNodes, tyInts, tyRows, tyBools, tyTree] at hT hG
  simp (maxSteps := 10000000) only [En.E, En.evsC, List.map_cons, List.map_nil, Nat.reduceBEq, Nat.reduceAdd, Nat.reduceMul, Nat.reduceEqDiff, Nat.reduceLeDiff, Nat.reduceLT, ne_eq, reduceCtorEq, Int.reduceBEq, Int.reduceBNe, Int.reduceAdd, Int.reduceSub, Int.reduceMul, Int.reduceNeg, Nat.reduceBNe, Int.reduceToNat, Nat.reduceSub, Int.reduceLE, Int.reduceLT, En.vV, hs, hv, hT, hG, hF, ofHp, odHp, gHu, gHp, d0, d1, d2, h0, hok, hnv, c1, c2, c3, spDp1_q, tblR_q, kdR_q, boxR_c, boxI_c, spChk_q, ckR, NdR_q, chL_q, globR_q, globU_q, hlen, hz, h4, h3, grV, grUps, Bool.false_eq_true]
  try (intros; trivial)
def glKids (l : List Nd) : List (FuncId × Spc) := [(39, spChk), (54, spKd1 l)]
theorem glKids_ok {l : List Nd} (hg : Good l) : GOk Tryz.prog (lookG (glKids l)) := lG_cons (by kernel_rfl) spChk_ok <| lG_cons (by kernel_rfl) (spKd1_ok hg) lG_nil
set_option maxRecDepth 100000 in
set_option maxHeartbeats 4000000 in
theorem ofKids_bad (l : List Nd) (h0 : (chkV l).2 ≠ 0) (hlen : l.length ≤ 100000) (hz : zsN l) (a : Int) (A : Option Addr) (c b : Nat) (bn on cn ba oa ca : Nat) (h4 : 4 ≤ cn) (h3 : 3 ≤ ca) (w : World) (h : allRd w.heap.size w (ofHp l A c b a bn on cn ba oa ca)) :
    Calls Tryz.prog 53 #[.slice A l.length c, .int .i64 a, den (.fn (.func 54) [] [.p 1001 b 0])] w (fun e w' => e = .returned (.tuple #[.slice none 0 0, .int .i64 (chkV l).2]) ∧ Below w.heap.size w w') := by
  have d0 : ((chkV l).2 != 0) = true := by simpa using h0
  obtain ⟨q, hq⟩ : ∃ q, q = (chkV l).2 := ⟨_, rfl⟩
  rw [← hq]
  refine calls_go (args := [.g 1000 A l.length c, .v (.int .i64 a), .fn (.func 54) [] [.p 1001 b 0]]) (hp := ofHp l A c b a bn on cn ba oa ca) (nx := 1002) (n := 1000) (U := []) (V := []) (tl := tlCk) (gl := gOdE) (post := fun s ys => ys = [.v (.slice none 0 0), .v (.int .i64 q)])
    followP tlCk_ok gOdE_ok Tryz.func53 rfl (by kernel_rfl) (Nat.le_of_ble_eq_true (by kernel_rfl)) (by kernel_rfl) (by kernel_rfl) (hh_list h) (free_list (by simp [allLt, ofHp, odHp, gHu, gHp])) ?_ ?_
  · rintro s ys w' rfl H
    exact ⟨rfl, H.below⟩
  intro L F T G nd va hE
  obtain ⟨hL, hF, hs, hv, hT, hG, hR, hI, hJ, hW⟩ := hE
  rw [Tryz.results53] at hF
  simp (maxSteps := 1000000) only [En.nN, En.E, En.evsC, List.map_cons, List.map_nil, Nat.reduceBEq, Nat.reduceAdd, Nat.reduceMul, Nat.reduceEqDiff, Nat.reduceLeDiff, Nat.reduceLT, ne_eq, reduceCtorEq, Int.reduceBEq, Int.reduceBNe, Int.reduceAdd, Int.reduceSub, Int.reduceMul, Int.reduceNeg, Nat.reduceBNe, Int.reduceToNat, Nat.reduceSub, Int.reduceLE, Int.reduceLT] at hv
  simp only [En.at_nil, En.at_cons, En.ag_nil, En.ag_cons, and_true, tlCk, gOdE, tyInt, tyI64, tyBool, tyStr, tyErr, tyNode, tyNodes, tyInts, tyRows, tyBools, tyTree] at hT hG
  simp (maxSteps := 10000000) only [En.E, En.evsC, List.map_cons, List.map_nil, Nat.reduceBEq, Nat.reduceAdd, Nat.reduceMul, Nat.reduceEqDiff, Nat.reduceLeDiff, Nat.reduceLT, ne_eq, reduceCtorEq, Int.reduceBEq, Int.reduceBNe, Int.reduceAdd, Int.reduceSub, Int.reduceMul, Int.reduceNeg, Nat.reduceBNe, Int.reduceToNat, Nat.reduceSub, Int.reduceLE, Int.reduceLT, En.vV, hs, hv, hT, hG, hF, ofHp, odHp, gHu, gHp, d0, spChk_q, ckR, NdR_q, chL_q, globR_q, globU_q, hlen, hz, h4, h3, grV, grUps, Bool.false_eq_true]
  rw [hq]
set_option maxRecDepth 100000 in
set_option maxHeartbeats 4000000 in
theorem ofKids_out (l : List Nd) (h0 : (chkV l).2 = 0) (hlen : l.length ≤ 100000) (hz : zsN l) (a : Int) (hq7 : askV l a = 7) (A : Option Addr) (c b : Nat) (bn on cn ba oa ca : Nat) (h4 : 4 ≤ cn) (h3 : 3 ≤ ca) (w : World) (h : allRd w.heap.size w (ofHp l A c b a bn on cn ba oa ca)) :
    Calls Tryz.prog 53 #[.slice A l.length c, .int .i64 a, den (.fn (.func 54) [] [.p 1001 b 0])] w (fun e w' => e = .returned (.tuple #[.slice none 0 0, .int .i64 7]) ∧ Below w.heap.size w w') := by
  have d0 : ((chkV l).2 != 0) = false := by rw [h0]; rfl
  have hok := okL_ok h0
  have hnv0 : nV l a.toNat = .v (.bool (numTo l l.length a.toNat)) := rfl
  refine calls_go (args := [.g 1000 A l.length c, .v (.int .i64 a), .fn (.func 54) [] [.p 1001 b 0]]) (hp := ofHp l A c b a bn on cn ba oa ca) (nx := 1002) (n := 1000) (U := []) (V := []) (tl := tlCk) (gl := gOdE) (post := fun s ys => ys = [.v (.slice none 0 0), .v (.int .i64 7)])
    followP tlCk_ok gOdE_ok Tryz.func53 rfl (by kernel_rfl) (Nat.le_of_ble_eq_true (by kernel_rfl)) (by kernel_rfl) (by kernel_rfl) (hh_list h) (free_list (by simp [allLt, ofHp, odHp, gHu, gHp])) ?_ ?_
  · rintro s ys w' rfl H
    exact ⟨rfl, H.below⟩
  intro L F T G nd va hE
  obtain ⟨hL, hF, hs, hv, hT, hG, hR, hI, hJ, hW⟩ := hE
  rw [Tryz.results53] at hF
  simp (maxSteps := 1000000) only [En.nN, En.E, En.evsC, List.map_cons, List.map_nil, Nat.reduceBEq, Nat.reduceAdd, Nat.reduceMul, Nat.reduceEqDiff, Nat.reduceLeDiff, Nat.reduceLT, ne_eq, reduceCtorEq, Int.reduceBEq, Int.reduceBNe, Int.reduceAdd, Int.reduceSub, Int.reduceMul, Int.reduceNeg, Nat.reduceBNe, Int.reduceToNat, Nat.reduceSub, Int.reduceLE, Int.reduceLT] at hv
  simp only [En.at_nil, En.at_cons, En.ag_nil, En.ag_cons, and_true, tlCk, gOdE, tyInt, tyI64, tyBool, tyStr, tyErr, tyNode, tyNodes, tyInts, tyRows, tyBools, tyTree] at hT hG
  rw [askV, if_neg (by simp [h0])] at hq7
  by_cases x1 : a < 0
  · have d1 : decide (a < 0) = true := decide_eq_true x1
    simp (maxSteps := 10000000) only [En.E, En.evsC, List.map_cons, List.map_nil, Nat.reduceBEq, Nat.reduceAdd, Nat.reduceMul, Nat.reduceEqDiff, Nat.reduceLeDiff, Nat.reduceLT, ne_eq, reduceCtorEq, Int.reduceBEq, Int.reduceBNe, Int.reduceAdd, Int.reduceSub, Int.reduceMul, Int.reduceNeg, Nat.reduceBNe, Int.reduceToNat, Nat.reduceSub, Int.reduceLE, Int.reduceLT, En.vV, hs, hv, hT, hG, hF, ofHp, odHp, gHu, gHp, d0, d1, h0, hok, hnv0, spChk_q, ckR, NdR_q, chL_q, globR_q, globU_q, hlen, hz, h4, h3, grV, grUps, Bool.false_eq_true]
    try (intros; trivial)
  · have d1 : decide (a < 0) = false := decide_eq_false x1
    by_cases x2 : (l.length : Int) ≤ a
    · have d2 : decide (a ≥ (l.length : Int)) = true := decide_eq_true x2
      simp (maxSteps := 10000000) only [En.E, En.evsC, List.map_cons, List.map_nil, Nat.reduceBEq, Nat.reduceAdd, Nat.reduceMul, Nat.reduceEqDiff, Nat.reduceLeDiff, Nat.reduceLT, ne_eq, reduceCtorEq, Int.reduceBEq, Int.reduceBNe, Int.reduceAdd, Int.reduceSub, Int.reduceMul, Int.reduceNeg, Nat.reduceBNe, Int.reduceToNat, Nat.reduceSub, Int.reduceLE, Int.reduceLT, En.vV, hs, hv, hT, hG, hF, ofHp, odHp, gHu, gHp, d0, d1, d2, h0, hok, hnv0, spChk_q, ckR, NdR_q, chL_q, globR_q, globU_q, hlen, hz, h4, h3, grV, grUps, Bool.false_eq_true]
      try (intros; trivial)
    · have d2 : decide (a ≥ (l.length : Int)) = false := decide_eq_false x2
      have x3 : nuV l a.toNat = true := by
        cases e : nuV l a.toNat with
        | true => rfl
        | false => rw [if_neg (by rw [e]; simp; omega)] at hq7; cases hq7
      have hnv : nV l a.toNat = .v (.bool true) := by rw [nV, numTo_nu (by omega), x3]
      have c1 : 0 ≤ a := by omega
      have c2 : a < (l.length : Int) := by omega
      have c3 : a.toNat < l.length := by omega
      simp (maxSteps := 10000000) only [En.E, En.evsC, List.map_cons, List.map_nil, Nat.reduceBEq, Nat.reduceAdd, Nat.reduceMul, Nat.reduceEqDiff, Nat.reduceLeDiff, Nat.reduceLT, ne_eq, reduceCtorEq, Int.reduceBEq, Int.reduceBNe, Int.reduceAdd, Int.reduceSub, Int.reduceMul, Int.reduceNeg, Nat.reduceBNe, Int.reduceToNat, Nat.reduceSub, Int.reduceLE, Int.reduceLT, En.vV, hs, hv, hT, hG, hF, ofHp, odHp, gHu, gHp, d0, d1, d2, h0, hok, hnv, c1, c2, c3, spChk_q, ckR, NdR_q, chL_q, globR_q, globU_q, hlen, hz, h4, h3, grV, grUps, Bool.false_eq_true]
      try (intros; trivial)
set_option maxRecDepth 100000 in
set_option maxHeartbeats 4000000 in
theorem ofKids_fine (l : List Nd) (hlen : l.length ≤ 100000) (hz : zsN l) (a : Int) (hq0 : askV l a = 0) (A : Option Addr) (c b : Nat) (bn on cn ba oa ca : Nat) (h4 : 4 ≤ cn) (h3 : 3 ≤ ca) (w : World) (h : allRd w.heap.size w (ofHp l A c b a bn on cn ba oa ca)) :
    Calls Tryz.prog 53 #[.slice A l.length c, .int .i64 a, den (.fn (.func 54) [] [.p 1001 b 0])] w (LsQ2 (oldOf (ofHp l A c b a bn on cn ba oa ca)) (ksI l a.toNat) 0 w) := by
  obtain ⟨h0, c1, c2, x3⟩ := ask_ok hq0
  have d0 : ((chkV l).2 != 0) = false := by rw [h0]; rfl
  have hok := okL_ok h0
  have hg := (chk_ok h0).2.2.1
  have d1 : decide (a < 0) = false := decide_eq_false (by omega)
  have d2 : decide (a ≥ (l.length : Int)) = false := decide_eq_false (by omega)
  have hnv : nV l a.toNat = .v (.bool false) := by rw [nV, numTo_nu (by omega), x3]
  have c3 : a.toNat < l.length := by omega
  have glx_ok := glKids_ok hg
  refine calls_go (args := [.g 1000 A l.length c, .v (.int .i64 a), .fn (.func 54) [] [.p 1001 b 0]]) (hp := ofHp l A c b a bn on cn ba oa ca) (nx := 1002) (n := 1000) (U := []) (V := []) (tl := tlCk) (gl := glKids l) (post := LsP2 (ksI l a.toNat) 0)
    followP tlCk_ok glx_ok Tryz.func53 rfl (by kernel_rfl) (Nat.le_of_ble_eq_true (by kernel_rfl)) (by kernel_rfl) (by kernel_rfl) (hh_list h) (free_list (by simp [allLt, ofHp, odHp, gHu, gHp])) ?_ ?_
  · exact fun s ys w' hp H => LsP2_Q hp H
  intro L F T G nd va hE
  obtain ⟨hL, hF, hs, hv, hT, hG, hR, hI, hJ, hW⟩ := hE
  rw [Tryz.results53] at hF
  simp (maxSteps := 1000000) only [En.nN, En.E, En.evsC, List.map_cons, List.map_nil, Nat.reduceBEq, Nat.reduceAdd, Nat.reduceMul, Nat.reduceEqDiff, Nat.reduceLeDiff, Nat.reduceLT, ne_eq, reduceCtorEq, Int.reduceBEq, Int.reduceBNe, Int.reduceAdd, Int.reduceSub, Int.reduceMul, Int.reduceNeg, Nat.reduceBNe, Int.reduceToNat, Nat.reduceSub, Int.reduceLE, Int.reduceLT] at hv
  simp only [En.at_nil, En.at_cons, En.ag_nil, En.ag_cons, and_true, tlCk, glKids, tyInt, tyI64, tyBool, tyStr, tyErr, tyNode, tyNodes, tyInts, tyRows, tyBools, tyTree] at hT hG
  simp (maxSteps := 10000000) only [En.E, En.evsC, List.map_cons, List.map_nil, Nat.reduceBEq, Nat.reduceAdd, Nat.reduceMul, Nat.reduceEqDiff, Nat.reduceLeDiff, Nat.reduceLT, ne_eq, reduceCtorEq, Int.reduceBEq, Int.reduceBNe, Int.reduceAdd, Int.reduceSub, Int.reduceMul, Int.reduceNeg, Nat.reduceBNe, Int.reduceToNat, Nat.reduceSub, Int.reduceLE, Int.reduceLT, En.vV, hs, hv, hT, hG, hF, ofHp, odHp, gHu, gHp, d0, d1, d2, h0, hok, hnv, c1, c2, c3, spKd1_q, tblR_q, kdR_q, boxR_c, boxI_c, spChk_q, ckR, NdR_q, chL_q, globR_q, globU_q, hlen, hz, h4, h3, grV, grUps, Bool.false_eq_true]
  exact fun M b1 B d => .inr ⟨rfl, _, B, d, rfl, rfl⟩
def rdC : Ch → Bool
  | .no | .ints .. | .strs .. | .raw .. | .recs .. | .cst .. | .rawV .. => true
  | _ => false
theorem hold_any {B B' : Nat} {w : World} {c : Ch} (h : Hold B w c) (hc : rdC c = true) : Hold B' w c := by
  cases c <;> first | exact h | cases hc
def allC : Hp → Bool
  | [] => true
  | (_, c) :: l => rdC c && allC l
theorem allRd_below {w w' : World} {hp : Hp} (h : allRd w.heap.size w hp) (hc : allC hp = true) (hb : Below w.heap.size w w') : allRd w'.heap.size w' hp := by
  induction hp with
  | nil => trivial
  | cons x hp ih =>
    obtain ⟨k, c⟩ := x
    obtain ⟨⟨h1, h2⟩, h3⟩ := h
    simp only [allC, Bool.and_eq_true] at hc
    exact ⟨⟨hold_any (h1.kept hb.size fun i hi => hb.block i (h1.lt i hi)) hc.1, h2⟩, ih h3 hc.2⟩
def depV (l : List Nd) (a : Int) : Int := if askV l a = 0 then (dpV l a.toNat : Int) else 0
theorem ofSize_any (l : List Nd) (hlen : l.length ≤ 100000) (hz : zsN l) (a : Int) (A : Option Addr) (c b : Nat) (bn on cn ba oa ca : Nat) (h4 : 4 ≤ cn) (h3 : 3 ≤ ca) (w : World) (h : allRd w.heap.size w (ofHp l A c b a bn on cn ba oa ca)) :
    Calls Tryz.prog 49 #[.slice A l.length c, .int .i64 a, den (.fn (.func 50) [] [.p 1001 b 0])] w (fun e w' => e = .returned (.tuple #[.int .i64 (sizV l a), .int .i64 (askV l a)]) ∧ Below w.heap.size w w') := by
  rcases ask_cases l a with ⟨h0, e⟩ | ⟨h0, e⟩ | e
  · have hv : sizV l a = 0 := by rw [sizV, if_neg (by rw [e]; exact h0)]
    rw [hv, e]
    exact ofSize_bad l h0 hlen hz a A c b bn on cn ba oa ca h4 h3 w h
  · have hv : sizV l a = 0 := by rw [sizV, if_neg (by rw [e]; decide)]
    rw [hv, e]
    exact ofSize_out l h0 hlen hz a e A c b bn on cn ba oa ca h4 h3 w h
  · have hw := ask_whole e
    have hv : sizV l a = sizP l a := by rw [sizV, if_pos e, sizP, eR, ← hw.same]
    rw [hv, e]
    exact ofSize_fine l hlen hz a e A c b bn on cn ba oa ca h4 h3 w h
set_option maxRecDepth 100000 in
set_option maxHeartbeats 4000000 in
theorem Size_any (l : List Nd) (hlen : l.length ≤ 100000) (hz : zsN l) (a : Int) (A : Option Addr) (c : Nat) (bn on cn ba oa ca : Nat) (h4 : 4 ≤ cn) (h3 : 3 ≤ ca) (w : World) (h : allRd w.heap.size w (odHp l A c bn on cn ba oa ca)) :
    Calls Tryz.prog 17 #[.slice A l.length c, .int .i64 a] w (fun e w' => e = .returned (.tuple #[.int .i64 (sizV l a), .int .i64 (askV l a)]) ∧ Below w.heap.size w w') := by
  have hb1 : Below w.heap.size w (w.alloc (.cells #[.int .i64 a] 3)) := (Below.refl _ w).alloc (Nat.le_refl _) _
  have hbx : (w.alloc (.cells #[.int .i64 a] 3)).heap[w.heap.size]? = some (.cells #[.int .i64 a] 3 (0, 0)) := World.alloc_heap_new w _
  have hcell : (w.alloc (.cells #[.int .i64 a] 3)).cell? ⟨w.heap.size, 0, none⟩ = some (.int .i64 a) := cell_blk hbx rfl
  have hof := ofSize_any l hlen hz a A c w.heap.size bn on cn ba oa ca h4 h3 (w.alloc (.cells #[.int .i64 a] 3)) ⟨⟨⟨lt_of hbx, fun j v hj => cell_blk hbx (j := 0 + j) (by simpa [dens, den] using hj)⟩, rfl⟩, allRd_below h rfl hb1⟩
  have hde : den (.fn (.func 50) [] [.p 1001 w.heap.size 0]) = .func (.func 50) #[] #[.pointer (some ⟨w.heap.size, 0, none⟩)] := rfl
  rw [hde] at hof
  refine (callsIn_wide (n := 5)).1 (callsIn_of_wp Tryz.func17 rfl trivial ?_ rfl)
  simp only [Tryz.ntmps17, List.size_toArray, List.length_cons, List.length_nil, Nat.reduceAdd, Nat.reduceSub, Array.replicate_succ, Array.replicate_zero, List.push_toArray, List.append_toArray, List.nil_append, List.cons_append]
  gi_wp2_with (refine ⟨trivial, ?_⟩; gi_at_call 49; refine ((callsIn_wide (n := 4)).2 hof).mono ?_; rintro e w' ⟨rfl, hb⟩)
  go_ret2
  exact ⟨rfl, hb1.trans (hb.mono hb1.size)⟩
def spSizeP : Spc
  | [.g k A n c, .v (.int .i64 a)], H, _ => .is (ckR A n c k H) (.tup [.v (.int .i64 (sizV (chL n (H k)) a)), .v (.int .i64 (askV (chL n (H k)) a))])
  | _, _, _ => .bad
theorem spSizeP_q {k n c : Nat} {A : Option Addr} {a : Int} {H : Nat → Ch} {nx : Nat} : spSizeP [.g k A n c, .v (.int .i64 a)] H nx = .is (ckR A n c k H) (.tup [.v (.int .i64 (sizV (chL n (H k)) a)), .v (.int .i64 (askV (chL n (H k)) a))]) := rfl
theorem spSizeP_ok : SpecOk Tryz.prog 17 spSizeP := by
  intro args hp nx w0 O w H hv
  unfold spSizeP at hv ⊢
  split at hv
  · next k A n c a =>
    obtain ⟨bn, on, cn, ba, oa, ca, h4, h3, hl, hr, ho⟩ := ck_old H hv rfl
    obtain ⟨_, hn, hz, _⟩ := hv
    generalize chL n (lookH hp k) = l at hl hz hr ho ⊢
    subst hl
    refine (Size_any l hn hz a A c bn on cn ba oa ca h4 h3 w hr).mono ?_
    rintro e w' ⟨rfl, hb⟩
    exact ⟨⟨0, none, 0, none, 0, mz⟩, rfl, .still hb⟩
  · exact hv.elim
theorem ofDepth_any (l : List Nd) (hlen : l.length ≤ 100000) (hz : zsN l) (a : Int) (A : Option Addr) (c b : Nat) (bn on cn ba oa ca : Nat) (h4 : 4 ≤ cn) (h3 : 3 ≤ ca) (w : World) (h : allRd w.heap.size w (ofHp l A c b a bn on cn ba oa ca)) :
    Calls Tryz.prog 49 #[.slice A l.length c, .int .i64 a, den (.fn (.func 52) [] [.p 1001 b 0])] w (fun e w' => e = .returned (.tuple #[.int .i64 (depV l a), .int .i64 (askV l a)]) ∧ Below w.heap.size w w') := by
  rcases ask_cases l a with ⟨h0, e⟩ | ⟨h0, e⟩ | e
  · have hv : depV l a = 0 := by rw [depV, if_neg (by rw [e]; exact h0)]
    rw [hv, e]
    exact ofDepth_bad l h0 hlen hz a A c b bn on cn ba oa ca h4 h3 w h
  · have hv : depV l a = 0 := by rw [depV, if_neg (by rw [e]; decide)]
    rw [hv, e]
    exact ofDepth_out l h0 hlen hz a e A c b bn on cn ba oa ca h4 h3 w h
  · have hw := ask_whole e
    have hv : depV l a = depP l a := by rw [depV, if_pos e]; rfl
    rw [hv, e]
    exact ofDepth_fine l hlen hz a e A c b bn on cn ba oa ca h4 h3 w h
set_option maxRecDepth 100000 in
set_option maxHeartbeats 4000000 in
theorem Depth_any (l : List Nd) (hlen : l.length ≤ 100000) (hz : zsN l) (a : Int) (A : Option Addr) (c : Nat) (bn on cn ba oa ca : Nat) (h4 : 4 ≤ cn) (h3 : 3 ≤ ca) (w : World) (h : allRd w.heap.size w (odHp l A c bn on cn ba oa ca)) :
    Calls Tryz.prog 19 #[.slice A l.length c, .int .i64 a] w (fun e w' => e = .returned (.tuple #[.int .i64 (depV l a), .int .i64 (askV l a)]) ∧ Below w.heap.size w w') := by
  have hb1 : Below w.heap.size w (w.alloc (.cells #[.int .i64 a] 3)) := (Below.refl _ w).alloc (Nat.le_refl _) _
  have hbx : (w.alloc (.cells #[.int .i64 a] 3)).heap[w.heap.size]? = some (.cells #[.int .i64 a] 3 (0, 0)) := World.alloc_heap_new w _
  have hcell : (w.alloc (.cells #[.int .i64 a] 3)).cell? ⟨w.heap.size, 0, none⟩ = some (.int .i64 a) := cell_blk hbx rfl
  have hof := ofDepth_any l hlen hz a A c w.heap.size bn on cn ba oa ca h4 h3 (w.alloc (.cells #[.int .i64 a] 3)) ⟨⟨⟨lt_of hbx, fun j v hj => cell_blk hbx (j := 0 + j) (by simpa [dens, den] using hj)⟩, rfl⟩, allRd_below h rfl hb1⟩
  have hde : den (.fn (.func 52) [] [.p 1001 w.heap.size 0]) = .func (.func 52) #[] #[.pointer (some ⟨w.heap.size, 0, none⟩)] := rfl
  rw [hde] at hof
  refine (callsIn_wide (n := 5)).1 (callsIn_of_wp Tryz.func19 rfl trivial ?_ rfl)
  simp only [Tryz.ntmps19, List.size_toArray, List.length_cons, List.length_nil, Nat.reduceAdd, Nat.reduceSub, Array.replicate_succ, Array.replicate_zero, List.push_toArray, List.append_toArray, List.nil_append, List.cons_append]
  gi_wp2_with (refine ⟨trivial, ?_⟩; gi_at_call 49; refine ((callsIn_wide (n := 4)).2 hof).mono ?_; rintro e w' ⟨rfl, hb⟩)
  go_ret2
  exact ⟨rfl, hb1.trans (hb.mono hb1.size)⟩
def spDepthP : Spc
  | [.g k A n c, .v (.int .i64 a)], H, _ => .is (ckR A n c k H) (.tup [.v (.int .i64 (depV (chL n (H k)) a)), .v (.int .i64 (askV (chL n (H k)) a))])
  | _, _, _ => .bad
theorem spDepthP_q {k n c : Nat} {A : Option Addr} {a : Int} {H : Nat → Ch} {nx : Nat} : spDepthP [.g k A n c, .v (.int .i64 a)] H nx = .is (ckR A n c k H) (.tup [.v (.int .i64 (depV (chL n (H k)) a)), .v (.int .i64 (askV (chL n (H k)) a))]) := rfl
theorem spDepthP_ok : SpecOk Tryz.prog 19 spDepthP := by
  intro args hp nx w0 O w H hv
  unfold spDepthP at hv ⊢
  split at hv
  · next k A n c a =>
    obtain ⟨bn, on, cn, ba, oa, ca, h4, h3, hl, hr, ho⟩ := ck_old H hv rfl
    obtain ⟨_, hn, hz, _⟩ := hv
    generalize chL n (lookH hp k) = l at hl hz hr ho ⊢
    subst hl
    refine (Depth_any l hn hz a A c bn on cn ba oa ca h4 h3 w hr).mono ?_
    rintro e w' ⟨rfl, hb⟩
    exact ⟨⟨0, none, 0, none, 0, mz⟩, rfl, .still hb⟩
  · exact hv.elim
theorem ofKids_any (l : List Nd) (hlen : l.length ≤ 100000) (hz : zsN l) (a : Int) (A : Option Addr) (c b : Nat) (bn on cn ba oa ca : Nat) (h4 : 4 ≤ cn) (h3 : 3 ≤ ca) (w : World) (h : allRd w.heap.size w (ofHp l A c b a bn on cn ba oa ca)) :
    Calls Tryz.prog 53 #[.slice A l.length c, .int .i64 a, den (.fn (.func 54) [] [.p 1001 b 0])] w (LsQ2 (oldOf (ofHp l A c b a bn on cn ba oa ca)) (kidI l a.toNat) (askV l a) w) := by
  rcases ask_cases l a with ⟨h0, e⟩ | ⟨h0, e⟩ | e
  · rw [e]
    exact (ofKids_bad l h0 hlen hz a A c b bn on cn ba oa ca h4 h3 w h).mono fun e w' ⟨he, hb⟩ => ⟨hb, .inl ⟨h0, he⟩⟩
  · rw [e]
    exact (ofKids_out l h0 hlen hz a e A c b bn on cn ba oa ca h4 h3 w h).mono fun e w' ⟨he, hb⟩ => ⟨hb, .inl ⟨by decide, he⟩⟩
  · have hv : kidI l a.toNat = ksI l a.toNat := by rw [kidI, ksI, ((ask_whole e).kids (chk_ok (ask_ok e).1).2.2.1.fine).1]
    rw [hv, e]
    exact ofKids_fine l hlen hz a e A c b bn on cn ba oa ca h4 h3 w h
set_option maxRecDepth 100000 in
set_option maxHeartbeats 4000000 in
theorem Kids_any (l : List Nd) (hlen : l.length ≤ 100000) (hz : zsN l) (a : Int) (A : Option Addr) (c : Nat) (bn on cn ba oa ca : Nat) (h4 : 4 ≤ cn) (h3 : 3 ≤ ca) (w : World) (h : allRd w.heap.size w (odHp l A c bn on cn ba oa ca)) :
    Calls Tryz.prog 21 #[.slice A l.length c, .int .i64 a] w (LsQ2 (oldOf (odHp l A c bn on cn ba oa ca)) (kidI l a.toNat) (askV l a) w) := by
  have hb1 : Below w.heap.size w (w.alloc (.cells #[.int .i64 a] 3)) := (Below.refl _ w).alloc (Nat.le_refl _) _
  have hbx : (w.alloc (.cells #[.int .i64 a] 3)).heap[w.heap.size]? = some (.cells #[.int .i64 a] 3 (0, 0)) := World.alloc_heap_new w _
  have hcell : (w.alloc (.cells #[.int .i64 a] 3)).cell? ⟨w.heap.size, 0, none⟩ = some (.int .i64 a) := cell_blk hbx rfl
  have hof := ofKids_any l hlen hz a A c w.heap.size bn on cn ba oa ca h4 h3 (w.alloc (.cells #[.int .i64 a] 3)) ⟨⟨⟨lt_of hbx, fun j v hj => cell_blk hbx (j := 0 + j) (by simpa [dens, den] using hj)⟩, rfl⟩, allRd_below h rfl hb1⟩
  have hde : den (.fn (.func 54) [] [.p 1001 w.heap.size 0]) = .func (.func 54) #[] #[.pointer (some ⟨w.heap.size, 0, none⟩)] := rfl
  rw [hde] at hof
  refine (callsIn_wide (n := 5)).1 (callsIn_of_wp Tryz.func21 rfl trivial ?_ rfl)
  simp only [Tryz.ntmps21, List.size_toArray, List.length_cons, List.length_nil, Nat.reduceAdd, Nat.reduceSub, Array.replicate_succ, Array.replicate_zero, List.push_toArray, List.append_toArray, List.nil_append, List.cons_append]
  gi_wp2_with (refine ⟨trivial, ?_⟩; gi_at_call 53; refine ((callsIn_wide (n := 4)).2 hof).mono ?_; rintro e w' ⟨hb, ⟨h0, rfl⟩ | ⟨h0, B, d, rfl, hs, hf⟩⟩)
  · go_ret2
    exact ⟨hb1.trans (hb.mono hb1.size), .inl ⟨h0, rfl⟩⟩
  · go_ret2
    refine ⟨hb1.trans (hb.mono hb1.size), .inr ⟨h0, B, d, by simp, ⟨hs.1, hs.2⟩, fun b hbf => ?_⟩⟩
    rcases hf b hbf with h5 | ⟨k, h5⟩
    · exact .inl (by have := hb1.size; omega)
    · by_cases hk : k = 1001
      · subst hk
        have : b = w.heap.size := h5
        exact .inl (by omega)
      · refine .inr ⟨k, ?_⟩
        have e1 : (1001 == k) = false := by simpa using fun e => hk e.symm
        simpa only [ofHp, lookH, e1, cond_false] using h5
def spKidsP : Spc
  | [.g k A n c, .v (.int .i64 a)], H, nx => lsR (ckR A n c k H) (kidI (chL n (H k)) a.toNat) (askV (chL n (H k)) a) nx
  | _, _, _ => .bad
theorem spKidsP_q {k n c : Nat} {A : Option Addr} {a : Int} {H : Nat → Ch} {nx : Nat} : spKidsP [.g k A n c, .v (.int .i64 a)] H nx = lsR (ckR A n c k H) (kidI (chL n (H k)) a.toNat) (askV (chL n (H k)) a) nx := rfl
theorem spKidsP_ok : SpecOk Tryz.prog 21 spKidsP := by
  intro args hp nx w0 O w H hv
  unfold spKidsP at hv ⊢
  split at hv
  · next k A n c a =>
    have hc := lsR_vc hv
    obtain ⟨bn, on, cn, ba, oa, ca, h4, h3, hl, hr, ho⟩ := ck_old H hc rfl
    obtain ⟨_, hn, hz, _⟩ := hc
    generalize chL n (lookH hp k) = l at hl hz hr ho hv ⊢
    subst hl
    exact (Kids_any l hn hz a A c bn on cn ba oa ca h4 h3 w hr).mono fun e w' hq => lsR_ok H ho hq
  · exact hv.elim
end Pr
end Go.Proofs.YtpkldfkmokeamaaGreatDoor
