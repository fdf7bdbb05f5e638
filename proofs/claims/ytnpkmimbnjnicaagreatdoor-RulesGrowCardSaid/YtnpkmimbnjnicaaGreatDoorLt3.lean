/-
The reference of chapter 3: Below, ordered, downs, nearest, Check, asked, Leq.
-/
import Derived.Test.YtnpkmimbnjnicaaGreatDoorLt2
set_option linter.unusedSimpArgs false
set_option linter.unusedVariables false
namespace Go.Proofs.YtnpkmimbnjnicaaGreatDoor
namespace Pr
open Go Go.RowKit En
open Lt
def belV (us : List Int) (a b : Int) : Bool := bif decide (0 ≤ a) then (bif decide (a < us.length) then (bif decide (0 ≤ b) then (us.getD a.toNat 0 / 2 ^ min b.toNat 8).tmod 2 == 1 else false) else false) else false
theorem belV_nat {us : List Int} (hB : Bytes us) {a b : Nat} (ha : a < us.length) (hb : b < 8) : belV us a b = bl us a b := by
  unfold belV
  rw [decide_eq_true (by omega : (0 : Int) ≤ a), decide_eq_true (by omega : (a : Int) < us.length), decide_eq_true (by omega : (0 : Int) ≤ b)]
  simp only [cond_true, Int.toNat_natCast]
  have h1 := hB a
  rw [Nat.min_eq_left (by omega : b ≤ 8)]
  have := tm8 ⟨(us.getD a 0).toNat, by omega⟩ ⟨b, hb⟩
  simp only [Int.toNat_of_nonneg h1.1] at this
  rw [this]
  show ((if bl us a b then (1 : Int) else 0) == 1) = _
  cases bl us a b <;> rfl
theorem belV_lab {us : List Int} (hB : Bytes us) (h8 : us.length ≤ 8) {a b : Int} (ha : lab us a) (hb : lab us b) : belV us a b = leI us a b := by
  have h1 := ha.1; have h2 := ha.2; have h3 := hb.1; have h4 := hb.2
  have := belV_nat hB (a := a.toNat) (b := b.toNat) (by omega) (by omega)
  rw [Int.toNat_of_nonneg h1, Int.toNat_of_nonneg h3] at this
  exact this
set_option maxRecDepth 100000 in
set_option maxHeartbeats 4000000 in
theorem below_any (ns : List ByteArray) (us : List Int) (A B : Option Addr) (c d : Nat) (a b : Int) (hB : Bytes us) (w : World) (hg : allRd w.heap.size w [(1001, .strs A c ns), (1002, .ints B d .u8 us)]) :
    Calls Tryz.prog 50 (dens [.agg [.g 1001 A ns.length c, .g 1002 B us.length d], .v (.int .i64 a), .v (.int .i64 b)]).toArray w fun e w' => e = .returned (.bool (belV us a b)) ∧ Below w.heap.size w w' := by
  obtain ⟨q, hq⟩ : ∃ q, q = belV us a b := ⟨_, rfl⟩
  rw [← hq]
  refine calls_go (args := [.agg [.g 1001 A ns.length c, .g 1002 B us.length d], .v (.int .i64 a), .v (.int .i64 b)]) (hp := [(1001, .strs A c ns), (1002, .ints B d .u8 us)]) (nx := 2000) (n := 600) (U := [(1000000, 37)]) (V := []) (tl := tlLt) (gl := gl0) (post := fun s' ys => ys = [.v (.bool q)])
    followP tlLt_ok gl0_ok Tryz.func50 rfl (by kernel_rfl) (Nat.le_of_ble_eq_true (by kernel_rfl)) (by kernel_rfl) (by kernel_rfl) (hh_list hg) (free_list (by simp [allLt])) ?_ ?_
  · rintro s ys w' rfl H
    exact ⟨rfl, H.below⟩
  intro L F T G nd va hE
  obtain ⟨hL, hF, hs, hv, hT, hG, hR, hI, hJ, hW⟩ := hE
  rw [Tryz.results50] at hF
  simp (maxSteps := 1000000) only [En.nN, En.E, En.evsC, List.map_cons, List.map_nil, Nat.reduceBEq, Nat.reduceAdd, Nat.reduceMul, Nat.reduceEqDiff, Nat.reduceLeDiff, Nat.reduceLT, ne_eq, reduceCtorEq, Int.reduceBEq, Int.reduceBNe, Int.reduceAdd, Int.reduceSub, Int.reduceMul, Int.reduceTDiv, Int.reduceTMod, Int.reduceNeg, En.bitN, Nat.testBit, Nat.reduceShiftRight, Nat.reduceShiftLeft, Nat.reduceAnd, Nat.reduceOr, Nat.reduceBNe, Int.reduceToNat, Nat.reduceSub, Int.reduceLE, Int.reduceLT] at hv
  simp only [En.at_nil, En.at_cons, En.ag_nil, En.ag_cons, and_true, tlLt, gl0, tyInt, tyU8, tyBool, tyStr, tyErr, tyStrs, tyBytes, tyInts, tyLat, tyA8, tyUps, tyDns, tyOrd, tyUint] at hT hG
  unfold belV at hq
  cases h1 : decide (0 ≤ a) <;> rw [h1] at hq
  · simp (maxSteps := 10000000) only [En.E, En.evsC, List.map_cons, List.map_nil, Nat.reduceBEq, Nat.reduceAdd, Nat.reduceMul, Nat.reduceEqDiff, Nat.reduceLeDiff, Nat.reduceLT, ne_eq, reduceCtorEq, Int.reduceBEq, Int.reduceBNe, Int.reduceAdd, Int.reduceSub, Int.reduceMul, Int.reduceTDiv, Int.reduceTMod, Int.reduceNeg, En.bitN, Nat.testBit, Nat.reduceShiftRight, Nat.reduceShiftLeft, Nat.reduceAnd, Nat.reduceOr, Nat.reduceBNe, Int.reduceToNat, Nat.reduceSub, Int.reduceLE, Int.reduceLT, En.vV, hs, hv, hT, hG, hF, h1, hq]
  · cases h2 : decide (a < us.length) <;> rw [h2] at hq
    · simp (maxSteps := 10000000) only [En.E, En.evsC, List.map_cons, List.map_nil, Nat.reduceBEq, Nat.reduceAdd, Nat.reduceMul, Nat.reduceEqDiff, Nat.reduceLeDiff, Nat.reduceLT, ne_eq, reduceCtorEq, Int.reduceBEq, Int.reduceBNe, Int.reduceAdd, Int.reduceSub, Int.reduceMul, Int.reduceTDiv, Int.reduceTMod, Int.reduceNeg, En.bitN, Nat.testBit, Nat.reduceShiftRight, Nat.reduceShiftLeft, Nat.reduceAnd, Nat.reduceOr, Nat.reduceBNe, Int.reduceToNat, Nat.reduceSub, Int.reduceLE, Int.reduceLT, En.vV, hs, hv, hT, hG, hF, h1, h2, hq]
    · cases h3 : decide (0 ≤ b) <;> rw [h3] at hq
      · simp (maxSteps := 10000000) only [En.E, En.evsC, List.map_cons, List.map_nil, Nat.reduceBEq, Nat.reduceAdd, Nat.reduceMul, Nat.reduceEqDiff, Nat.reduceLeDiff, Nat.reduceLT, ne_eq, reduceCtorEq, Int.reduceBEq, Int.reduceBNe, Int.reduceAdd, Int.reduceSub, Int.reduceMul, Int.reduceTDiv, Int.reduceTMod, Int.reduceNeg, En.bitN, Nat.testBit, Nat.reduceShiftRight, Nat.reduceShiftLeft, Nat.reduceAnd, Nat.reduceOr, Nat.reduceBNe, Int.reduceToNat, Nat.reduceSub, Int.reduceLE, Int.reduceLT, En.vV, hs, hv, hT, hG, hF, h1, h2, h3, hq]
      · have a0 := of_decide_eq_true h1
        have a1 := of_decide_eq_true h2
        simp (maxSteps := 10000000) only [En.E, En.evsC, List.map_cons, List.map_nil, Nat.reduceBEq, Nat.reduceAdd, Nat.reduceMul, Nat.reduceEqDiff, Nat.reduceLeDiff, Nat.reduceLT, ne_eq, reduceCtorEq, Int.reduceBEq, Int.reduceBNe, Int.reduceAdd, Int.reduceSub, Int.reduceMul, Int.reduceTDiv, Int.reduceTMod, Int.reduceNeg, En.bitN, Nat.testBit, Nat.reduceShiftRight, Nat.reduceShiftLeft, Nat.reduceAnd, Nat.reduceOr, Nat.reduceBNe, Int.reduceToNat, Nat.reduceSub, Int.reduceLE, Int.reduceLT, En.vV, hs, hv, hT, hG, hF, h1, h2, h3, hq]
        exact ⟨⟨a0, a1⟩, ⟨a0, by omega⟩, of_decide_eq_true h3, by decide⟩
def spBelow : Spc
  | [.agg [.g k A n c, .g j B m d], .v (.int .i64 a), .v (.int .i64 b)], H, _ => .is (latR A n c B m d (H k) (H j) ∧ True) (.v (.bool (belV (latU (H j)) a b)))
  | _, _, _ => .bad
theorem spBelow_q {k n c j m d : Nat} {A B : Option Addr} {a b : Int} {H : Nat → Ch} {nx : Nat} : spBelow [.agg [.g k A n c, .g j B m d], .v (.int .i64 a), .v (.int .i64 b)] H nx = .is (latR A n c B m d (H k) (H j) ∧ True) (.v (.bool (belV (latU (H j)) a b))) := (rfl)
theorem spBelow_ok : SpecOk Tryz.prog 50 spBelow := by
  intro args hp nx w0 O w H hv
  unfold spBelow at hv ⊢
  split at hv
  · next k A n c j B m d a b =>
    obtain ⟨hl, hx⟩ := hv
    obtain ⟨x1, x2, x3, x4, x5⟩ := latR_of hl
    have h1 := H.hold k
    have h2 := H.hold j
    rw [x1] at h1
    rw [x2] at h2
    have := below_any (latN (lookH hp k)) (latU (lookH hp j)) A B c d a b x5 w ⟨⟨h1, rfl⟩, ⟨h2, rfl⟩, trivial⟩
    rw [← x3, ← x4] at this
    refine this.mono ?_
    rintro e w' ⟨rfl, hb⟩
    exact ⟨⟨0, none, 0, none, 0, mz⟩, rfl, .still hb⟩
  · exact hv.elim
def nrI (B : Option Addr) (d : Nat) (us : List Int) (x : Int) (i : Nat) (a b : Int) : SS :=
  ⟨[(0, .g 1002 B us.length d), (7, .v (.int .u8 x)), (8, .v (.int .i64 i))], [(1002, .ints B d .u8 us)], 12000⟩
theorem near_val {us : List Int} (hB : Bytes us) {a b c : Nat} : (us.getD c 0 == bits .and .u8 (us.getD a 0) (us.getD b 0)) = (uN us c == (uN us a &&& uN us b)) := by
  rw [(bits8 (hB a) (hB b)).1]
  have := hB c
  apply Bool.eq_iff_iff.2
  rw [beq_iff_eq, beq_iff_eq]
  unfold uN
  omega
set_option maxRecDepth 100000 in
set_option maxHeartbeats 4000000 in
theorem rnear_any (us : List Int) (hl : us.length ≤ 100000) (B : Option Addr) (d : Nat) (a b : Nat) (ha : a < us.length) (hb : b < us.length) (hB : Bytes us) (w : World) (hg : Hold w.heap.size w (.ints B d .u8 us)) :
    Calls Tryz.prog 82 (dens [.g 1002 B us.length d, .v (.int .i64 a), .v (.int .i64 b)]).toArray w fun e w' => e = .returned (.int .i64 (nearN (uN us) us.length a b)) ∧ Below w.heap.size w w' := by
  obtain ⟨q, hq⟩ : ∃ q, q = nearN (uN us) us.length a b := ⟨_, rfl⟩
  rw [← hq]
  refine calls_go (args := [.g 1002 B us.length d, .v (.int .i64 a), .v (.int .i64 b)]) (hp := [(1002, .ints B d .u8 us)]) (nx := 2000) (n := 600) (U := [(1000000, 17)]) (V := []) (tl := tlLt) (gl := gl0) (post := fun s' ys => ys = [.v (.int .i64 q)])
    followP tlLt_ok gl0_ok Tryz.func82 rfl (by kernel_rfl) (Nat.le_of_ble_eq_true (by kernel_rfl)) (by kernel_rfl) (by kernel_rfl) (hh_list ⟨⟨hg, rfl⟩, trivial⟩) (free_list (by simp [allLt])) ?_ ?_
  · rintro s ys w' rfl H
    exact ⟨rfl, H.below⟩
  intro L F T G nd va hE
  obtain ⟨hL, hF, hs, hv, hT, hG, hR, hI, hJ, hW⟩ := hE
  rw [Tryz.results82] at hF
  simp (maxSteps := 1000000) only [En.nN, En.E, En.evsC, List.map_cons, List.map_nil, Nat.reduceBEq, Nat.reduceAdd, Nat.reduceMul, Nat.reduceEqDiff, Nat.reduceLeDiff, Nat.reduceLT, ne_eq, reduceCtorEq, Int.reduceBEq, Int.reduceBNe, Int.reduceAdd, Int.reduceSub, Int.reduceMul, Int.reduceTDiv, Int.reduceTMod, Int.reduceNeg, En.bitN, Nat.testBit, Nat.reduceShiftRight, Nat.reduceShiftLeft, Nat.reduceAnd, Nat.reduceOr, Nat.reduceBNe, Int.reduceToNat, Nat.reduceSub, Int.reduceLE, Int.reduceLT] at hv
  simp only [En.at_nil, En.at_cons, En.ag_nil, En.ag_cons, and_true, tlLt, gl0, tyInt, tyU8, tyBool, tyStr, tyErr, tyStrs, tyBytes, tyInts, tyLat, tyA8, tyUps, tyDns, tyOrd, tyUint] at hT hG
  simp (maxSteps := 10000000) only [En.E, En.evsC, List.map_cons, List.map_nil, Nat.reduceBEq, Nat.reduceAdd, Nat.reduceMul, Nat.reduceEqDiff, Nat.reduceLeDiff, Nat.reduceLT, ne_eq, reduceCtorEq, Int.reduceBEq, Int.reduceBNe, Int.reduceAdd, Int.reduceSub, Int.reduceMul, Int.reduceTDiv, Int.reduceTMod, Int.reduceNeg, En.bitN, Nat.testBit, Nat.reduceShiftRight, Nat.reduceShiftLeft, Nat.reduceAnd, Nat.reduceOr, Nat.reduceBNe, Int.reduceToNat, Nat.reduceSub, Int.reduceLE, Int.reduceLT, En.vV, hs, hv, hT, hG, hF, Int.toNat_natCast]
  refine ⟨by omega, by omega, by omega, by omega, ?_⟩
  refine hI {i : Nat // i ≤ us.length ∧ ∀ j, j < i → uN us j ≠ uN us a &&& uN us b} (fun x => nrI B d us (bits .and .u8 (us.getD a 0) (us.getD b 0)) x.1 a b) (fun x => us.length - x.1) _ _ _ ⟨0, Nat.zero_le _, fun j hj => absurd hj (Nat.not_lt_zero j)⟩ (sle_all [1002] (by decide) (by simp only [En.E, En.evsC, List.map_cons, List.map_nil, Nat.reduceBEq, Nat.reduceAdd, Nat.reduceMul, Nat.reduceEqDiff, Nat.reduceLeDiff, Nat.reduceLT, ne_eq, reduceCtorEq, Int.reduceBEq, Int.reduceBNe, Int.reduceAdd, Int.reduceSub, Int.reduceMul, Int.reduceTDiv, Int.reduceTMod, Int.reduceNeg, En.bitN, Nat.testBit, Nat.reduceShiftRight, Nat.reduceShiftLeft, Nat.reduceAnd, Nat.reduceOr, Nat.reduceBNe, Int.reduceToNat, Nat.reduceSub, Int.reduceLE, Int.reduceLT, En.slLe, En.hpLe, En.chE, En.allLt, nrI, Int.cast_ofNat_Int])) ?_
  rintro ⟨i, hi, hp⟩
  refine hR 600 _ _ ?_
  by_cases hlt : i < us.length
  · have d0 : decide ((i : Int) < (us.length : Int)) = true := decide_eq_true (by omega)
    have i1 : inr .i64 ((i : Int) + 1) := by simp only [En.inr, En.lo, En.hi]; omega
    have e1 := near_val hB (a := a) (b := b) (c := i)
    cases h1 : (uN us i == (uN us a &&& uN us b)) <;> rw [h1] at e1
    · simp (maxSteps := 10000000) only [En.E, En.evsC, List.map_cons, List.map_nil, Nat.reduceBEq, Nat.reduceAdd, Nat.reduceMul, Nat.reduceEqDiff, Nat.reduceLeDiff, Nat.reduceLT, ne_eq, reduceCtorEq, Int.reduceBEq, Int.reduceBNe, Int.reduceAdd, Int.reduceSub, Int.reduceMul, Int.reduceTDiv, Int.reduceTMod, Int.reduceNeg, En.bitN, Nat.testBit, Nat.reduceShiftRight, Nat.reduceShiftLeft, Nat.reduceAnd, Nat.reduceOr, Nat.reduceBNe, Int.reduceToNat, Nat.reduceSub, Int.reduceLE, Int.reduceLT, En.vV, hs, hv, hT, hG, hF, nrI, d0, Int.toNat_natCast, e1, i1]
      refine ⟨by omega, by omega, ⟨i + 1, by omega, fun j hj => ?_⟩, (sle_all [1002] (by decide) (by simp only [En.E, En.evsC, List.map_cons, List.map_nil, Nat.reduceBEq, Nat.reduceAdd, Nat.reduceMul, Nat.reduceEqDiff, Nat.reduceLeDiff, Nat.reduceLT, ne_eq, reduceCtorEq, Int.reduceBEq, Int.reduceBNe, Int.reduceAdd, Int.reduceSub, Int.reduceMul, Int.reduceTDiv, Int.reduceTMod, Int.reduceNeg, En.bitN, Nat.testBit, Nat.reduceShiftRight, Nat.reduceShiftLeft, Nat.reduceAnd, Nat.reduceOr, Nat.reduceBNe, Int.reduceToNat, Nat.reduceSub, Int.reduceLE, Int.reduceLT, En.slLe, En.hpLe, En.chE, En.allLt, nrI, Int.natCast_add, Int.cast_ofNat_Int])), by simp only; omega⟩
      by_cases e : j = i
      · rw [e]; simpa using h1
      · exact hp j (by omega)
    · have hq' : q = i := by rw [hq, near_at hlt hp (eq_of_beq h1)]
      simp (maxSteps := 10000000) only [En.E, En.evsC, List.map_cons, List.map_nil, Nat.reduceBEq, Nat.reduceAdd, Nat.reduceMul, Nat.reduceEqDiff, Nat.reduceLeDiff, Nat.reduceLT, ne_eq, reduceCtorEq, Int.reduceBEq, Int.reduceBNe, Int.reduceAdd, Int.reduceSub, Int.reduceMul, Int.reduceTDiv, Int.reduceTMod, Int.reduceNeg, En.bitN, Nat.testBit, Nat.reduceShiftRight, Nat.reduceShiftLeft, Nat.reduceAnd, Nat.reduceOr, Nat.reduceBNe, Int.reduceToNat, Nat.reduceSub, Int.reduceLE, Int.reduceLT, En.vV, hs, hv, hT, hG, hF, nrI, d0, Int.toNat_natCast, e1, hq']
      omega
  · have d0 : decide ((i : Int) < (us.length : Int)) = false := decide_eq_false (by omega)
    have hq' : q = -1 := by rw [hq, near_no fun j hj => hp j (by omega)]
    simp (maxSteps := 10000000) only [En.E, En.evsC, List.map_cons, List.map_nil, Nat.reduceBEq, Nat.reduceAdd, Nat.reduceMul, Nat.reduceEqDiff, Nat.reduceLeDiff, Nat.reduceLT, ne_eq, reduceCtorEq, Int.reduceBEq, Int.reduceBNe, Int.reduceAdd, Int.reduceSub, Int.reduceMul, Int.reduceTDiv, Int.reduceTMod, Int.reduceNeg, En.bitN, Nat.testBit, Nat.reduceShiftRight, Nat.reduceShiftLeft, Nat.reduceAnd, Nat.reduceOr, Nat.reduceBNe, Int.reduceToNat, Nat.reduceSub, Int.reduceLE, Int.reduceLT, En.vV, hs, hv, hT, hG, hF, nrI, d0, hq']
def bL (n : Nat) (f : Nat → Int) : List SV := (List.range n).map fun i => .v (.int .u8 (f i))
theorem bL_len {n : Nat} {f : Nat → Int} : lenS (bL n f) = n := by rw [lenS_eq]; simp [bL]
theorem nth_map {g : Nat → SV} : ∀ {n i : Nat}, i < n → nth ((List.range n).map g) i = g i := by
  intro n i h
  have key : ∀ (l : List SV) (i : Nat), nth l i = l.getD i .un := by
    intro l
    induction l with
    | nil => intro i; cases i <;> rfl
    | cons x l ih =>
      intro i
      cases i with
      | zero => rfl
      | succ i => exact ih i
  rw [key, List.getD_eq_getElem?_getD]
  simp [h]
theorem bL_nth {n : Nat} {f : Nat → Int} {i : Nat} (h : i < n) : nth (bL n f) i = .v (.int .u8 (f i)) := nth_map h
theorem rep_eq {x : SV} : ∀ n, rep n [x] = List.replicate n x := by
  intro n
  induction n with
  | zero => rfl
  | succ n ih => rw [rep, ih]; rfl
theorem bL_zero {n : Nat} : rep n [.v (.int .u8 0)] = bL n fun _ => 0 := by
  rw [rep_eq]
  unfold bL
  rw [List.map_const', List.length_range]
theorem putAt_eq {x : SV} : ∀ (l : List SV) (i : Nat), putAt l i [x] = l.set i x := by
  intro l
  induction l with
  | nil => intro i; cases i <;> rfl
  | cons y l ih =>
    intro i
    cases i with
    | zero => show x :: putAt l 0 [] = x :: l; cases l <;> rfl
    | succ i => show y :: putAt l i [x] = y :: l.set i x; rw [ih]
theorem bL_put {n : Nat} {f : Nat → Int} {i : Nat} {x : Int} : putAt (bL n f) i [.v (.int .u8 x)] = bL n (upd f i x) := by
  rw [putAt_eq]
  apply List.ext_getElem (by simp [bL])
  intro j h1 h2
  simp only [bL, List.getElem_set, List.getElem_map, List.getElem_range, upd]
  by_cases e : i = j
  · subst e; simp
  · rw [if_neg e, if_neg (Ne.symm e)]
def dwI (b b2 : Nat) (A B : Option Addr) (c d : Nat) (ns : List ByteArray) (us : List Int) (k : Nat) : SS :=
  ⟨[(1, .p 2000 b 0), (3, .gp 2512 b2 0 ns.length ns.length), (4, .v (.int .i64 k))], (2512, .blk b2 (bL ns.length (dnF us ns.length k 0)) 5) :: chkHp b A B c d ns us, 12000⟩
def dwJ (b b2 : Nat) (A B : Option Addr) (c d : Nat) (ns : List ByteArray) (us : List Int) (k j : Nat) : SS :=
  ⟨[(1, .p 2000 b 0), (3, .gp 2512 b2 0 ns.length ns.length), (4, .v (.int .i64 k)), (5, .v (.int .i64 j))], (2512, .blk b2 (bL ns.length (dnF us ns.length k j)) 5) :: chkHp b A B c d ns us, 14000⟩
theorem dn_keep {us : List Int} {n k j : Nat} (h : bl us k j = false) : dnF us n k (j + 1) = dnF us n k j := by
  funext i
  unfold dnF
  by_cases e : i = j
  · subst e
    by_cases hn : i < n
    · simp [hn, dN, h]
    · simp [hn]
  · have : (i < j + 1) = (i < j) := by apply propext; omega
    simp only [this]
theorem dn_set {us : List Int} {n k j : Nat} (hj : j < n) (hk : k < 8) (h : bl us k j = true) : upd (dnF us n k j) j (bits .or .u8 (dnF us n k j j) (1 * 2 ^ min k 8)) = dnF us n k (j + 1) := by
  funext i
  unfold upd
  by_cases e : i = j
  · subst e
    have e1 : dnF us n k i i = (dN us i k : Nat) := by simp [dnF, hj]
    have e2 : dnF us n k (i + 1) i = (dN us i (k + 1) : Nat) := by simp [dnF, hj]
    have h256 : dN us i k < 256 := Nat.lt_of_lt_of_le (dN_lt us i k) (Nat.le_trans (Nat.pow_le_pow_right (by decide) (by omega : k ≤ 8)) (by decide))
    have hp : 2 ^ k ≤ 128 := Nat.le_trans (Nat.pow_le_pow_right (by decide) (by omega : k ≤ 7)) (by decide)
    rw [if_pos rfl, e1, e2, Nat.min_eq_left (by omega : k ≤ 8), Int.one_mul]
    simp only [dN]
    have hc : ((2 : Int) ^ k) = ((2 ^ k : Nat) : Int) := by simp
    rw [hc, if_pos h]
    generalize 2 ^ k = z at hp ⊢
    rw [(bits8 ⟨by omega, by omega⟩ ⟨by omega, by omega⟩).2]
    simp
  · rw [if_neg e]
    unfold dnF
    have : (i < j + 1) = (i < j) := by apply propext; omega
    simp only [this]
theorem one_sh {k : Nat} (hk : k < 8) : inr .u8 (1 * 2 ^ min k 8) := by
  have hp : 2 ^ k ≤ 128 := Nat.le_trans (Nat.pow_le_pow_right (by decide) (by omega : k ≤ 7)) (by decide)
  have hc : ((2 : Int) ^ k) = ((2 ^ k : Nat) : Int) := by simp
  rw [Nat.min_eq_left (by omega : k ≤ 8), Int.one_mul, hc]
  generalize 2 ^ k = z at hp ⊢
  simp only [En.inr, En.lo, En.hi]
  omega
def glDw : List (FuncId × Spc) := [(50, spBelow)]
theorem glDw_ok : GOk Tryz.prog (lookG glDw) := lG_cons (by kernel_rfl) spBelow_ok lG_nil
def dnL (us : List Int) : List Int := (List.range us.length).map fun b => (dN us b us.length : Int)
theorem bL_dens {n : Nat} {f : Nat → Int} : dens (bL n f) = ((List.range n).map f).map (.int .u8) := by
  rw [dens_eq]; simp [bL, den]
set_option maxRecDepth 100000 in
set_option maxHeartbeats 8000000 in
theorem downs_any (ns : List ByteArray) (us : List Int) (A B : Option Addr) (c d : Nat) (hl : us.length = ns.length) (h8 : us.length ≤ 8) (hB : Bytes us) (w : World) (hg : allRd w.heap.size w [(1001, .strs A c ns), (1002, .ints B d .u8 us)]) :
    Calls Tryz.prog 81 (dens [.agg [.g 1001 A ns.length c, .g 1002 B us.length d]]).toArray w fun e w' => ∃ b2 k, e = .returned (.slice (some ⟨b2, 0, none⟩) us.length us.length) ∧ ∃ hp, lookH hp k = .blk b2 (bL ns.length (dnF us ns.length us.length 0)) 5 ∧ HH w (oldOf [(1001, .strs A c ns), (1002, .ints B d .u8 us)]) hp w' := by
  refine calls_go (args := [.agg [.g 1001 A ns.length c, .g 1002 B us.length d]]) (hp := [(1001, .strs A c ns), (1002, .ints B d .u8 us)]) (nx := 2000) (n := 600) (U := [(1000000, 7)]) (V := []) (tl := tlLt) (gl := glDw) (post := fun s' ys => ∃ b2 k, ys = [.gp k b2 0 ns.length ns.length] ∧ lookH s'.hp k = .blk b2 (bL ns.length (dnF us ns.length us.length 0)) 5)
    followP tlLt_ok glDw_ok Tryz.func81 rfl (by kernel_rfl) (Nat.le_of_ble_eq_true (by kernel_rfl)) (by kernel_rfl) (by kernel_rfl) (hh_list hg) (free_list (by simp [allLt])) ?_ ?_
  · rintro s ys w' ⟨b2, k, rfl, h⟩ H
    exact ⟨b2, k, by rw [hl]; rfl, s.hp, h, H⟩
  intro L F T G nd va hE
  obtain ⟨hL, hF, hs, hv, hT, hG, hR, hI, hJ, hW⟩ := hE
  rw [Tryz.results81] at hF
  simp (maxSteps := 1000000) only [En.nN, En.E, En.evsC, List.map_cons, List.map_nil, Nat.reduceBEq, Nat.reduceAdd, Nat.reduceMul, Nat.reduceEqDiff, Nat.reduceLeDiff, Nat.reduceLT, ne_eq, reduceCtorEq, Int.reduceBEq, Int.reduceBNe, Int.reduceAdd, Int.reduceSub, Int.reduceMul, Int.reduceTDiv, Int.reduceTMod, Int.reduceNeg, En.bitN, Nat.testBit, Nat.reduceShiftRight, Nat.reduceShiftLeft, Nat.reduceAnd, Nat.reduceOr, Nat.reduceBNe, Int.reduceToNat, Nat.reduceSub, Int.reduceLE, Int.reduceLT] at hv
  simp only [En.at_nil, En.at_cons, En.ag_nil, En.ag_cons, and_true, tlLt, glDw, tyInt, tyU8, tyBool, tyStr, tyErr, tyStrs, tyBytes, tyInts, tyLat, tyA8, tyUps, tyDns, tyOrd, tyUint] at hT hG
  simp (maxSteps := 10000000) only [En.E, En.evsC, List.map_cons, List.map_nil, Nat.reduceBEq, Nat.reduceAdd, Nat.reduceMul, Nat.reduceEqDiff, Nat.reduceLeDiff, Nat.reduceLT, ne_eq, reduceCtorEq, Int.reduceBEq, Int.reduceBNe, Int.reduceAdd, Int.reduceSub, Int.reduceMul, Int.reduceTDiv, Int.reduceTMod, Int.reduceNeg, En.bitN, Nat.testBit, Nat.reduceShiftRight, Nat.reduceShiftLeft, Nat.reduceAnd, Nat.reduceOr, Nat.reduceBNe, Int.reduceToNat, Nat.reduceSub, Int.reduceLE, Int.reduceLT, En.vV, hs, hv, hT, hG, hF, Int.toNat_natCast]
  intro b
  refine ⟨by omega, ?_⟩
  intro b2
  refine hI {k : Nat // k ≤ us.length} (fun x => dwI b b2 A B c d ns us x.1) (fun x => us.length - x.1) _ _ _ ⟨0, Nat.zero_le _⟩ (sle_all [2512, 2000, 1001, 1002] (by decide) (by simp only [En.E, En.evsC, List.map_cons, List.map_nil, Nat.reduceBEq, Nat.reduceAdd, Nat.reduceMul, Nat.reduceEqDiff, Nat.reduceLeDiff, Nat.reduceLT, ne_eq, reduceCtorEq, Int.reduceBEq, Int.reduceBNe, Int.reduceAdd, Int.reduceSub, Int.reduceMul, Int.reduceTDiv, Int.reduceTMod, Int.reduceNeg, En.bitN, Nat.testBit, Nat.reduceShiftRight, Nat.reduceShiftLeft, Nat.reduceAnd, Nat.reduceOr, Nat.reduceBNe, Int.reduceToNat, Nat.reduceSub, Int.reduceLE, Int.reduceLT, En.slLe, En.hpLe, En.chE, En.allLt, dwI, chkHp, dn0, ← bL_zero, Int.cast_ofNat_Int])) ?_
  rintro ⟨k, hk⟩
  refine hR 600 _ _ ?_
  by_cases hlt : k < us.length
  · have d0 : decide ((k : Int) < (ns.length : Int)) = true := decide_eq_true (by omega)
    have i1 : inr .i64 ((k : Int) + 1) := by simp only [En.inr, En.lo, En.hi]; omega
    simp (maxSteps := 10000000) only [En.E, En.evsC, List.map_cons, List.map_nil, Nat.reduceBEq, Nat.reduceAdd, Nat.reduceMul, Nat.reduceEqDiff, Nat.reduceLeDiff, Nat.reduceLT, ne_eq, reduceCtorEq, Int.reduceBEq, Int.reduceBNe, Int.reduceAdd, Int.reduceSub, Int.reduceMul, Int.reduceTDiv, Int.reduceTMod, Int.reduceNeg, En.bitN, Nat.testBit, Nat.reduceShiftRight, Nat.reduceShiftLeft, Nat.reduceAnd, Nat.reduceOr, Nat.reduceBNe, Int.reduceToNat, Nat.reduceSub, Int.reduceLE, Int.reduceLT, En.vV, hs, hv, hT, hG, hF, dwI, chkHp, d0]
    refine hI {j : Nat // j ≤ ns.length} (fun x => dwJ b b2 A B c d ns us k x.1) (fun x => ns.length - x.1) _ _ _ ⟨0, Nat.zero_le _⟩ (sle_all [2512, 2000, 1001, 1002] (by decide) (by simp only [En.E, En.evsC, List.map_cons, List.map_nil, Nat.reduceBEq, Nat.reduceAdd, Nat.reduceMul, Nat.reduceEqDiff, Nat.reduceLeDiff, Nat.reduceLT, ne_eq, reduceCtorEq, Int.reduceBEq, Int.reduceBNe, Int.reduceAdd, Int.reduceSub, Int.reduceMul, Int.reduceTDiv, Int.reduceTMod, Int.reduceNeg, En.bitN, Nat.testBit, Nat.reduceShiftRight, Nat.reduceShiftLeft, Nat.reduceAnd, Nat.reduceOr, Nat.reduceBNe, Int.reduceToNat, Nat.reduceSub, Int.reduceLE, Int.reduceLT, En.slLe, En.hpLe, En.chE, En.allLt, dwJ, chkHp, Int.cast_ofNat_Int])) ?_
    rintro ⟨j, hj⟩
    refine hR 600 _ _ ?_
    by_cases hjl : j < ns.length
    · have d1 : decide ((j : Int) < (ns.length : Int)) = true := decide_eq_true (by omega)
      have i2 : inr .i64 ((j : Int) + 1) := by simp only [En.inr, En.lo, En.hi]; omega
      have e1 := belV_nat hB hlt (by omega : j < 8)
      cases h1 : bl us k j <;> rw [h1] at e1
      · have e2 := dn_keep (n := ns.length) h1
        simp (maxSteps := 10000000) only [En.E, En.evsC, List.map_cons, List.map_nil, Nat.reduceBEq, Nat.reduceAdd, Nat.reduceMul, Nat.reduceEqDiff, Nat.reduceLeDiff, Nat.reduceLT, ne_eq, reduceCtorEq, Int.reduceBEq, Int.reduceBNe, Int.reduceAdd, Int.reduceSub, Int.reduceMul, Int.reduceTDiv, Int.reduceTMod, Int.reduceNeg, En.bitN, Nat.testBit, Nat.reduceShiftRight, Nat.reduceShiftLeft, Nat.reduceAnd, Nat.reduceOr, Nat.reduceBNe, Int.reduceToNat, Nat.reduceSub, Int.reduceLE, Int.reduceLT, En.vV, hs, hv, hT, hG, hF, dwJ, chkHp, d1, spBelow_q, latR_q, latU_q, hB, e1, i2]
        exact ⟨⟨j + 1, by omega⟩, (sle_all [2512, 2000, 1001, 1002] (by decide) (by simp only [En.E, En.evsC, List.map_cons, List.map_nil, Nat.reduceBEq, Nat.reduceAdd, Nat.reduceMul, Nat.reduceEqDiff, Nat.reduceLeDiff, Nat.reduceLT, ne_eq, reduceCtorEq, Int.reduceBEq, Int.reduceBNe, Int.reduceAdd, Int.reduceSub, Int.reduceMul, Int.reduceTDiv, Int.reduceTMod, Int.reduceNeg, En.bitN, Nat.testBit, Nat.reduceShiftRight, Nat.reduceShiftLeft, Nat.reduceAnd, Nat.reduceOr, Nat.reduceBNe, Int.reduceToNat, Nat.reduceSub, Int.reduceLE, Int.reduceLT, En.slLe, En.hpLe, En.chE, En.allLt, dwJ, chkHp, e2, Int.natCast_add, Int.cast_ofNat_Int])), by simp only; omega⟩
      · have e2 := dn_set hjl (by omega : k < 8) h1
        have i3 := one_sh (k := k) (by omega)
        simp (maxSteps := 10000000) only [En.E, En.evsC, List.map_cons, List.map_nil, Nat.reduceBEq, Nat.reduceAdd, Nat.reduceMul, Nat.reduceEqDiff, Nat.reduceLeDiff, Nat.reduceLT, ne_eq, reduceCtorEq, Int.reduceBEq, Int.reduceBNe, Int.reduceAdd, Int.reduceSub, Int.reduceMul, Int.reduceTDiv, Int.reduceTMod, Int.reduceNeg, En.bitN, Nat.testBit, Nat.reduceShiftRight, Nat.reduceShiftLeft, Nat.reduceAnd, Nat.reduceOr, Nat.reduceBNe, Int.reduceToNat, Nat.reduceSub, Int.reduceLE, Int.reduceLT, En.vV, hs, hv, hT, hG, hF, dwJ, chkHp, d1, spBelow_q, latR_q, latU_q, hB, e1, i2, i3, bL_len, bL_nth, hjl, bL_put, Int.toNat_natCast, Nat.mul_one, Nat.zero_add, e2]
        exact ⟨by omega, by omega, by omega, by omega, by omega, ⟨j + 1, by omega⟩, (sle_all [2512, 2000, 1001, 1002] (by decide) (by simp only [En.E, En.evsC, List.map_cons, List.map_nil, Nat.reduceBEq, Nat.reduceAdd, Nat.reduceMul, Nat.reduceEqDiff, Nat.reduceLeDiff, Nat.reduceLT, ne_eq, reduceCtorEq, Int.reduceBEq, Int.reduceBNe, Int.reduceAdd, Int.reduceSub, Int.reduceMul, Int.reduceTDiv, Int.reduceTMod, Int.reduceNeg, En.bitN, Nat.testBit, Nat.reduceShiftRight, Nat.reduceShiftLeft, Nat.reduceAnd, Nat.reduceOr, Nat.reduceBNe, Int.reduceToNat, Nat.reduceSub, Int.reduceLE, Int.reduceLT, En.slLe, En.hpLe, En.chE, En.allLt, dwJ, chkHp, Int.natCast_add, Int.cast_ofNat_Int])), by simp only; omega⟩
    · have d1 : decide ((j : Int) < (ns.length : Int)) = false := decide_eq_false (by omega)
      obtain rfl : j = ns.length := by omega
      simp (maxSteps := 10000000) only [En.E, En.evsC, List.map_cons, List.map_nil, Nat.reduceBEq, Nat.reduceAdd, Nat.reduceMul, Nat.reduceEqDiff, Nat.reduceLeDiff, Nat.reduceLT, ne_eq, reduceCtorEq, Int.reduceBEq, Int.reduceBNe, Int.reduceAdd, Int.reduceSub, Int.reduceMul, Int.reduceTDiv, Int.reduceTMod, Int.reduceNeg, En.bitN, Nat.testBit, Nat.reduceShiftRight, Nat.reduceShiftLeft, Nat.reduceAnd, Nat.reduceOr, Nat.reduceBNe, Int.reduceToNat, Nat.reduceSub, Int.reduceLE, Int.reduceLT, En.vV, hs, hv, hT, hG, hF, dwJ, chkHp, d1, dn_end, i1]
      exact ⟨⟨k + 1, by omega⟩, (sle_all [2512, 2000, 1001, 1002] (by decide) (by simp only [En.E, En.evsC, List.map_cons, List.map_nil, Nat.reduceBEq, Nat.reduceAdd, Nat.reduceMul, Nat.reduceEqDiff, Nat.reduceLeDiff, Nat.reduceLT, ne_eq, reduceCtorEq, Int.reduceBEq, Int.reduceBNe, Int.reduceAdd, Int.reduceSub, Int.reduceMul, Int.reduceTDiv, Int.reduceTMod, Int.reduceNeg, En.bitN, Nat.testBit, Nat.reduceShiftRight, Nat.reduceShiftLeft, Nat.reduceAnd, Nat.reduceOr, Nat.reduceBNe, Int.reduceToNat, Nat.reduceSub, Int.reduceLE, Int.reduceLT, En.slLe, En.hpLe, En.chE, En.allLt, dwI, chkHp, Int.natCast_add, Int.cast_ofNat_Int])), by simp only; omega⟩
  · have d0 : decide ((k : Int) < (ns.length : Int)) = false := decide_eq_false (by omega)
    obtain rfl : k = us.length := by omega
    simp (maxSteps := 10000000) only [En.E, En.evsC, List.map_cons, List.map_nil, Nat.reduceBEq, Nat.reduceAdd, Nat.reduceMul, Nat.reduceEqDiff, Nat.reduceLeDiff, Nat.reduceLT, ne_eq, reduceCtorEq, Int.reduceBEq, Int.reduceBNe, Int.reduceAdd, Int.reduceSub, Int.reduceMul, Int.reduceTDiv, Int.reduceTMod, Int.reduceNeg, En.bitN, Nat.testBit, Nat.reduceShiftRight, Nat.reduceShiftLeft, Nat.reduceAnd, Nat.reduceOr, Nat.reduceBNe, Int.reduceToNat, Nat.reduceSub, Int.reduceLE, Int.reduceLT, En.vV, hs, hv, hT, hG, hF, dwI, chkHp, d0]
    exact ⟨b2, 2512, rfl, rfl⟩
def allFtL (Q : Nat → Prop) : Hp → Prop
  | [] => True
  | (_, c) :: l => (∀ b, foot c b → Q b) ∧ allFtL Q l
theorem foot_lookL {Q : Nat → Prop} {l : Hp} (h : allFtL Q l) {k b : Nat} (hf : foot (lookH l k) b) : Q b := by
  induction l with
  | nil => exact hf.elim
  | cons x l ih =>
    obtain ⟨i, c⟩ := x
    simp only [lookH] at hf
    cases e : i == k
    · rw [e] at hf; exact ih h.2 hf
    · rw [e] at hf; exact h.1 b hf
theorem dnL_dens {us : List Int} {n : Nat} (hl : us.length = n) : dens (bL n (dnF us n us.length 0)) = (dnL us).map (.int .u8) := by
  rw [bL_dens]
  unfold dnL
  rw [hl]
  congr 1
  apply List.map_congr_left
  intro i hi
  simp [dnF, List.mem_range.1 hi]
theorem dnL_len {us : List Int} : (dnL us).length = us.length := by simp [dnL]
theorem dnL_at {us : List Int} {b : Nat} (hb : b < us.length) : (dnL us).getD b 0 = (dN us b us.length : Int) := by
  simp [dnL, List.getD_eq_getElem?_getD, hb]
theorem dnL_by {us : List Int} (h8 : us.length ≤ 8) : Bytes (dnL us) := by
  intro b
  by_cases hb : b < us.length
  · rw [dnL_at hb]
    have := dN_lt us b us.length
    have h2 : 2 ^ us.length ≤ 256 := Nat.le_trans (Nat.pow_le_pow_right (by decide) h8) (by decide)
    omega
  · rw [List.getD_eq_getElem?_getD, List.getElem?_eq_none (by rw [dnL_len]; omega)]; decide
theorem dnL_uN {us : List Int} {b : Nat} (hb : b < us.length) : uN (dnL us) b = dN us b us.length := by
  unfold uN; rw [dnL_at hb, Int.toNat_natCast]
def spDowns : Spc
  | [.agg [.g k A n c, .g j B m d]], H, nx => .val (latR A n c B m d (H k) (H j) ∧ m = n ∧ n ≤ 8) fun D e => (.g nx D n e, [(nx, .ints D e .u8 (dnL (latU (H j))))])
  | _, _, _ => .bad
theorem spDowns_q {k n c j m d : Nat} {A B : Option Addr} {H : Nat → Ch} {nx : Nat} : spDowns [.agg [.g k A n c, .g j B m d]] H nx = .val (latR A n c B m d (H k) (H j) ∧ m = n ∧ n ≤ 8) fun D e => (.g nx D n e, [(nx, .ints D e .u8 (dnL (latU (H j))))]) := (rfl)
theorem spDowns_ok : SpecOk Tryz.prog 81 spDowns := by
  intro args hp nx w0 O w H hv
  unfold spDowns at hv ⊢
  split at hv
  · next nx k A n c j B m d =>
    obtain ⟨hl, hmn, h8⟩ := hv
    obtain ⟨x1, x2, x3, x4, x5⟩ := latR_of hl
    have h1 := H.hold k
    have h2 := H.hold j
    rw [x1] at h1
    rw [x2] at h2
    have := downs_any (latN (lookH hp k)) (latU (lookH hp j)) A B c d (by omega) (by omega) x5 w ⟨⟨h1, rfl⟩, ⟨h2, rfl⟩, trivial⟩
    rw [show dens [.agg [.g k A n c, .g j B m d]] = dens [.agg [.g 1001 A (latN (lookH hp k)).length c, .g 1002 B (latU (lookH hp j)).length d]] by rw [← x3, ← x4]; rfl]
    refine this.mono ?_
    rintro e w' ⟨b2, k2, rfl, hp2, hk2, HS⟩
    have hb := HS.hold k2
    rw [hk2] at hb
    generalize latU (lookH hp j) = us at *
    have hlen : us.length = (latN (lookH hp k)).length := by omega
    have hd := dnL_dens hlen
    refine ⟨⟨0, some ⟨b2, 0, none⟩, us.length, none, 0, mz⟩, by rw [show n = us.length by omega]; rfl, Stp.rd HS.below ⟨⟨?_, rfl⟩, trivial⟩ fun k b hf => .inl ?_⟩
    · have hc := blk_cells hb
      have hd2 : (dens (bL (latN (lookH hp k)).length (dnF us (latN (lookH hp k)).length us.length 0))).length = (dnL us).length := by rw [hd]; simp
      refine hc.sl hd2 (by rw [dnL_len]; exact Nat.le_refl _) fun i hi => ?_
      rw [hd]; simp [List.getD, fI, hi]
    · refine foot_lookL (Q := fun b => w.heap.size ≤ b) (l := [(_, _)]) ⟨?_, trivial⟩ hf
      rintro _ ⟨_, a, ha, rfl⟩
      cases ha
      exact hb.1
  · exact hv.elim
def byR (A : Option Addr) (n c : Nat) : Ch → Prop
  | .ints A' c' .u8 us => A = A' ∧ n = us.length ∧ c = c' ∧ Bytes us
  | _ => False
theorem byR_q {A A' : Option Addr} {n c c' : Nat} {us : List Int} : byR A n c (.ints A' c' .u8 us) = (A = A' ∧ n = us.length ∧ c = c' ∧ Bytes us) := (rfl)
theorem byR_of {A : Option Addr} {n c : Nat} {x : Ch} (h : byR A n c x) : x = .ints A c .u8 (latU x) ∧ n = (latU x).length ∧ Bytes (latU x) := by
  unfold byR at h
  split at h
  · obtain ⟨rfl, rfl, rfl, h⟩ := h; exact ⟨rfl, rfl, h⟩
  · exact h.elim
def spNear : Spc
  | [.g k A n c, .v (.int .i64 a), .v (.int .i64 b)], H, _ => .is (byR A n c (H k) ∧ n ≤ 8 ∧ 0 ≤ a ∧ a < n ∧ 0 ≤ b ∧ b < n) (.v (.int .i64 (nearN (uN (latU (H k))) n a.toNat b.toNat)))
  | _, _, _ => .bad
theorem spNear_q {k n c : Nat} {A : Option Addr} {a b : Int} {H : Nat → Ch} {nx : Nat} : spNear [.g k A n c, .v (.int .i64 a), .v (.int .i64 b)] H nx = .is (byR A n c (H k) ∧ n ≤ 8 ∧ 0 ≤ a ∧ a < n ∧ 0 ≤ b ∧ b < n) (.v (.int .i64 (nearN (uN (latU (H k))) n a.toNat b.toNat))) := (rfl)
theorem spNear_ok : SpecOk Tryz.prog 82 spNear := by
  intro args hp nx w0 O w H hv
  unfold spNear at hv ⊢
  split at hv
  · next k A n c a b =>
    obtain ⟨h, h8, a0, a1, b0, b1⟩ := hv
    obtain ⟨e1, e2, e3⟩ := byR_of h
    have hk := H.hold k
    rw [e1] at hk
    have := rnear_any (latU (lookH hp k)) (by omega) A c a.toNat b.toNat (by omega) (by omega) e3 w hk
    rw [← e2, Int.toNat_of_nonneg a0, Int.toNat_of_nonneg b0] at this
    refine this.mono ?_
    rintro e w' ⟨rfl, hb⟩
    exact ⟨⟨0, none, 0, none, 0, mz⟩, rfl, .still hb⟩
  · exact hv.elim
end Pr
end Go.Proofs.YtnpkmimbnjnicaaGreatDoor
/-
The reference of chapter 3: ordered, Check, asked, Leq.
-/
set_option linter.unusedSimpArgs false
set_option linter.unusedVariables false
namespace Go.Proofs.YtnpkmimbnjnicaaGreatDoor
namespace Pr
open Go Go.RowKit En
open Lt
def odI (b : Nat) (A B : Option Addr) (c d : Nat) (ns : List ByteArray) (us : List Int) (i j : Nat) : SS :=
  ⟨[(1, .v (.int .i64 i)), (2, .p 2000 b 0), (5, .v (.int .i64 ns.length)), (6, .v (.int .i64 (us.getD i 0))), (7, .v (.int .i64 j))], chkHp b A B c d ns us, 12000⟩
theorem big8 : ∀ (x : Fin 256) (n : Fin 9), decide (0 < (x.val : Int) / 2 ^ min n.val 64) = !decide (x.val < 2 ^ n.val) := by decide +kernel
theorem and64 {x y : Nat} (hx : x < 9223372036854775808) (hy : y < 9223372036854775808) : bits .and .i64 (x : Int) (y : Int) = ((x &&& y : Nat) : Int) := by
  have h1 : (BitVec.ofInt 64 (x : Int)).toNat = x := by simp [BitVec.toNat_ofInt]; omega
  have h2 : (BitVec.ofInt 64 (y : Int)).toNat = y := by simp [BitVec.toNat_ofInt]; omega
  have hw : ∀ z : Nat, z < 9223372036854775808 → IntKind.wrap .i64 (z : Int) = z := fun z hz => by
    simp only [IntKind.wrap, IntKind.bits, IntKind.signed, IntKind.max, IntKind.min]; (try simp); omega
  show IntKind.wrap .i64 ((BitVec.ofInt 64 (x : Int) &&& BitVec.ofInt 64 (y : Int)).toNat : Int) = _
  rw [BitVec.toNat_and, h1, h2, hw _ (Nat.lt_of_le_of_lt Nat.and_le_left hx)]
theorem msk64 {n : Nat} (h : n ≤ 8) : (1 * 2 ^ min n 64 - 1 : Int) = ((2 ^ n - 1 : Nat) : Int) := by
  have hp : 0 < 2 ^ n := Nat.two_pow_pos _
  rw [Nat.min_eq_left (by omega : n ≤ 64), Int.one_mul, Int.natCast_sub (by omega)]; simp
theorem sub8 {us : List Int} (hB : Bytes us) {n i j : Nat} (hn : n ≤ 8) : (bits .and .i64 (bits .and .i64 (us.getD j 0) (1 * 2 ^ min n 64 - 1)) (us.getD i 0) != bits .and .i64 (us.getD j 0) (1 * 2 ^ min n 64 - 1)) = !((uN us j &&& (2 ^ n - 1)) &&& uN us i == uN us j &&& (2 ^ n - 1)) := by
  have h1 := hB i
  have h2 := hB j
  have h3 : 2 ^ n ≤ 256 := Nat.le_trans (Nat.pow_le_pow_right (by decide) hn) (by decide)
  have e1 : us.getD i 0 = (uN us i : Int) := by unfold uN; omega
  have e2 : us.getD j 0 = (uN us j : Int) := by unfold uN; omega
  have b1 : uN us i < 256 := by unfold uN; omega
  have b2 : uN us j < 256 := by unfold uN; omega
  have b3 : uN us j &&& (2 ^ n - 1) < 256 := Nat.lt_of_le_of_lt Nat.and_le_left b2
  rw [msk64 hn, e1, e2, and64 (by omega) (by omega), and64 (by omega) (by omega)]
  show (!(((uN us j &&& (2 ^ n - 1) &&& uN us i : Nat) : Int) == ((uN us j &&& (2 ^ n - 1) : Nat) : Int))) = _
  congr 1
  apply Bool.eq_iff_iff.2
  rw [beq_iff_eq, beq_iff_eq, Int.ofNat_inj]
set_option maxRecDepth 100000 in
set_option maxHeartbeats 8000000 in
theorem ordered_any (ns : List ByteArray) (us : List Int) (A B : Option Addr) (c d : Nat) (hl : us.length = ns.length) (h8 : ns.length ≤ 8) (hB : Bytes us) (i : Nat) (hi : i < ns.length) (w : World) (hg : allRd w.heap.size w [(1001, .strs A c ns), (1002, .ints B d .u8 us)]) :
    Calls Tryz.prog 80 (dens [.agg [.g 1001 A ns.length c, .g 1002 B us.length d], .v (.int .i64 i)]).toArray w fun e w' => e = .returned (.bool (ordB us ns.length i)) ∧ Below w.heap.size w w' := by
  obtain ⟨q, hq⟩ : ∃ q, q = ordB us ns.length i := ⟨_, rfl⟩
  rw [← hq]
  refine calls_go (args := [.agg [.g 1001 A ns.length c, .g 1002 B us.length d], .v (.int .i64 i)]) (hp := [(1001, .strs A c ns), (1002, .ints B d .u8 us)]) (nx := 2000) (n := 600) (U := [(1000000, 9)]) (V := []) (tl := tlLt) (gl := glDw) (post := fun s' ys => ys = [.v (.bool q)])
    followP tlLt_ok glDw_ok Tryz.func80 rfl (by kernel_rfl) (Nat.le_of_ble_eq_true (by kernel_rfl)) (by kernel_rfl) (by kernel_rfl) (hh_list hg) (free_list (by simp [allLt])) ?_ ?_
  · rintro s ys w' rfl H
    exact ⟨rfl, H.below⟩
  intro L F T G nd va hE
  obtain ⟨hL, hF, hs, hv, hT, hG, hR, hI, hJ, hW⟩ := hE
  rw [Tryz.results80] at hF
  simp (maxSteps := 1000000) only [En.nN, En.E, En.evsC, List.map_cons, List.map_nil, ne_eq, En.bitN, Nat.testBit, seval] at hv
  simp only [En.at_nil, En.at_cons, En.ag_nil, En.ag_cons, and_true, tlLt, glDw, tyInt, tyU8, tyBool, tyStr, tyErr, tyStrs, tyBytes, tyInts, tyLat, tyA8, tyUps, tyDns, tyOrd, tyUint] at hT hG
  have hb := hB i
  have j0 : inr .i64 (us.getD i 0) := by simp only [En.inr, En.lo, En.hi]; omega
  have hbig : decide (0 < us.getD i 0 / 2 ^ min ns.length 64) = !decide (uN us i < 2 ^ ns.length) := by
    have := big8 ⟨(us.getD i 0).toNat, by omega⟩ ⟨ns.length, by omega⟩
    simp only [Int.toNat_of_nonneg hb.1] at this
    exact this
  have e0 := belV_nat hB (by omega : i < us.length) (by omega : i < 8)
  cases k1 : decide (uN us i < 2 ^ ns.length) <;> rw [k1] at hbig
  · have hq' : q = false := by rw [hq]; unfold ordB; rw [k1]; rfl
    simp (maxSteps := 10000000) only [En.E, En.evsC, List.map_cons, List.map_nil, ne_eq, En.bitN, Nat.testBit, seval, En.vV, hs, hv, hT, hG, hF, Int.toNat_natCast, hbig, j0, spBelow_q, latR_q, latU_q, hB, hq']
    exact ⟨by omega, by omega, by omega⟩
  · cases k2 : bl us i i <;> rw [k2] at e0
    · have hq' : q = false := by rw [hq]; unfold ordB; rw [k1, k2]; rfl
      simp (maxSteps := 10000000) only [En.E, En.evsC, List.map_cons, List.map_nil, ne_eq, En.bitN, Nat.testBit, seval, En.vV, hs, hv, hT, hG, hF, Int.toNat_natCast, hbig, j0, spBelow_q, latR_q, latU_q, hB, e0, hq']
      exact ⟨by omega, by omega, by omega⟩
    · have hq : q = (List.range ns.length).all (ordC us ns.length i) := by rw [hq]; unfold ordB; rw [k1, k2]; rfl
      simp (maxSteps := 10000000) only [En.E, En.evsC, List.map_cons, List.map_nil, ne_eq, En.bitN, Nat.testBit, seval, En.vV, hs, hv, hT, hG, hF, Int.toNat_natCast, hbig, j0, spBelow_q, latR_q, latU_q, hB, e0]
      intro b
      refine ⟨by omega, by omega, by omega, ?_⟩
      refine hI {j : Nat // j ≤ ns.length ∧ ∀ m, m < j → ordC us ns.length i m = true} (fun x => odI b A B c d ns us i x.1) (fun x => ns.length - x.1) _ _ _ ⟨0, Nat.zero_le _, fun m hm => absurd hm (Nat.not_lt_zero m)⟩ (sle_all [2000, 1001, 1002] (by decide) (by simp only [En.E, En.evsC, List.map_cons, List.map_nil, ne_eq, En.bitN, Nat.testBit, seval, En.slLe, En.hpLe, En.chE, En.allLt, odI, chkHp, Int.cast_ofNat_Int])) ?_
      rintro ⟨j, hj, hm⟩
      refine hR 600 _ _ ?_
      by_cases hjl : j < ns.length
      · have d1 : decide ((j : Int) < (ns.length : Int)) = true := decide_eq_true (by omega)
        have i2 : inr .i64 ((j : Int) + 1) := by simp only [En.inr, En.lo, En.hi]; omega
        have e1 := belV_nat hB (by omega : i < us.length) (by omega : j < 8)
        have e2 := belV_nat hB (by omega : j < us.length) (by omega : i < 8)
        have e3 := sub8 hB (n := ns.length) (i := i) (j := j) h8
        have hbj := hB j
        have j1 : inr .i64 (us.getD j 0) := by simp only [En.inr, En.lo, En.hi]; omega
        have h256 : 2 ^ ns.length ≤ 256 := Nat.le_trans (Nat.pow_le_pow_right (by decide) h8) (by decide)
        have hp0 : 0 < 2 ^ ns.length := Nat.two_pow_pos _
        have m1 := msk64 h8
        have j2 : inr .i64 (1 * 2 ^ min ns.length 64) := by simp only [En.inr, En.lo, En.hi]; omega
        have j3 : inr .i64 (1 * 2 ^ min ns.length 64 - 1) := by rw [m1]; simp only [En.inr, En.lo, En.hi]; omega
        have e6 : ((j : Int) != (i : Int)) = !(j == i) := by
          show (!((j : Int) == (i : Int))) = _
          congr 1
          apply Bool.eq_iff_iff.2
          rw [beq_iff_eq, beq_iff_eq]; omega
        clear m1
        have bad : ordC us ns.length i j = false → q = false := fun h => by
          rw [hq]
          cases hq : (List.range ns.length).all (ordC us ns.length i)
          · rfl
          · have := List.all_eq_true.1 hq j (List.mem_range.2 hjl)
            rw [h] at this; cases this
        have good : ordC us ns.length i j = true → ∀ m, m < j + 1 → ordC us ns.length i m = true := fun h m hmj => by
          by_cases e : m = j
          · rw [e]; exact h
          · exact hm m (by omega)
        unfold ordC at bad good
        cases k4 : bl us i j <;> rw [k4] at bad good e1
        · simp (maxSteps := 10000000) only [En.E, En.evsC, List.map_cons, List.map_nil, ne_eq, En.bitN, Nat.testBit, seval, En.vV, hs, hv, hT, hG, hF, odI, chkHp, d1, spBelow_q, latR_q, latU_q, hB, e1, i2]
          exact ⟨⟨j + 1, by omega, good rfl⟩, (sle_all [2000, 1001, 1002] (by decide) (by simp only [En.E, En.evsC, List.map_cons, List.map_nil, ne_eq, En.bitN, Nat.testBit, seval, En.slLe, En.hpLe, En.chE, En.allLt, odI, chkHp, Int.natCast_add, Int.cast_ofNat_Int])), by simp only; omega⟩
        · cases k6 : (j == i) <;> rw [k6] at bad good e6
          · cases k5 : bl us j i <;> rw [k5] at bad good e2
            · cases k3 : ((uN us j &&& (2 ^ ns.length - 1)) &&& uN us i == uN us j &&& (2 ^ ns.length - 1)) <;> rw [k3] at bad good e3
              · have hq' := bad rfl
                simp (maxSteps := 10000000) only [En.E, En.evsC, List.map_cons, List.map_nil, ne_eq, En.bitN, Nat.testBit, seval, En.vV, hs, hv, hT, hG, hF, odI, chkHp, d1, spBelow_q, latR_q, latU_q, hB, e1, e2, e3, e6, Int.toNat_natCast, j1, j2, j3, hq']
                exact ⟨by omega, by omega, by omega⟩
              · simp (maxSteps := 10000000) only [En.E, En.evsC, List.map_cons, List.map_nil, ne_eq, En.bitN, Nat.testBit, seval, En.vV, hs, hv, hT, hG, hF, odI, chkHp, d1, spBelow_q, latR_q, latU_q, hB, e1, e2, e3, e6, Int.toNat_natCast, j1, j2, j3, i2]
                exact ⟨by omega, by omega, by omega, ⟨j + 1, by omega, good rfl⟩, (sle_all [2000, 1001, 1002] (by decide) (by simp only [En.E, En.evsC, List.map_cons, List.map_nil, ne_eq, En.bitN, Nat.testBit, seval, En.slLe, En.hpLe, En.chE, En.allLt, odI, chkHp, Int.natCast_add, Int.cast_ofNat_Int])), by simp only; omega⟩
            · have hq' := bad rfl
              simp (maxSteps := 10000000) only [En.E, En.evsC, List.map_cons, List.map_nil, ne_eq, En.bitN, Nat.testBit, seval, En.vV, hs, hv, hT, hG, hF, odI, chkHp, d1, spBelow_q, latR_q, latU_q, hB, e1, e2, e6, Int.toNat_natCast, j1, j2, j3, hq']
              exact ⟨by omega, by omega, by omega⟩
          · cases k3 : ((uN us j &&& (2 ^ ns.length - 1)) &&& uN us i == uN us j &&& (2 ^ ns.length - 1)) <;> rw [k3] at bad good e3
            · have hq' := bad rfl
              simp (maxSteps := 10000000) only [En.E, En.evsC, List.map_cons, List.map_nil, ne_eq, En.bitN, Nat.testBit, seval, En.vV, hs, hv, hT, hG, hF, odI, chkHp, d1, spBelow_q, latR_q, latU_q, hB, e1, e3, e6, Int.toNat_natCast, j1, j2, j3, hq']
              exact ⟨by omega, by omega, by omega⟩
            · simp (maxSteps := 10000000) only [En.E, En.evsC, List.map_cons, List.map_nil, ne_eq, En.bitN, Nat.testBit, seval, En.vV, hs, hv, hT, hG, hF, odI, chkHp, d1, spBelow_q, latR_q, latU_q, hB, e1, e3, e6, Int.toNat_natCast, j1, j2, j3, i2]
              exact ⟨by omega, by omega, by omega, ⟨j + 1, by omega, good rfl⟩, (sle_all [2000, 1001, 1002] (by decide) (by simp only [En.E, En.evsC, List.map_cons, List.map_nil, ne_eq, En.bitN, Nat.testBit, seval, En.slLe, En.hpLe, En.chE, En.allLt, odI, chkHp, Int.natCast_add, Int.cast_ofNat_Int])), by simp only; omega⟩
      · have d1 : decide ((j : Int) < (ns.length : Int)) = false := decide_eq_false (by omega)
        have hq' : q = true := by rw [hq]; exact List.all_eq_true.2 fun m hmm => hm m (by have := List.mem_range.1 hmm; omega)
        simp (maxSteps := 10000000) only [En.E, En.evsC, List.map_cons, List.map_nil, ne_eq, En.bitN, Nat.testBit, seval, En.vV, hs, hv, hT, hG, hF, odI, chkHp, d1, hq']
theorem ordd_go {A B : Option Addr} {n c m d : Nat} {a : Int} {x y : Ch} (hx : m = n ∧ n ≤ 8 ∧ 0 ≤ a ∧ a < n) (x3 : n = (latN x).length) (x4 : m = (latU y).length) (x5 : Bytes (latU y)) (w : World) (hg : allRd w.heap.size w [(1001, .strs A c (latN x)), (1002, .ints B d .u8 (latU y))]) :
    Calls Tryz.prog 80 (dens [.agg [.g 1001 A (latN x).length c, .g 1002 B (latU y).length d], .v (.int .i64 a)]).toArray w fun e w' => e = .returned (.bool (ordB (latU y) (latN x).length a.toNat)) ∧ Below w.heap.size w w' := by
  obtain ⟨h1, h2, h3, h4⟩ := hx
  have := ordered_any (latN x) (latU y) A B c d (by omega) (by omega) x5 a.toNat (by omega) w hg
  rwa [Int.toNat_of_nonneg h3] at this
def spOrdd : Spc
  | [.agg [.g k A n c, .g j B m d], .v (.int .i64 a)], H, _ => .is (latR A n c B m d (H k) (H j) ∧ m = n ∧ n ≤ 8 ∧ 0 ≤ a ∧ a < n) (.v (.bool (ordB (latU (H j)) n a.toNat)))
  | _, _, _ => .bad
theorem spOrdd_q {k n c j m d : Nat} {A B : Option Addr} {a : Int} {H : Nat → Ch} {nx : Nat} : spOrdd [.agg [.g k A n c, .g j B m d], .v (.int .i64 a)] H nx = .is (latR A n c B m d (H k) (H j) ∧ m = n ∧ n ≤ 8 ∧ 0 ≤ a ∧ a < n) (.v (.bool (ordB (latU (H j)) n a.toNat))) := (rfl)
theorem spOrdd_ok : SpecOk Tryz.prog 80 spOrdd := by
  intro args hp nx w0 O w H hv
  unfold spOrdd at hv ⊢
  split at hv
  · next k A n c j B m d a =>
    obtain ⟨hl, hx⟩ := hv
    obtain ⟨x1, x2, x3, x4, x5⟩ := latR_of hl
    have h1 := H.hold k
    have h2 := H.hold j
    rw [x1] at h1
    rw [x2] at h2
    have := ordd_go hx x3 x4 x5 (A := A) (B := B) (c := c) (d := d) (a := a) w ⟨⟨h1, rfl⟩, ⟨h2, rfl⟩, trivial⟩
    rw [← x3, ← x4] at this
    refine this.mono ?_
    rintro e w' ⟨rfl, hb⟩
    exact ⟨⟨0, none, 0, none, 0, mz⟩, rfl, .still hb⟩
  · exact hv.elim
def glRc : List (FuncId × Spc) := [(79, spNamed), (80, spOrdd), (81, spDowns), (82, spNear)]
theorem glRc_ok : GOk Tryz.prog (lookG glRc) := lG_cons (by kernel_rfl) spRNames_ok <| lG_cons (by kernel_rfl) spOrdd_ok <| lG_cons (by kernel_rfl) spDowns_ok <| lG_cons (by kernel_rfl) spNear_ok lG_nil
def rcI (b : Nat) (A B : Option Addr) (c d : Nat) (ns : List ByteArray) (us : List Int) (i : Nat) : SS :=
  ⟨[(1, .p 2000 b 0), (6, .v (.int .i64 ns.length)), (7, .v (.int .i64 i))], chkHp b A B c d ns us, 8000⟩
def rcHp (b : Nat) (A B D : Option Addr) (c d e : Nat) (ns : List ByteArray) (us : List Int) : Hp := (8000, .ints D e .u8 (dnL us)) :: chkHp b A B c d ns us
def rcK (b : Nat) (A B D : Option Addr) (c d e : Nat) (ns : List ByteArray) (us : List Int) (i : Nat) : SS :=
  ⟨[(1, .p 2000 b 0), (6, .v (.int .i64 ns.length)), (8, .g 8000 D ns.length e), (9, .v (.int .i64 i))], rcHp b A B D c d e ns us, 9000⟩
def rcM (b : Nat) (A B D : Option Addr) (c d e : Nat) (ns : List ByteArray) (us : List Int) (i j : Nat) : SS :=
  ⟨[(1, .p 2000 b 0), (6, .v (.int .i64 ns.length)), (8, .g 8000 D ns.length e), (9, .v (.int .i64 i)), (10, .v (.int .i64 j))], rcHp b A B D c d e ns us, 9000⟩
theorem near_rdn {us : List Int} {n i j : Nat} (hl : us.length = n) (hi : i < n) (hj : j < n) : nearN (uN (dnL us)) n i j = nearN (fun b => dN us b n) n i j :=
  near_congr (fun k hk => by rw [dnL_uN (by omega), hl]) hi hj
set_option maxRecDepth 100000 in
set_option maxHeartbeats 8000000 in
theorem rcheck_any (ns : List ByteArray) (us : List Int) (A B : Option Addr) (c d : Nat) (hB : Bytes us) (w : World) (hg : allRd w.heap.size w [(1001, .strs A c ns), (1002, .ints B d .u8 us)]) :
    Calls Tryz.prog 38 (dens [.agg [.g 1001 A ns.length c, .g 1002 B us.length d]]).toArray w fun e w' => e = .returned (.tuple #[.int .i64 (chkV nmV ns us).1, .int .i64 (chkV nmV ns us).2]) ∧ Below w.heap.size w w' := by
  obtain ⟨q, hq⟩ : ∃ q, q = chkV nmV ns us := ⟨_, rfl⟩
  rw [← hq]
  refine calls_go (args := [.agg [.g 1001 A ns.length c, .g 1002 B us.length d]]) (hp := [(1001, .strs A c ns), (1002, .ints B d .u8 us)]) (nx := 2000) (n := 600) (U := [(1000000, 11)]) (V := []) (tl := tlLt) (gl := glRc) (post := fun s' ys => ys = [.v (.int .i64 q.1), .v (.int .i64 q.2)])
    followP tlLt_ok glRc_ok Tryz.func38 rfl (by kernel_rfl) (Nat.le_of_ble_eq_true (by kernel_rfl)) (by kernel_rfl) (by kernel_rfl) (hh_list hg) (free_list (by simp [allLt])) ?_ ?_
  · rintro s ys w' rfl H
    exact ⟨rfl, H.below⟩
  intro L F T G nd va hE
  obtain ⟨hL, hF, hs, hv, hT, hG, hR, hI, hJ, hW⟩ := hE
  rw [Tryz.results38] at hF
  simp (maxSteps := 1000000) only [En.nN, En.E, En.evsC, List.map_cons, List.map_nil, ne_eq, En.bitN, Nat.testBit, seval] at hv
  simp only [En.at_nil, En.at_cons, En.ag_nil, En.ag_cons, and_true, tlLt, glRc, tyInt, tyU8, tyBool, tyStr, tyErr, tyStrs, tyBytes, tyInts, tyLat, tyA8, tyUps, tyDns, tyOrd, tyUint] at hT hG
  rw [chk_eq] at hq
  cases h1 : ((namV ns).2 != 0)
  · have h1' : (namV ns).2 = 0 := by simpa using h1
    rw [if_neg (by simpa using h1')] at hq
    cases h2 : ((us.length : Int) != (ns.length : Int))
    · have h2' : us.length = ns.length := by have : (us.length : Int) = ns.length := by simpa using h2
                                             omega
      rw [if_neg (by simpa using h2')] at hq
      have hq : q = ordR us ns.length 0 := hq
      have hnm : 1 ≤ ns.length ∧ ns.length ≤ 8 := by
        apply Classical.byContradiction
        intro hc
        rw [namV_no (by omega)] at h1'
        simp at h1'
      simp (maxSteps := 10000000) only [En.E, En.evsC, List.map_cons, List.map_nil, ne_eq, En.bitN, Nat.testBit, seval, En.vV, hs, hv, hT, hG, hF, spNamed_q, strR_q, strD_q, h1, h2, Int.toNat_natCast]
      intro b
      refine hI {i : Nat // i ≤ ns.length ∧ q = ordR us ns.length i} (fun x => rcI b A B c d ns us x.1) (fun x => ns.length - x.1) _ _ _ ⟨0, Nat.zero_le _, hq⟩ (sle_all [2000, 1001, 1002] (by decide) (by simp only [En.E, En.evsC, List.map_cons, List.map_nil, ne_eq, En.bitN, Nat.testBit, seval, En.slLe, En.hpLe, En.chE, En.allLt, rcI, chkHp, Int.cast_ofNat_Int])) ?_
      rintro ⟨i, hi, hp⟩
      refine hR 600 _ _ ?_
      by_cases hlt : i < ns.length
      · have d0 : decide ((i : Int) < (ns.length : Int)) = true := decide_eq_true (by omega)
        have i2 : inr .i64 ((i : Int) + 1) := by simp only [En.inr, En.lo, En.hi]; omega
        cases k1 : ordB us ns.length i
        · rw [ordR_no hlt k1] at hp
          simp (maxSteps := 10000000) only [En.E, En.evsC, List.map_cons, List.map_nil, ne_eq, En.bitN, Nat.testBit, seval, En.vV, hs, hv, hT, hG, hF, rcI, chkHp, d0, spOrdd_q, latR_q, latU_q, hB, eq_true h2', hnm.2, Int.toNat_natCast, k1, hp]
          omega
        · rw [ordR_yes hlt k1] at hp
          simp (maxSteps := 10000000) only [En.E, En.evsC, List.map_cons, List.map_nil, ne_eq, En.bitN, Nat.testBit, seval, En.vV, hs, hv, hT, hG, hF, rcI, chkHp, d0, spOrdd_q, latR_q, latU_q, hB, eq_true h2', hnm.2, Int.toNat_natCast, k1, i2]
          exact ⟨by omega, ⟨i + 1, by omega, hp⟩, (sle_all [2000, 1001, 1002] (by decide) (by simp only [En.E, En.evsC, List.map_cons, List.map_nil, ne_eq, En.bitN, Nat.testBit, seval, En.slLe, En.hpLe, En.chE, En.allLt, rcI, chkHp, Int.natCast_add, Int.cast_ofNat_Int])), by simp only; omega⟩
      · have d0 : decide ((i : Int) < (ns.length : Int)) = false := decide_eq_false (by omega)
        obtain rfl : i = ns.length := by omega
        rw [ordR_end] at hp
        simp (maxSteps := 10000000) only [En.E, En.evsC, List.map_cons, List.map_nil, ne_eq, En.bitN, Nat.testBit, seval, En.vV, hs, hv, hT, hG, hF, rcI, chkHp, d0, spDowns_q, latR_q, latU_q, hB, eq_true h2', hnm.2]
        intro D e
        refine hI {i : Nat // i ≤ ns.length ∧ q = latG us ns.length (ns.length - i) i} (fun x => rcK b A B D c d e ns us x.1) (fun x => ns.length - x.1) _ _ _ ⟨0, Nat.zero_le _, hp⟩ (sle_all [8000, 2000, 1001, 1002] (by decide) (by simp only [En.E, En.evsC, List.map_cons, List.map_nil, ne_eq, En.bitN, Nat.testBit, seval, En.slLe, En.hpLe, En.chE, En.allLt, rcK, rcHp, chkHp, Int.cast_ofNat_Int])) ?_
        rintro ⟨i, hi, hp⟩
        refine hR 600 _ _ ?_
        by_cases hlt : i < ns.length
        · have d0 : decide ((i : Int) < (ns.length : Int)) = true := decide_eq_true (by omega)
          have i1 : inr .i64 ((i : Int) + 1) := by simp only [En.inr, En.lo, En.hi]; omega
          rw [latG_at hlt] at hp
          simp (maxSteps := 10000000) only [En.E, En.evsC, List.map_cons, List.map_nil, ne_eq, En.bitN, Nat.testBit, seval, En.vV, hs, hv, hT, hG, hF, rcK, rcHp, chkHp, d0]
          refine hI {j : Nat // j ≤ ns.length ∧ ∀ m, m < j → noB us ns.length i m = false} (fun x => rcM b A B D c d e ns us i x.1) (fun x => ns.length - x.1) _ _ _ ⟨0, Nat.zero_le _, fun m hm => absurd hm (Nat.not_lt_zero m)⟩ (sle_all [8000, 2000, 1001, 1002] (by decide) (by simp only [En.E, En.evsC, List.map_cons, List.map_nil, ne_eq, En.bitN, Nat.testBit, seval, En.slLe, En.hpLe, En.chE, En.allLt, rcM, rcHp, chkHp, Int.cast_ofNat_Int])) ?_
          rintro ⟨j, hj, hm⟩
          refine hR 600 _ _ ?_
          by_cases hjl : j < ns.length
          · have d1 : decide ((j : Int) < (ns.length : Int)) = true := decide_eq_true (by omega)
            have i2 : inr .i64 ((j : Int) + 1) := by simp only [En.inr, En.lo, En.hi]; omega
            have r4 := near_rdn (us := us) h2' hlt hjl
            have o1 : (i : Int) < (ns.length : Int) := by omega
            have o2 : (j : Int) < (ns.length : Int) := by omega
            have o3 : (0 : Int) ≤ (i : Int) := by omega
            have o4 : (0 : Int) ≤ (j : Int) := by omega
            have o5 : us.length ≤ 8 := by omega
            have hD := dnL_by o5
            have r1 : (ns.length = us.length) = True := eq_true h2'.symm
            have r2 : ((i : Int) < (us.length : Int)) = True := eq_true (by omega)
            have r3 : ((j : Int) < (us.length : Int)) = True := eq_true (by omega)
            have r5 : nearN (uN us) us.length i j = nearN (uN us) ns.length i j := by rw [h2']
            cases k1 : noB us ns.length i j
            · have k1' := k1
              unfold noB at k1'
              cases k2 : decide (nearN (uN us) ns.length i j < 0) <;> rw [k2] at k1'
              · have k3 : decide (nearN (fun b => dN us b ns.length) ns.length i j < 0) = false := k1'
                simp (maxSteps := 10000000) only [En.E, En.evsC, List.map_cons, List.map_nil, ne_eq, En.bitN, Nat.testBit, seval, En.vV, hs, hv, hT, hG, hF, rcM, rcHp, chkHp, d1, spNear_q, byR_q, latU_q, hB, hD, dnL_len, Int.toNat_natCast, r1, r2, r3, r4, r5, o1, o2, o3, o4, o5, hnm.2, k2, k3, i2]
                refine ⟨⟨j + 1, by omega, fun m hmj => ?_⟩, (sle_all [8000, 2000, 1001, 1002] (by decide) (by simp only [En.E, En.evsC, List.map_cons, List.map_nil, ne_eq, En.bitN, Nat.testBit, seval, En.slLe, En.hpLe, En.chE, En.allLt, rcM, rcHp, chkHp, Int.natCast_add, Int.cast_ofNat_Int])), by simp only; omega⟩
                by_cases e : m = j
                · rw [e]; exact k1
                · exact hm m (by omega)
              · simp at k1'
            · have an : (List.range ns.length).any (noB us ns.length i) = true := List.any_eq_true.2 ⟨j, List.mem_range.2 hjl, k1⟩
              rw [an] at hp
              have hp : q = ((i : Int), 4) := hp
              unfold noB at k1
              cases k2 : decide (nearN (uN us) ns.length i j < 0) <;> rw [k2] at k1
              · have k3 : decide (nearN (fun b => dN us b ns.length) ns.length i j < 0) = true := k1
                simp (maxSteps := 10000000) only [En.E, En.evsC, List.map_cons, List.map_nil, ne_eq, En.bitN, Nat.testBit, seval, En.vV, hs, hv, hT, hG, hF, rcM, rcHp, chkHp, d1, spNear_q, byR_q, latU_q, hB, hD, dnL_len, Int.toNat_natCast, r1, r2, r3, r4, r5, o1, o2, o3, o4, o5, hnm.2, k2, k3, hp]
              · simp (maxSteps := 10000000) only [En.E, En.evsC, List.map_cons, List.map_nil, ne_eq, En.bitN, Nat.testBit, seval, En.vV, hs, hv, hT, hG, hF, rcM, rcHp, chkHp, d1, spNear_q, byR_q, latU_q, hB, hD, dnL_len, Int.toNat_natCast, r1, r2, r3, r4, r5, o1, o2, o3, o4, o5, hnm.2, k2, hp]
          · have d1 : decide ((j : Int) < (ns.length : Int)) = false := decide_eq_false (by omega)
            have an : (List.range ns.length).any (noB us ns.length i) = false := by
              rw [List.any_eq_false]
              intro m hmm
              rw [hm m (by have := List.mem_range.1 hmm; omega)]; simp
            rw [an] at hp
            simp (maxSteps := 10000000) only [En.E, En.evsC, List.map_cons, List.map_nil, ne_eq, En.bitN, Nat.testBit, seval, En.vV, hs, hv, hT, hG, hF, rcM, rcHp, chkHp, d1, i1]
            exact ⟨⟨i + 1, by omega, hp⟩, (sle_all [8000, 2000, 1001, 1002] (by decide) (by simp only [En.E, En.evsC, List.map_cons, List.map_nil, ne_eq, En.bitN, Nat.testBit, seval, En.slLe, En.hpLe, En.chE, En.allLt, rcK, rcHp, chkHp, Int.natCast_add, Int.cast_ofNat_Int])), by simp only; omega⟩
        · have d0 : decide ((i : Int) < (ns.length : Int)) = false := decide_eq_false (by omega)
          rw [show ns.length - i = 0 by omega] at hp
          have hp : q = (0, 0) := hp
          simp (maxSteps := 10000000) only [En.E, En.evsC, List.map_cons, List.map_nil, ne_eq, En.bitN, Nat.testBit, seval, En.vV, hs, hv, hT, hG, hF, rcK, rcHp, chkHp, d0, hp]
    · rw [if_pos (by have : ¬ (us.length : Int) = ns.length := by simpa using h2
                     omega)] at hq
      simp (maxSteps := 10000000) only [En.E, En.evsC, List.map_cons, List.map_nil, ne_eq, En.bitN, Nat.testBit, seval, En.vV, hs, hv, hT, hG, hF, spNamed_q, strR_q, strD_q, h1, h2, hq]
  · rw [if_pos (by simpa using h1)] at hq
    simp (maxSteps := 10000000) only [En.E, En.evsC, List.map_cons, List.map_nil, ne_eq, En.bitN, Nat.testBit, seval, En.vV, hs, hv, hT, hG, hF, spNamed_q, strR_q, strD_q, h1, hq]
def spRChk : Spc
  | [.agg [.g k A n c, .g j B m d]], H, _ => .is (latR A n c B m d (H k) (H j) ∧ True) (.tup [.v (.int .i64 (chkV nmV (latN (H k)) (latU (H j))).1), .v (.int .i64 (chkV nmV (latN (H k)) (latU (H j))).2)])
  | _, _, _ => .bad
theorem spRChk_q {k n c j m d : Nat} {A B : Option Addr}  {H : Nat → Ch} {nx : Nat} : spRChk [.agg [.g k A n c, .g j B m d]] H nx = .is (latR A n c B m d (H k) (H j) ∧ True) (.tup [.v (.int .i64 (chkV nmV (latN (H k)) (latU (H j))).1), .v (.int .i64 (chkV nmV (latN (H k)) (latU (H j))).2)]) := (rfl)
theorem spRChk_ok : SpecOk Tryz.prog 38 spRChk := by
  intro args hp nx w0 O w H hv
  unfold spRChk at hv ⊢
  split at hv
  · next k A n c j B m d  =>
    obtain ⟨hl, hx⟩ := hv
    obtain ⟨x1, x2, x3, x4, x5⟩ := latR_of hl
    have h1 := H.hold k
    have h2 := H.hold j
    rw [x1] at h1
    rw [x2] at h2
    have := rcheck_any (latN (lookH hp k)) (latU (lookH hp j)) A B c d x5 w ⟨⟨h1, rfl⟩, ⟨h2, rfl⟩, trivial⟩
    rw [← x3, ← x4] at this
    refine this.mono ?_
    rintro e w' ⟨rfl, hb⟩
    exact ⟨⟨0, none, 0, none, 0, mz⟩, rfl, .still hb⟩
  · exact hv.elim
def glRa : List (FuncId × Spc) := [(38, spRChk)]
theorem glRa_ok : GOk Tryz.prog (lookG glRa) := lG_cons (by kernel_rfl) spRChk_ok lG_nil
set_option maxRecDepth 100000 in
set_option maxHeartbeats 4000000 in
theorem rasked_any (ns : List ByteArray) (us : List Int) (A B : Option Addr) (c d : Nat) (a b : Int) (hB : Bytes us) (w : World) (hg : allRd w.heap.size w [(1001, .strs A c ns), (1002, .ints B d .u8 us)]) :
    Calls Tryz.prog 49 (dens [.agg [.g 1001 A ns.length c, .g 1002 B us.length d], .v (.int .i64 a), .v (.int .i64 b)]).toArray w fun e w' => e = .returned (.int .i64 (askV ns us [a, b])) ∧ Below w.heap.size w w' := by
  obtain ⟨q, hq⟩ : ∃ q, q = askV ns us [a, b] := ⟨_, rfl⟩
  rw [← hq]
  refine calls_go (args := [.agg [.g 1001 A ns.length c, .g 1002 B us.length d], .v (.int .i64 a), .v (.int .i64 b)]) (hp := [(1001, .strs A c ns), (1002, .ints B d .u8 us)]) (nx := 2000) (n := 600) (U := [(1000000, 11)]) (V := []) (tl := tlLt) (gl := glRa) (post := fun s' ys => ys = [.v (.int .i64 q)])
    followP tlLt_ok glRa_ok Tryz.func49 rfl (by kernel_rfl) (Nat.le_of_ble_eq_true (by kernel_rfl)) (by kernel_rfl) (by kernel_rfl) (hh_list hg) (free_list (by simp [allLt])) ?_ ?_
  · rintro s ys w' rfl H
    exact ⟨rfl, H.below⟩
  intro L F T G nd va hE
  obtain ⟨hL, hF, hs, hv, hT, hG, hR, hI, hJ, hW⟩ := hE
  rw [Tryz.results49] at hF
  simp (maxSteps := 1000000) only [En.nN, En.E, En.evsC, List.map_cons, List.map_nil, ne_eq, En.bitN, Nat.testBit, seval] at hv
  simp only [En.at_nil, En.at_cons, En.ag_nil, En.ag_cons, and_true, tlLt, glRa, tyInt, tyU8, tyBool, tyStr, tyErr, tyStrs, tyBytes, tyInts, tyLat, tyA8, tyUps, tyDns, tyOrd, tyUint] at hT hG
  unfold askV at hq
  simp only [List.any_cons, List.any_nil, Bool.or_false] at hq
  cases h1 : ((chkV nmV ns us).2 != 0) <;> rw [h1] at hq
  · have h0 : (chkV nmV ns us).2 = 0 := by simpa using h1
    cases h2 : decide (a < 0) <;> rw [h2] at hq
    · cases h3 : decide ((ns.length : Int) ≤ a) <;> rw [h3] at hq
      · cases h4 : decide (b < 0) <;> rw [h4] at hq
        · cases h5 : decide ((ns.length : Int) ≤ b) <;> rw [h5] at hq
          · simp (maxSteps := 10000000) only [En.E, En.evsC, List.map_cons, List.map_nil, ne_eq, En.bitN, Nat.testBit, seval, En.vV, hs, hv, hT, hG, hF, spRChk_q, latR_q, latN_q, latU_q, hB, h0, h2, h3, h4, h5, hq, Bool.or_self]
          · simp (maxSteps := 10000000) only [En.E, En.evsC, List.map_cons, List.map_nil, ne_eq, En.bitN, Nat.testBit, seval, En.vV, hs, hv, hT, hG, hF, spRChk_q, latR_q, latN_q, latU_q, hB, h0, h2, h3, h4, h5, hq, Bool.false_or]
        · simp (maxSteps := 10000000) only [En.E, En.evsC, List.map_cons, List.map_nil, ne_eq, En.bitN, Nat.testBit, seval, En.vV, hs, hv, hT, hG, hF, spRChk_q, latR_q, latN_q, latU_q, hB, h0, h2, h3, h4, hq, Bool.false_or]
      · simp (maxSteps := 10000000) only [En.E, En.evsC, List.map_cons, List.map_nil, ne_eq, En.bitN, Nat.testBit, seval, En.vV, hs, hv, hT, hG, hF, spRChk_q, latR_q, latN_q, latU_q, hB, h0, h2, h3, hq, Bool.true_or]
    · simp (maxSteps := 10000000) only [En.E, En.evsC, List.map_cons, List.map_nil, ne_eq, En.bitN, Nat.testBit, seval, En.vV, hs, hv, hT, hG, hF, spRChk_q, latR_q, latN_q, latU_q, hB, h0, h2, hq, Bool.true_or]
  · have h1' : ((chkV nmV ns us).2 == 0) = false := by simpa [bne] using h1
    have hq : q = (chkV nmV ns us).2 := hq
    simp (maxSteps := 10000000) only [En.E, En.evsC, List.map_cons, List.map_nil, ne_eq, En.bitN, Nat.testBit, seval, En.vV, hs, hv, hT, hG, hF, spRChk_q, latR_q, latN_q, latU_q, hB, h1', hq]
def spRAsk : Spc
  | [.agg [.g k A n c, .g j B m d], .v (.int .i64 a), .v (.int .i64 b)], H, _ => .is (latR A n c B m d (H k) (H j) ∧ True) (.v (.int .i64 (askV (latN (H k)) (latU (H j)) [a, b])))
  | _, _, _ => .bad
theorem spRAsk_q {k n c j m d : Nat} {A B : Option Addr} {a b : Int} {H : Nat → Ch} {nx : Nat} : spRAsk [.agg [.g k A n c, .g j B m d], .v (.int .i64 a), .v (.int .i64 b)] H nx = .is (latR A n c B m d (H k) (H j) ∧ True) (.v (.int .i64 (askV (latN (H k)) (latU (H j)) [a, b]))) := (rfl)
theorem spRAsk_ok : SpecOk Tryz.prog 49 spRAsk := by
  intro args hp nx w0 O w H hv
  unfold spRAsk at hv ⊢
  split at hv
  · next k A n c j B m d a b =>
    obtain ⟨hl, hx⟩ := hv
    obtain ⟨x1, x2, x3, x4, x5⟩ := latR_of hl
    have h1 := H.hold k
    have h2 := H.hold j
    rw [x1] at h1
    rw [x2] at h2
    have := rasked_any (latN (lookH hp k)) (latU (lookH hp j)) A B c d a b x5 w ⟨⟨h1, rfl⟩, ⟨h2, rfl⟩, trivial⟩
    rw [← x3, ← x4] at this
    refine this.mono ?_
    rintro e w' ⟨rfl, hb⟩
    exact ⟨⟨0, none, 0, none, 0, mz⟩, rfl, .still hb⟩
  · exact hv.elim
def glRl : List (FuncId × Spc) := [(49, spRAsk), (50, spBelow)]
theorem glRl_ok : GOk Tryz.prog (lookG glRl) := lG_cons (by kernel_rfl) spRAsk_ok <| lG_cons (by kernel_rfl) spBelow_ok lG_nil
set_option maxRecDepth 100000 in
set_option maxHeartbeats 4000000 in
theorem rleq_any (ns : List ByteArray) (us : List Int) (A B : Option Addr) (c d : Nat) (a b : Int) (hB : Bytes us) (w : World) (hg : allRd w.heap.size w [(1001, .strs A c ns), (1002, .ints B d .u8 us)]) :
    Calls Tryz.prog 22 (dens [.agg [.g 1001 A ns.length c, .g 1002 B us.length d], .v (.int .i64 a), .v (.int .i64 b)]).toArray w fun e w' => e = .returned (.tuple #[.bool (leqV ns us a b), .int .i64 (askV ns us [a, b])]) ∧ Below w.heap.size w w' := by
  obtain ⟨q, hq⟩ : ∃ q, q = leqV ns us a b := ⟨_, rfl⟩
  obtain ⟨r, hr⟩ : ∃ r, r = askV ns us [a, b] := ⟨_, rfl⟩
  rw [← hq, ← hr]
  refine calls_go (args := [.agg [.g 1001 A ns.length c, .g 1002 B us.length d], .v (.int .i64 a), .v (.int .i64 b)]) (hp := [(1001, .strs A c ns), (1002, .ints B d .u8 us)]) (nx := 2000) (n := 600) (U := [(1000000, 11)]) (V := []) (tl := tlLt) (gl := glRl) (post := fun s' ys => ys = [.v (.bool q), .v (.int .i64 r)])
    followP tlLt_ok glRl_ok Tryz.func22 rfl (by kernel_rfl) (Nat.le_of_ble_eq_true (by kernel_rfl)) (by kernel_rfl) (by kernel_rfl) (hh_list hg) (free_list (by simp [allLt])) ?_ ?_
  · rintro s ys w' rfl H
    exact ⟨rfl, H.below⟩
  intro L F T G nd va hE
  obtain ⟨hL, hF, hs, hv, hT, hG, hR, hI, hJ, hW⟩ := hE
  rw [Tryz.results22] at hF
  simp (maxSteps := 1000000) only [En.nN, En.E, En.evsC, List.map_cons, List.map_nil, ne_eq, En.bitN, Nat.testBit, seval] at hv
  simp only [En.at_nil, En.at_cons, En.ag_nil, En.ag_cons, and_true, tlLt, glRl, tyInt, tyU8, tyBool, tyStr, tyErr, tyStrs, tyBytes, tyInts, tyLat, tyA8, tyUps, tyDns, tyOrd, tyUint] at hT hG
  unfold leqV at hq
  cases h1 : (askV ns us [a, b] != 0) <;> rw [h1] at hq
  · have h0 : askV ns us [a, b] = 0 := by simpa using h1
    rw [h0] at hr
    obtain ⟨l1, l2, l3, la, lb, _⟩ := ask_ok hB h1
    have e1 := belV_lab hB l3 la lb
    have hq : q = leI us a b := hq
    simp (maxSteps := 10000000) only [En.E, En.evsC, List.map_cons, List.map_nil, ne_eq, En.bitN, Nat.testBit, seval, En.vV, hs, hv, hT, hG, hF, spRAsk_q, spBelow_q, latR_q, latN_q, latU_q, hB, h0, hq, hr, e1]
  · have h1' : (askV ns us [a, b] == 0) = false := by simpa [bne] using h1
    have hq : q = false := hq
    simp (maxSteps := 10000000) only [En.E, En.evsC, List.map_cons, List.map_nil, ne_eq, En.bitN, Nat.testBit, seval, En.vV, hs, hv, hT, hG, hF, spRAsk_q, spBelow_q, latR_q, latN_q, latU_q, hB, h1', hq, hr]
def spRLeq : Spc
  | [.agg [.g k A n c, .g j B m d], .v (.int .i64 a), .v (.int .i64 b)], H, _ => .is (latR A n c B m d (H k) (H j) ∧ True) (.tup [.v (.bool (leqV (latN (H k)) (latU (H j)) a b)), .v (.int .i64 (askV (latN (H k)) (latU (H j)) [a, b]))])
  | _, _, _ => .bad
theorem spRLeq_q {k n c j m d : Nat} {A B : Option Addr} {a b : Int} {H : Nat → Ch} {nx : Nat} : spRLeq [.agg [.g k A n c, .g j B m d], .v (.int .i64 a), .v (.int .i64 b)] H nx = .is (latR A n c B m d (H k) (H j) ∧ True) (.tup [.v (.bool (leqV (latN (H k)) (latU (H j)) a b)), .v (.int .i64 (askV (latN (H k)) (latU (H j)) [a, b]))]) := (rfl)
theorem spRLeq_ok : SpecOk Tryz.prog 22 spRLeq := by
  intro args hp nx w0 O w H hv
  unfold spRLeq at hv ⊢
  split at hv
  · next k A n c j B m d a b =>
    obtain ⟨hl, hx⟩ := hv
    obtain ⟨x1, x2, x3, x4, x5⟩ := latR_of hl
    have h1 := H.hold k
    have h2 := H.hold j
    rw [x1] at h1
    rw [x2] at h2
    have := rleq_any (latN (lookH hp k)) (latU (lookH hp j)) A B c d a b x5 w ⟨⟨h1, rfl⟩, ⟨h2, rfl⟩, trivial⟩
    rw [← x3, ← x4] at this
    refine this.mono ?_
    rintro e w' ⟨rfl, hb⟩
    exact ⟨⟨0, none, 0, none, 0, mz⟩, rfl, .still hb⟩
  · exact hv.elim
end Pr
end Go.Proofs.YtnpkmimbnjnicaaGreatDoor
