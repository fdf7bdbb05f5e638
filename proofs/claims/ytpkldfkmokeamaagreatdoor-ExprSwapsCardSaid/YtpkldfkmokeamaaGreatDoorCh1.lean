/-
slices.ContainsFunc over nodes, with expr.checked's test (chapter 15).
-/
import Derived.Test.YtpkldfkmokeamaaGreatDoorGa1
import Derived.Test.YtpkldfkmokeamaaGreatDoorXa1
set_option linter.unusedSimpArgs false
set_option linter.unusedVariables false
namespace Go.Proofs.YtpkldfkmokeamaaGreatDoor
namespace Pr
open Go Go.RowKit En
open Ex
def tlIx : List (TypeId × TI) := [tyInt, tyBool, tyNode, tyNodes]
theorem tlIx_ok : TyAll Tryz.prog (lookT tlIx) := tyAll_p tyInt_ok <| tyAll_p tyBool_ok <| tyAll_p tyNode_ok <| tyAll_p tyNodes_ok tyAll_nil
def fEl : Value := .func (.func 66) #[] #[]
theorem el_any (d : Nd) (w : World) : Calls Tryz.prog 66 (dens [.agg (ndC d)]).toArray w fun e w' => e = .returned (.bool (d.k != 1)) ∧ Below w.heap.size w w' := by
  refine calls_go (args := [.agg (ndC d)]) (hp := []) (nx := 1000) (n := 100) (U := [(1000000, 6)]) (V := []) (tl := tlIx) (gl := gl0) (post := fun s ys => ys = [.v (.bool (d.k != 1))])
    followP tlIx_ok gl0_ok Tryz.func66 rfl (by kernel_rfl) (Nat.le_of_ble_eq_true (by kernel_rfl)) (by kernel_rfl) (by kernel_rfl) (hh_list trivial) (fun _ _ => rfl) ?_ ?_
  · rintro s ys w' rfl H
    exact ⟨rfl, H.below⟩
  intro L F T G nd va hE
  obtain ⟨hL, hF, hs, hv, hT, hG, hR, hI, hJ, hW⟩ := hE
  rw [Tryz.results66] at hF
  simp (maxSteps := 1000000) only [En.nN, En.E, En.evsC, List.map_cons, List.map_nil, Nat.reduceBEq, Nat.reduceAdd, Nat.reduceMul, Nat.reduceEqDiff, Nat.reduceLeDiff, Nat.reduceLT, ne_eq, reduceCtorEq, Int.reduceBEq, Int.reduceBNe, Int.reduceAdd, Int.reduceSub, Int.reduceMul, Int.reduceNeg, Nat.reduceBNe, Int.reduceToNat, Nat.reduceSub, Int.reduceLE, Int.reduceLT] at hv
  simp only [En.at_nil, En.at_cons, En.ag_nil, En.ag_cons, and_true, tlIx, gl0, tyInt, tyBool, tyNode, tyNodes] at hT hG
  simp (maxSteps := 10000000) only [En.E, En.evsC, List.map_cons, List.map_nil, Nat.reduceBEq, Nat.reduceAdd, Nat.reduceMul, Nat.reduceEqDiff, Nat.reduceLeDiff, Nat.reduceLT, ne_eq, reduceCtorEq, Int.reduceBEq, Int.reduceBNe, Int.reduceAdd, Int.reduceSub, Int.reduceMul, Int.reduceNeg, Nat.reduceBNe, Int.reduceToNat, Nat.reduceSub, Int.reduceLE, Int.reduceLT, En.vV, hs, hv, hT, hG, hF, ndC]
def spEl : Spc
  | [.agg [.v (.int .i64 k), .v (.int .i64 p), .v (.int .i64 c), .v (.string nm), .v (.string tx), .v (.int .i64 n), .v (.int .i64 s)]], _, _ => .is (True) (.v (.bool (k != 1)))
  | _, _, _ => .bad
theorem spEl_q {k p c n s : Int} {nm tx : ByteArray} {H : Nat → Ch} {nx : Nat} : spEl [.agg [.v (.int .i64 k), .v (.int .i64 p), .v (.int .i64 c), .v (.string nm), .v (.string tx), .v (.int .i64 n), .v (.int .i64 s)]] H nx = .is (True) (.v (.bool (k != 1))) := (rfl)
theorem spEl_ok : SpecOk Tryz.prog 66 spEl := specOk_is fun args H nx => by
  unfold spEl; split
  · exact fun _ w => el_any ⟨_, _, _, _, _, _, _⟩ w
  · trivial
def glIx : List (FuncId × Spc) := [(66, spEl)]
theorem glIx_ok : GOk Tryz.prog (lookG glIx) := lG_cons (by kernel_rfl) spEl_ok lG_nil
def idxV (p : Nat → Bool) (n : Nat) : Int := ((List.range n).find? p).elim (-1) fun i => (i : Int)
theorem idxV_at {p : Nat → Bool} {n i : Nat} (hi : i < n) (h : ∀ j, j < i → p j = false) (hp : p i = true) : idxV p n = i := by
  have : (List.range n).find? p = some i := List.find?_range_eq_some.2 ⟨hp, List.mem_range.2 hi, fun j hj => by rw [h j hj]; rfl⟩
  rw [idxV, this]; rfl
theorem idxV_no {p : Nat → Bool} {n : Nat} (h : ∀ j, j < n → p j = false) : idxV p n = -1 := by
  have : (List.range n).find? p = none := List.find?_range_eq_none.2 fun j hj => by rw [h j hj]; rfl
  rw [idxV, this]; rfl
theorem idxV_any (p : Nat → Bool) (n : Nat) : decide (idxV p n ≥ 0) = (List.range n).any p := by
  cases h : (List.range n).find? p with
  | none =>
    have := List.find?_range_eq_none.1 h
    have e : (List.range n).any p = false := by
      rw [List.any_eq_false]
      intro x hx
      have := this x (List.mem_range.1 hx)
      simpa using this
    rw [idxV, h, e]; rfl
  | some i =>
    obtain ⟨h1, h2, _⟩ := List.find?_range_eq_some.1 h
    rw [idxV, h, List.any_eq_true.2 ⟨i, h2, h1⟩]
    exact decide_eq_true (Int.natCast_nonneg i)
def ixI (g : Nat → Nd) (A : Option Addr) (n c i : Nat) : SS :=
  ⟨[(0, .g 1000 A n c), (1, .v fEl), (6, .g 1000 A n c), (7, .v (.int .i64 n)), (8, .v (.int .i64 i))], [(1000, .recs A c 7 n (fun i => ndC (g i)))], 3000⟩
theorem idx_any (g : Nat → Nd) (n : Nat) (hn : n ≤ 100000) (A : Option Addr) (c : Nat) (w : World) (h : Hold w.heap.size w (.recs A c 7 n (fun i => ndC (g i)))) :
    Calls Tryz.prog 86 #[.slice A n c, fEl] w fun e w' => e = .returned (.int .i64 (idxV (fun i => (g i).k != 1) n)) ∧ Below w.heap.size w w' := by
  obtain ⟨q, hq⟩ : ∃ q, q = idxV (fun i => (g i).k != 1) n := ⟨_, rfl⟩
  rw [← hq]
  refine calls_go (args := [.g 1000 A n c, .v fEl]) (hp := [(1000, .recs A c 7 n (fun i => ndC (g i)))]) (nx := 1001) (n := 400) (U := [(1000000, 18)]) (V := []) (tl := tlIx) (gl := glIx) (post := fun s ys => ys = [.v (.int .i64 q)])
    followP tlIx_ok glIx_ok Tryz.func86 rfl (by kernel_rfl) (Nat.le_of_ble_eq_true (by kernel_rfl)) (by kernel_rfl) (by kernel_rfl) (hh_list ⟨⟨h, rfl⟩, trivial⟩) (free_list (by simp [allLt])) ?_ ?_
  · rintro s ys w' rfl H
    exact ⟨rfl, H.below⟩
  intro L F T G nd va hE
  obtain ⟨hL, hF, hs, hv, hT, hG, hR, hI, hJ, hW⟩ := hE
  rw [Tryz.results86] at hF
  simp (maxSteps := 1000000) only [En.nN, En.E, En.evsC, List.map_cons, List.map_nil, Nat.reduceBEq, Nat.reduceAdd, Nat.reduceMul, Nat.reduceEqDiff, Nat.reduceLeDiff, Nat.reduceLT, ne_eq, reduceCtorEq, Int.reduceBEq, Int.reduceBNe, Int.reduceAdd, Int.reduceSub, Int.reduceMul, Int.reduceNeg, Nat.reduceBNe, Int.reduceToNat, Nat.reduceSub, Int.reduceLE, Int.reduceLT] at hv
  simp only [En.at_nil, En.at_cons, En.ag_nil, En.ag_cons, and_true, tlIx, glIx, tyInt, tyBool, tyNode, tyNodes] at hT hG
  simp (maxSteps := 10000000) only [En.E, En.evsC, List.map_cons, List.map_nil, Nat.reduceBEq, Nat.reduceAdd, Nat.reduceMul, Nat.reduceEqDiff, Nat.reduceLeDiff, Nat.reduceLT, ne_eq, reduceCtorEq, Int.reduceBEq, Int.reduceBNe, Int.reduceAdd, Int.reduceSub, Int.reduceMul, Int.reduceNeg, Nat.reduceBNe, Int.reduceToNat, Nat.reduceSub, Int.reduceLE, Int.reduceLT, En.vV, hs, hv, hT, hG, hF, ]
  refine hI {i : Nat // i ≤ n ∧ ∀ j, j < i → ((g j).k != 1) = false} (fun x => ixI g A n c x.1) (fun x => n - x.1) _ _ _ ⟨0, Nat.zero_le _, fun j hj => absurd hj (Nat.not_lt_zero j)⟩ (sle_all [1000] (by decide) (by simp only [En.E, En.evsC, List.map_cons, List.map_nil, Nat.reduceBEq, Nat.reduceAdd, Nat.reduceMul, Nat.reduceEqDiff, Nat.reduceLeDiff, Nat.reduceLT, ne_eq, reduceCtorEq, Int.reduceBEq, Int.reduceBNe, Int.reduceAdd, Int.reduceSub, Int.reduceMul, Int.reduceNeg, Nat.reduceBNe, Int.reduceToNat, Nat.reduceSub, Int.reduceLE, Int.reduceLT, En.slLe, En.hpLe, En.chE, En.allLt, ixI, Int.cast_ofNat_Int])) ?_
  rintro ⟨i, hi, hp⟩
  refine hR 400 _ _ ?_
  by_cases hlt : i < n
  · have d0 : decide ((i : Int) < (n : Int)) = true := decide_eq_true (by omega)
    have i1 : inr .i64 ((i : Int) + 1) := by simp only [En.inr, En.lo, En.hi]; omega
    cases d1 : ((g i).k != 1) with
    | true =>
      have hq' : q = i := by rw [hq, idxV_at hlt hp d1]
      simp (maxSteps := 10000000) only [En.E, En.evsC, List.map_cons, List.map_nil, Nat.reduceBEq, Nat.reduceAdd, Nat.reduceMul, Nat.reduceEqDiff, Nat.reduceLeDiff, Nat.reduceLT, ne_eq, reduceCtorEq, Int.reduceBEq, Int.reduceBNe, Int.reduceAdd, Int.reduceSub, Int.reduceMul, Int.reduceNeg, Nat.reduceBNe, Int.reduceToNat, Nat.reduceSub, Int.reduceLE, Int.reduceLT, En.vV, hs, hv, hT, hG, hF, ixI, d0, fEl, ndC, Int.toNat_natCast, spEl_q, d1, hq']
      omega
    | false =>
      simp (maxSteps := 10000000) only [En.E, En.evsC, List.map_cons, List.map_nil, Nat.reduceBEq, Nat.reduceAdd, Nat.reduceMul, Nat.reduceEqDiff, Nat.reduceLeDiff, Nat.reduceLT, ne_eq, reduceCtorEq, Int.reduceBEq, Int.reduceBNe, Int.reduceAdd, Int.reduceSub, Int.reduceMul, Int.reduceNeg, Nat.reduceBNe, Int.reduceToNat, Nat.reduceSub, Int.reduceLE, Int.reduceLT, En.vV, hs, hv, hT, hG, hF, ixI, d0, fEl, ndC, Int.toNat_natCast, spEl_q, d1, i1]
      refine ⟨by omega, by omega, ⟨i + 1, by omega, fun j hj => ?_⟩, (sle_all [1000] (by decide) (by simp only [En.E, En.evsC, List.map_cons, List.map_nil, Nat.reduceBEq, Nat.reduceAdd, Nat.reduceMul, Nat.reduceEqDiff, Nat.reduceLeDiff, Nat.reduceLT, ne_eq, reduceCtorEq, Int.reduceBEq, Int.reduceBNe, Int.reduceAdd, Int.reduceSub, Int.reduceMul, Int.reduceNeg, Nat.reduceBNe, Int.reduceToNat, Nat.reduceSub, Int.reduceLE, Int.reduceLT, En.slLe, En.hpLe, En.chE, En.allLt, Int.natCast_add, Int.cast_ofNat_Int])), by simp only; omega⟩
      by_cases e : j = i
      · rw [e]; exact d1
      · exact hp j (by omega)
  · have d0 : decide ((i : Int) < (n : Int)) = false := decide_eq_false (by omega)
    have hq' : q = -1 := by rw [hq, idxV_no fun j hj => hp j (by omega)]
    simp (maxSteps := 10000000) only [En.E, En.evsC, List.map_cons, List.map_nil, Nat.reduceBEq, Nat.reduceAdd, Nat.reduceMul, Nat.reduceEqDiff, Nat.reduceLeDiff, Nat.reduceLT, ne_eq, reduceCtorEq, Int.reduceBEq, Int.reduceBNe, Int.reduceAdd, Int.reduceSub, Int.reduceMul, Int.reduceNeg, Nat.reduceBNe, Int.reduceToNat, Nat.reduceSub, Int.reduceLE, Int.reduceLT, En.vV, hs, hv, hT, hG, hF, ixI, d0, hq']
def RecR (A : Option Addr) (n c : Nat) : Ch → Prop
  | .recs A' c' 7 n' f => A' = A ∧ c' = c ∧ n' = n ∧ n ≤ 100000 ∧ ∀ i, i < n → f i = ndC (unNd (f i))
  | _ => False
def tsV : Ch → Nat → Bool
  | .recs _ _ 7 _ f, i => (unNd (f i)).k != 1
  | _, _ => false
theorem RecR_hold {A : Option Addr} {n c B : Nat} {w : World} {x : Ch} (h : RecR A n c x) (hh : Hold B w x) : ∃ f, x = .recs A c 7 n f ∧ n ≤ 100000 ∧ ∀ B', Hold B' w (.recs A c 7 n fun i => ndC (unNd (f i))) := by
  unfold RecR at h
  split at h
  · next A' c' n' f =>
    obtain ⟨rfl, rfl, rfl, hn, he⟩ := h
    refine ⟨f, rfl, hn, fun B' => ⟨⟨hh.1.1, fun hn => ?_⟩, fun i hi => rfl⟩⟩
    obtain ⟨b, o, e, hb, hc⟩ := hh.1.2 hn
    refine ⟨b, o, e, hb, fun i hi j hj => ?_⟩
    have := hc i hi j hj
    simp only [] at this ⊢
    rw [he i hi] at this
    exact this
  · exact h.elim
def spIdx : Spc
  | [.g k A n c, .v v], H, _ => .is (v = fEl ∧ RecR A n c (H k)) (.v (.int .i64 (idxV (tsV (H k)) n)))
  | _, _, _ => .bad
theorem spIdx_q {k n c : Nat} {A : Option Addr} {v : Value} {H : Nat → Ch} {nx : Nat} : spIdx [.g k A n c, .v v] H nx = .is (v = fEl ∧ RecR A n c (H k)) (.v (.int .i64 (idxV (tsV (H k)) n))) := rfl
theorem spIdx_ok : SpecOk Tryz.prog 86 spIdx := by
  intro args hp nx w0 O w H hv
  unfold spIdx at hv ⊢
  split at hv
  · next k A n c v =>
    obtain ⟨rfl, h⟩ := hv
    obtain ⟨f, hk, hn, hh⟩ := RecR_hold h (H.hold k)
    refine (idx_any (fun i => unNd (f i)) n hn A c w (hh _)).mono ?_
    rintro e w' ⟨rfl, hb⟩
    exact ⟨⟨0, none, 0, none, 0, mz⟩, by rw [hk]; rfl, Stp.rd hb trivial fun k b hf => hf.elim⟩
  · exact hv.elim
def glCt : List (FuncId × Spc) := [(86, spIdx)]
theorem glCt_ok : GOk Tryz.prog (lookG glCt) := lG_cons (by kernel_rfl) spIdx_ok lG_nil
theorem cont_any (g : Nat → Nd) (n : Nat) (hn : n ≤ 100000) (A : Option Addr) (c : Nat) (w : World) (h : Hold w.heap.size w (.recs A c 7 n (fun i => ndC (g i)))) :
    Calls Tryz.prog 65 #[.slice A n c, fEl] w fun e w' => e = .returned (.bool ((List.range n).any fun i => (g i).k != 1)) ∧ Below w.heap.size w w' := by
  refine calls_go (args := [.g 1000 A n c, .v fEl]) (hp := [(1000, .recs A c 7 n (fun i => ndC (g i)))]) (nx := 1001) (n := 400) (U := [(1000000, 18)]) (V := []) (tl := tlIx) (gl := glCt) (post := fun s ys => ys = [.v (.bool ((List.range n).any fun i => (g i).k != 1))])
    followP tlIx_ok glCt_ok Tryz.func65 rfl (by kernel_rfl) (Nat.le_of_ble_eq_true (by kernel_rfl)) (by kernel_rfl) (by kernel_rfl) (hh_list ⟨⟨h, rfl⟩, trivial⟩) (free_list (by simp [allLt])) ?_ ?_
  · rintro s ys w' rfl H
    exact ⟨rfl, H.below⟩
  intro L F T G nd va hE
  obtain ⟨hL, hF, hs, hv, hT, hG, hR, hI, hJ, hW⟩ := hE
  rw [Tryz.results65] at hF
  simp (maxSteps := 1000000) only [En.nN, En.E, En.evsC, List.map_cons, List.map_nil, Nat.reduceBEq, Nat.reduceAdd, Nat.reduceMul, Nat.reduceEqDiff, Nat.reduceLeDiff, Nat.reduceLT, ne_eq, reduceCtorEq, Int.reduceBEq, Int.reduceBNe, Int.reduceAdd, Int.reduceSub, Int.reduceMul, Int.reduceNeg, Nat.reduceBNe, Int.reduceToNat, Nat.reduceSub, Int.reduceLE, Int.reduceLT] at hv
  simp only [En.at_nil, En.at_cons, En.ag_nil, En.ag_cons, and_true, tlIx, glCt, tyInt, tyBool, tyNode, tyNodes] at hT hG
  have e : ∀ A' c' m (f : Nat → List SV), tsV (.recs A' c' 7 m f) = fun i => (unNd (f i)).k != 1 := fun _ _ _ _ => rfl
  have e2 : ∀ i, unNd (ndC (g i)) = g i := fun i => rfl
  have e3 : RecR A n c (.recs A c 7 n fun i => ndC (g i)) = True := by simp [RecR, hn, e2]
  simp (maxSteps := 10000000) only [En.E, En.evsC, List.map_cons, List.map_nil, Nat.reduceBEq, Nat.reduceAdd, Nat.reduceMul, Nat.reduceEqDiff, Nat.reduceLeDiff, Nat.reduceLT, ne_eq, reduceCtorEq, Int.reduceBEq, Int.reduceBNe, Int.reduceAdd, Int.reduceSub, Int.reduceMul, Int.reduceNeg, Nat.reduceBNe, Int.reduceToNat, Nat.reduceSub, Int.reduceLE, Int.reduceLT, En.vV, hs, hv, hT, hG, hF, spIdx_q, e, e2, e3, idxV_any]
def spCont : Spc
  | [.g k A n c, .v v], H, _ => .is (v = fEl ∧ RecR A n c (H k)) (.v (.bool ((List.range n).any (tsV (H k)))))
  | _, _, _ => .bad
theorem spCont_q {k n c : Nat} {A : Option Addr} {v : Value} {H : Nat → Ch} {nx : Nat} : spCont [.g k A n c, .v v] H nx = .is (v = fEl ∧ RecR A n c (H k)) (.v (.bool ((List.range n).any (tsV (H k))))) := rfl
theorem spCont_ok : SpecOk Tryz.prog 65 spCont := by
  intro args hp nx w0 O w H hv
  unfold spCont at hv ⊢
  split at hv
  · next k A n c v =>
    obtain ⟨rfl, h⟩ := hv
    obtain ⟨f, hk, hn, hh⟩ := RecR_hold h (H.hold k)
    refine (cont_any (fun i => unNd (f i)) n hn A c w (hh _)).mono ?_
    rintro e w' ⟨rfl, hb⟩
    exact ⟨⟨0, none, 0, none, 0, mz⟩, by rw [hk]; rfl, Stp.rd hb trivial fun k b hf => hf.elim⟩
  · exact hv.elim
end Pr
end Go.Proofs.YtpkldfkmokeamaaGreatDoor
/-
What a check of an expression says, plainly (chapter 15).
-/
set_option linter.unusedSimpArgs false
set_option linter.unusedVariables false
namespace Go.Proofs.YtpkldfkmokeamaaGreatDoor
namespace Pr
open Go Go.RowKit En
open Ex
def badL (l : List Nd) (i : Nat) : Bool := (ndAt l i).k == 3 && (decide (l.length ≤ i + Ks l i) || (List.range (Ks l i)).any fun j => (ndAt l (i + 1 + j)).k != 1)
def errC : Nat → Int
  | 0 => 0
  | 1 => 6
  | _ => 3
def lastV (l : List Nd) : Int × Int := (((lastP l.length (Ms l) (Ks l) 24).1 : Int), errC (lastP l.length (Ms l) (Ks l) 24).2)
def listV (l : List Nd) : Int := idxV (badL l) l.length
def faultF (l : List Nd) : Int := idxV (fun i => faultV (ndAt l i) != 0) l.length
def chkV (l : List Nd) : Int × Int :=
  if l.length = 0 then (0, 6) else if 400 < l.length then (0, 3)
  else if 0 ≤ faultF l then (faultF l, faultV (ndAt l (faultF l).toNat))
  else if 0 ≤ listV l then (listV l, 6) else lastV l
def okL (l : List Nd) : List Nd := if chkV l = (0, 0) then l else []
theorem faultV_list {d : Nd} (h : faultV d = 0) (h3 : d.k = 3) : 0 ≤ d.c ∧ d.c < 400 := by
  unfold faultV at h
  repeat' split at h
  all_goals first | (cases h; done) | omega
theorem arityOf_12 {p : Int} (h : known40 p = true) : arityOf p = 1 ∨ arityOf p = 2 := by
  have key : ∀ i : Fin 41, i.val = 0 ∨ (((pLines.getD i.val []).getD 0 ByteArray.empty).size : Int).tdiv 2 - 1 = 1 ∨ (((pLines.getD i.val []).getD 0 ByteArray.empty).size : Int).tdiv 2 - 1 = 2 := by decide +kernel
  unfold known40 at h
  simp at h
  rcases key ⟨p.toNat, by omega⟩ with h0 | h0
  · simp only at h0; omega
  · exact h0
theorem faultV_op {d : Nd} (h : faultV d = 0) (ho : opN d = true) : d.c = 1 ∨ d.c = 2 := by
  have hk : d.k = 5 ∨ d.k = 6 := by
    simp only [opN] at ho
    cases e : d.k == 5
    · rw [e] at ho; right; simpa using ho
    · left; simpa using e
  unfold faultV at h
  split at h
  · cases h
  next h1 =>
  split at h
  · cases h
  split at h
  · cases h
  split at h
  · cases h
  split at h
  · cases h
  next h5 =>
  rcases hk with hk | hk
  · have hc : d.c = arE d.p := by
      by_cases e : d.c = arE d.p
      · exact e
      · exact absurd (.inr (.inl ⟨hk, e⟩)) h5
    have hf : findE d.p = 0 := by
      by_cases e : findE d.p = 0
      · exact e
      · exact absurd (.inr (.inr (.inr (.inr (.inr (.inr (.inl ⟨hk, e⟩))))))) h1
    cases hkn : known40 d.p with
    | true => rw [hc, arE, if_pos hkn]; exact arityOf_12 hkn
    | false => rw [findE_no hkn] at hf; cases hf
  · by_cases e : d.c = 1 ∨ d.c = 2
    · exact e
    · exact absurd (.inr (.inr ⟨hk, fun h => e (.inl h), fun h => e (.inr h)⟩)) h5
theorem idxV_neg {p : Nat → Bool} {n : Nat} (h : ¬ 0 ≤ idxV p n) : ∀ i, i < n → p i = false := by
  intro i hi
  have : decide (idxV p n ≥ 0) = false := decide_eq_false h
  rw [idxV_any, List.any_eq_false] at this
  simpa using this i (List.mem_range.2 hi)
theorem good_of {l : List Nd} (hn : l.length ≤ 400) (hf : ∀ i, i < l.length → faultV (ndAt l i) = 0) (hb : ∀ i, i < l.length → badL l i = false) : Good l := by
  refine ⟨fun i hi ho => faultV_op (hf i hi) ho, fun i hi h3 => ⟨(faultV_list (hf i hi) h3).1, ?_⟩, by omega⟩
  have := hb i hi
  simp only [badL, h3, Bool.and_eq_false_iff, Bool.or_eq_false_iff, decide_eq_false_iff_not] at this
  rcases this with h | ⟨h, _⟩
  · cases h
  · omega
end Pr
end Go.Proofs.YtpkldfkmokeamaaGreatDoor
/-
expr.checked, walked (chapter 15).
-/
set_option linter.unusedSimpArgs false
set_option linter.unusedVariables false
namespace Go.Proofs.YtpkldfkmokeamaaGreatDoor
namespace Pr
open Go Go.RowKit En
open Ex
def tlCk : List (TypeId × TI) := [tyInt, tyI64, tyBool, tyStr, tyErr, tyNode, tyNodes, tyInts, tyRows, tyBools, tyTree]
theorem tlCk_ok : TyAll Tryz.prog (lookT tlCk) := tyAll_p tyInt_ok <| tyAll_p tyI64_ok <| tyAll_p tyBool_ok <| tyAll_p tyStr_ok <| tyAll_p tyErr_ok <| tyAll_p tyNode_ok <| tyAll_p tyNodes_ok <| tyAll_p tyInts_ok <| tyAll_p tyRows_ok <| tyAll_p tyBools_ok <| tyAll_p tyTree_ok tyAll_nil
def glCk : List (FuncId × Spc) := [(64, spFault), (65, spCont), (58, spGrow), (67, spRest)]
theorem glCk_ok : GOk Tryz.prog (lookG glCk) := lG_cons (by kernel_rfl) spFault_ok <| lG_cons (by kernel_rfl) spCont_ok <| lG_cons (by kernel_rfl) spGrow_ok <| lG_cons (by kernel_rfl) spRest_ok lG_nil
def nilT : SV := .agg [.v (.slice none 0 0), .v (.slice none 0 0), .v (.slice none 0 0), .v (.slice none 0 0)]
def grAt (l : List Nd) (M : Nat → Option Addr × Nat) : Nat → Ch
  | 0 => .recs (M 0).1 (M 0).2 1 l.length fun j => [eV l 0 j]
  | 1 => .recs (M 1).1 (M 1).2 1 l.length fun j => [dV l 0 j]
  | 2 => .recs (M 2).1 (M 2).2 1 l.length fun j => [kV l 0 (fun j => (M (j + 5)).1) (fun j => (M (j + 5)).2) j]
  | 3 => .recs (M 3).1 (M 3).2 1 l.length fun j => [nV l j]
  | _ => .deep false l.length 1 (fun j => (M (j + 5)).1) (fun j => (M (j + 5)).2) (mN l 0) (kF l)
def chkPost (l : List Nd) (s : SS) (ys : List SV) : Prop :=
  (chkV l ≠ (0, 0) ∧ ys = [nilT, .v (.int .i64 (chkV l).1), .v (.int .i64 (chkV l).2)]) ∨
  (chkV l = (0, 0) ∧ ∃ nx M, ys = [grV l nx M, .v (.int .i64 0), .v (.int .i64 0)] ∧ (∀ j, j < 5 → lookH s.hp (nx + j) = grAt l M j))
theorem rec_nd (l : List Nd) (a : Nat) (A : Option Addr) (n c : Nat) : RecR A n c (.recs A c 7 n fun j => [.v (.int .i64 (ndAt l (a + j)).k), .v (.int .i64 (ndAt l (a + j)).p), .v (.int .i64 (ndAt l (a + j)).c), .v (.string (ndAt l (a + j)).nm), .v (.string (ndAt l (a + j)).tx), .v (.int .i64 (ndAt l (a + j)).n), .v (.int .i64 (ndAt l (a + j)).s)]) = (n ≤ 100000) := by
  simp only [RecR, true_and]
  exact propext ⟨fun h => h.1, fun h => ⟨h, fun i _ => rfl⟩⟩
theorem ts_nd (l : List Nd) (a : Nat) (A : Option Addr) (n c : Nat) : tsV (.recs A c 7 n fun j => [.v (.int .i64 (ndAt l (a + j)).k), .v (.int .i64 (ndAt l (a + j)).p), .v (.int .i64 (ndAt l (a + j)).c), .v (.string (ndAt l (a + j)).nm), .v (.string (ndAt l (a + j)).tx), .v (.int .i64 (ndAt l (a + j)).n), .v (.int .i64 (ndAt l (a + j)).s)]) = fun j => (ndAt l (a + j)).k != 1 := rfl
theorem ck_err {l : List Nd} {s : SS} {x y : Int} (h : chkV l = (x, y)) (hy : y ≠ 0) : chkPost l s [.agg [.v (.slice none 0 0), .v (.slice none 0 0), .v (.slice none 0 0), .v (.slice none 0 0)], .v (.int .i64 x), .v (.int .i64 y)] :=
  .inl ⟨by rw [h]; intro e; cases e; exact hy rfl, by rw [h]; rfl⟩
theorem chk0 {l : List Nd} (h : l.length = 0) : chkV l = (0, 6) := if_pos h
theorem chk1 {l : List Nd} (h0 : ¬ l.length = 0) (h : 400 < l.length) : chkV l = (0, 3) := by rw [chkV, if_neg h0, if_pos h]
theorem chk2 {l : List Nd} {i : Nat} (h0 : ¬ l.length = 0) (h1 : ¬ 400 < l.length) (hi : i < l.length) (hf : ∀ j, j < i → faultV (ndAt l j) = 0) (h : faultV (ndAt l i) ≠ 0) : chkV l = ((i : Int), faultV (ndAt l i)) := by
  have e : faultF l = i := idxV_at hi (fun j hj => by rw [hf j hj]; rfl) (by simpa using h)
  rw [chkV, if_neg h0, if_neg h1, if_pos (by rw [e]; omega), e, Int.toNat_natCast]
theorem chk3 {l : List Nd} {i : Nat} (h0 : ¬ l.length = 0) (h1 : ¬ 400 < l.length) (hi : i < l.length) (hf : ∀ j, j < l.length → faultV (ndAt l j) = 0) (hb : ∀ j, j < i → badL l j = false) (h : badL l i = true) : chkV l = ((i : Int), 6) := by
  have e : faultF l = -1 := idxV_no fun j hj => by rw [hf j hj]; rfl
  have e2 : listV l = i := idxV_at hi hb h
  rw [chkV, if_neg h0, if_neg h1, if_neg (by rw [e]; decide), if_pos (by rw [e2]; omega), e2]
theorem chk4 {l : List Nd} (h0 : ¬ l.length = 0) (h1 : ¬ 400 < l.length) (hf : ∀ j, j < l.length → faultV (ndAt l j) = 0) (hb : ∀ j, j < l.length → badL l j = false) : chkV l = lastV l := by
  have e : faultF l = -1 := idxV_no fun j hj => by rw [hf j hj]; rfl
  have e2 : listV l = -1 := idxV_no hb
  rw [chkV, if_neg h0, if_neg h1, if_neg (by rw [e]; decide), if_neg (by rw [e2]; decide)]
theorem gr_nil {B : Nat} {w : World} (j : Nat) : Hold B w (grAt [] mz j) := by
  have z : SlOk w none 0 1 0 (fun i j => undef) := ⟨Nat.le_refl 0, fun h => absurd rfl h⟩
  unfold grAt
  split <;> first | exact ⟨⟨Nat.le_refl 0, fun h => absurd rfl h⟩, fun i hi => absurd hi (Nat.not_lt_zero i)⟩ | exact fun i hi => absurd hi (Nat.not_lt_zero i)
theorem gr_nilF (j b : Nat) : ¬ foot (grAt [] mz j) b := by
  unfold grAt
  split <;> first | (rintro ⟨h, _⟩; exact h rfl) | (rintro ⟨i, hi, _⟩; exact absurd hi (Nat.not_lt_zero i))
section
variable {l : List Nd} {o a : Nat}
theorem lst1 (h : scan l.length (Ms l) (Ks l) 1 0 = (o, a)) (ho : 0 < o) : lastV l = ((l.length : Int), 6) := by
  rw [lastV, lastP, h, if_pos ho]; rfl
theorem lst2 (h : scan l.length (Ms l) (Ks l) 1 0 = (0, a)) (ha : a < l.length) : lastV l = ((a : Int), 6) := by
  rw [lastV, lastP, h, if_neg (by simp), if_pos ha]; rfl
theorem lst3 (h : scan l.length (Ms l) (Ks l) 1 0 = (0, a)) (ha : ¬ a < l.length) (hd : 24 < Dep l.length (Ms l) (Ks l) 0) : lastV l = (0, 3) := by
  rw [lastV, lastP, h, if_neg (by simp), if_neg ha, if_pos hd]; rfl
theorem lst4 (h : scan l.length (Ms l) (Ks l) 1 0 = (0, a)) (ha : ¬ a < l.length) (hd : ¬ 24 < Dep l.length (Ms l) (Ks l) 0) : lastV l = (0, 0) := by
  rw [lastV, lastP, h, if_neg (by simp), if_neg ha, if_neg hd]; rfl
end
section
variable (l : List Nd) (A : Option Addr) (c bT : Nat) (bn on cn ba oa ca : Nat)
def ckH : Hp := (1001, .blk bT [.v (.slice none 0 0), .v (.slice none 0 0), .v (.slice none 0 0), .v (.slice none 0 0)] 55) :: (1000, .recs A c 7 l.length (fun i => ndC (ndAt l i))) :: gHu bn on cn ba oa ca
def ckI (i : Nat) : SS := ⟨[(0, .g 1000 A l.length c), (2, .p 1001 bT 0), (3, .v (.int .i64 0)), (4, .v (.int .i64 0)), (24, .g 1000 A l.length c), (25, .v (.int .i64 l.length)), (26, .v (.int .i64 i))], ckH l A c bT bn on cn ba oa ca, 20000⟩
def ckS (M : Nat → Option Addr × Nat) (o a : Nat) : SS :=
  ⟨[(0, .g 1000 A l.length c), (2, .p 1001 bT 0), (3, .v (.int .i64 0)), (4, .v (.int .i64 0)), (10, .v (.int .i64 o)), (11, .v (.int .i64 a))],
   [(20000, .recs (M 0).1 (M 0).2 1 l.length fun j => [eV l 0 j]), (20001, .recs (M 1).1 (M 1).2 1 l.length fun j => [dV l 0 j]),
    (20002, .recs (M 2).1 (M 2).2 1 l.length fun j => [kV l 0 (fun j => (M (j + 5)).1) (fun j => (M (j + 5)).2) j]), (20003, .recs (M 3).1 (M 3).2 1 l.length fun j => [nV l j]),
    (20004, .deep false l.length 1 (fun j => (M (j + 5)).1) (fun j => (M (j + 5)).2) (mN l 0) (kF l)),
    (1001, .blk bT [.g 20000 (M 0).1 l.length (M 0).2, .g 20001 (M 1).1 l.length (M 1).2, .g 20002 (M 2).1 l.length (M 2).2, .g 20003 (M 3).1 l.length (M 3).2] 55),
    (1000, .recs A c 7 l.length (fun i => ndC (ndAt l i)))], 30000⟩
def ckJ (i : Nat) : SS := ⟨[(0, .g 1000 A l.length c), (2, .p 1001 bT 0), (3, .v (.int .i64 0)), (4, .v (.int .i64 0)), (39, .g 1000 A l.length c), (40, .v (.int .i64 l.length)), (41, .v (.int .i64 i))], ckH l A c bT bn on cn ba oa ca, 20000⟩
end
set_option maxRecDepth 100000 in
set_option maxHeartbeats 4000000 in
theorem checked_any (l : List Nd) (hlen : l.length ≤ 100000) (hz : ∀ i, i < l.length → (ndAt l i).nm.size ≤ 2305843009213693952 ∧ (ndAt l i).tx.size ≤ 2305843009213693952) (A : Option Addr) (c : Nat) (bn on cn ba oa ca : Nat) (h4 : 4 ≤ cn) (h3 : 3 ≤ ca) (w : World)
    (h : Hold w.heap.size w (.recs A c 7 l.length (fun i => ndC (ndAt l i)))) (hg : allRd w.heap.size w (gHu bn on cn ba oa ca)) :
    Calls Tryz.prog 39 #[.slice A l.length c] w fun e w' => ∃ M, e = .returned (den (.tup [grV (okL l) 0 M, .v (.int .i64 (chkV l).1), .v (.int .i64 (chkV l).2)])) ∧ Below w.heap.size w w' ∧
      (∀ j, j < 5 → Hold w.heap.size w' (grAt (okL l) M j)) ∧ ∀ j, j < 5 → ∀ b, foot (grAt (okL l) M j) b → w.heap.size ≤ b ∨ ∃ k, foot (lookH ((1000, .recs A c 7 l.length (fun i => ndC (ndAt l i))) :: gHu bn on cn ba oa ca) k) b := by
  refine calls_go (args := [.g 1000 A l.length c]) (hp := (1000, .recs A c 7 l.length (fun i => ndC (ndAt l i))) :: gHu bn on cn ba oa ca) (nx := 1001) (n := 4000) (U := [(1000000, 140)]) (V := []) (tl := tlCk) (gl := glCk) (post := chkPost l)
    followP tlCk_ok glCk_ok Tryz.func39 rfl (by kernel_rfl) (Nat.le_of_ble_eq_true (by kernel_rfl)) (by kernel_rfl) (by kernel_rfl) (hh_list ⟨⟨h, rfl⟩, hg⟩) (free_list (by simp [allLt, gHu, gHp])) ?_ ?_
  · rintro s ys w' (⟨hne, rfl⟩ | ⟨hok, nx, M, rfl, hM⟩) H
    · have e : okL l = [] := if_neg hne
      rw [e]
      exact ⟨mz, rfl, H.below, fun j hj => gr_nil j, fun j hj b hf => absurd hf (gr_nilF j b)⟩
    · have e : okL l = l := if_pos hok
      rw [e, hok]
      exact ⟨M, rfl, H.below, fun j hj => hM j hj ▸ H.hold (nx + j), fun j hj b hf => H.old (nx + j) b (by rw [hM j hj]; exact hf)⟩
  intro L F T G nd va hE
  obtain ⟨hL, hF, hs, hv, hT, hG, hR, hI, hJ, hW⟩ := hE
  rw [Tryz.results39] at hF
  simp (maxSteps := 1000000) only [En.nN, En.E, En.evsC, List.map_cons, List.map_nil, Nat.reduceBEq, Nat.reduceAdd, Nat.reduceMul, Nat.reduceEqDiff, Nat.reduceLeDiff, Nat.reduceLT, ne_eq, reduceCtorEq, Int.reduceBEq, Int.reduceBNe, Int.reduceAdd, Int.reduceSub, Int.reduceMul, Int.reduceNeg, Nat.reduceBNe, Int.reduceToNat, Nat.reduceSub, Int.reduceLE, Int.reduceLT] at hv
  simp only [En.at_nil, En.at_cons, En.ag_nil, En.ag_cons, and_true, tlCk, glCk, tyInt, tyI64, tyBool, tyStr, tyErr, tyNode, tyNodes, tyInts, tyRows, tyBools, tyTree] at hT hG
  by_cases h0 : l.length = 0
  · have d0 : ((l.length : Int) == 0) = true := by rw [h0]; rfl
    simp (maxSteps := 10000000) only [En.E, En.evsC, List.map_cons, List.map_nil, Nat.reduceBEq, Nat.reduceAdd, Nat.reduceMul, Nat.reduceEqDiff, Nat.reduceLeDiff, Nat.reduceLT, ne_eq, reduceCtorEq, Int.reduceBEq, Int.reduceBNe, Int.reduceAdd, Int.reduceSub, Int.reduceMul, Int.reduceNeg, Nat.reduceBNe, Int.reduceToNat, Nat.reduceSub, Int.reduceLE, Int.reduceLT, En.vV, hs, hv, hT, hG, hF, d0, gHu, gHp]
    exact fun b => ck_err (chk0 h0) (by decide)
  · have d0 : ((l.length : Int) == 0) = false := by rw [beq_eq_false_iff_ne]; omega
    by_cases h1 : 400 < l.length
    · have d1 : decide ((l.length : Int) > 400) = true := decide_eq_true (by omega)
      simp (maxSteps := 10000000) only [En.E, En.evsC, List.map_cons, List.map_nil, Nat.reduceBEq, Nat.reduceAdd, Nat.reduceMul, Nat.reduceEqDiff, Nat.reduceLeDiff, Nat.reduceLT, ne_eq, reduceCtorEq, Int.reduceBEq, Int.reduceBNe, Int.reduceAdd, Int.reduceSub, Int.reduceMul, Int.reduceNeg, Nat.reduceBNe, Int.reduceToNat, Nat.reduceSub, Int.reduceLE, Int.reduceLT, En.vV, hs, hv, hT, hG, hF, d0, d1, gHu, gHp]
      exact fun b => ck_err (chk1 h0 h1) (by decide)
    · have d1 : decide ((l.length : Int) > 400) = false := decide_eq_false (by omega)
      simp (maxSteps := 10000000) only [En.E, En.evsC, List.map_cons, List.map_nil, Nat.reduceBEq, Nat.reduceAdd, Nat.reduceMul, Nat.reduceEqDiff, Nat.reduceLeDiff, Nat.reduceLT, ne_eq, reduceCtorEq, Int.reduceBEq, Int.reduceBNe, Int.reduceAdd, Int.reduceSub, Int.reduceMul, Int.reduceNeg, Nat.reduceBNe, Int.reduceToNat, Nat.reduceSub, Int.reduceLE, Int.reduceLT, En.vV, hs, hv, hT, hG, hF, d0, d1, gHu, gHp]
      intro bT
      refine hI {i : Nat // i ≤ l.length ∧ ∀ j, j < i → faultV (ndAt l j) = 0} (fun x => ckI l A c bT bn on cn ba oa ca x.1) (fun x => l.length - x.1) _ _ _ ⟨0, Nat.zero_le _, fun j hj => absurd hj (Nat.not_lt_zero j)⟩ (sle_all [1001, 1000, 4, 5, 0, 1, 2, 3] (by decide) (by simp only [En.E, En.evsC, List.map_cons, List.map_nil, Nat.reduceBEq, Nat.reduceAdd, Nat.reduceMul, Nat.reduceEqDiff, Nat.reduceLeDiff, Nat.reduceLT, ne_eq, reduceCtorEq, Int.reduceBEq, Int.reduceBNe, Int.reduceAdd, Int.reduceSub, Int.reduceMul, Int.reduceNeg, Nat.reduceBNe, Int.reduceToNat, Nat.reduceSub, Int.reduceLE, Int.reduceLT, En.slLe, En.hpLe, En.chE, En.allLt, ckI, ckH, gHu, gHp, Int.cast_ofNat_Int])) ?_
      rintro ⟨i, hi, hf⟩
      refine hR 3000 _ _ ?_
      by_cases hlt : i < l.length
      · have d2 : decide ((i : Int) < (l.length : Int)) = true := decide_eq_true (by omega)
        have i1 : inr .i64 ((i : Int) + 1) := by simp only [En.inr, En.lo, En.hi]; omega
        obtain ⟨z1, z2⟩ := hz i hlt
        cases d3 : (faultV (ndAt l i) != 0) with
        | true =>
          simp (maxSteps := 10000000) only [En.E, En.evsC, List.map_cons, List.map_nil, Nat.reduceBEq, Nat.reduceAdd, Nat.reduceMul, Nat.reduceEqDiff, Nat.reduceLeDiff, Nat.reduceLT, ne_eq, reduceCtorEq, Int.reduceBEq, Int.reduceBNe, Int.reduceAdd, Int.reduceSub, Int.reduceMul, Int.reduceNeg, Nat.reduceBNe, Int.reduceToNat, Nat.reduceSub, Int.reduceLE, Int.reduceLT, En.vV, hs, hv, hT, hG, hF, ckI, ckH, gHu, gHp, d2, d3, i1, ndC, nd_eta, spFault_q, globR_q, globU_q, h4, h3, z1, z2, Int.toNat_natCast]
          have hne : faultV (ndAt l i) ≠ 0 := by simpa using d3
          exact ⟨by omega, by omega, fun b => ck_err (chk2 h0 h1 hlt hf hne) hne⟩
        | false =>
          simp (maxSteps := 10000000) only [En.E, En.evsC, List.map_cons, List.map_nil, Nat.reduceBEq, Nat.reduceAdd, Nat.reduceMul, Nat.reduceEqDiff, Nat.reduceLeDiff, Nat.reduceLT, ne_eq, reduceCtorEq, Int.reduceBEq, Int.reduceBNe, Int.reduceAdd, Int.reduceSub, Int.reduceMul, Int.reduceNeg, Nat.reduceBNe, Int.reduceToNat, Nat.reduceSub, Int.reduceLE, Int.reduceLT, En.vV, hs, hv, hT, hG, hF, ckI, ckH, gHu, gHp, d2, d3, i1, ndC, nd_eta, spFault_q, globR_q, globU_q, h4, h3, z1, z2, Int.toNat_natCast]
          have he : faultV (ndAt l i) = 0 := by simpa using d3
          refine ⟨by omega, by omega, fun b => ⟨⟨i + 1, by omega, fun j hj => ?_⟩, (sle_all [1001, 1000, 4, 5, 0, 1, 2, 3] (by decide) (by simp only [En.E, En.evsC, List.map_cons, List.map_nil, Nat.reduceBEq, Nat.reduceAdd, Nat.reduceMul, Nat.reduceEqDiff, Nat.reduceLeDiff, Nat.reduceLT, ne_eq, reduceCtorEq, Int.reduceBEq, Int.reduceBNe, Int.reduceAdd, Int.reduceSub, Int.reduceMul, Int.reduceNeg, Nat.reduceBNe, Int.reduceToNat, Nat.reduceSub, Int.reduceLE, Int.reduceLT, En.slLe, En.hpLe, En.chE, En.allLt, Int.natCast_add, Int.cast_ofNat_Int])), by simp only; omega⟩⟩
          by_cases e : j = i
          · rw [e]; exact he
          · exact hf j (by omega)
      · have d2 : decide ((i : Int) < (l.length : Int)) = false := decide_eq_false (by omega)
        obtain rfl : i = l.length := by omega
        simp (maxSteps := 10000000) only [En.E, En.evsC, List.map_cons, List.map_nil, Nat.reduceBEq, Nat.reduceAdd, Nat.reduceMul, Nat.reduceEqDiff, Nat.reduceLeDiff, Nat.reduceLT, ne_eq, reduceCtorEq, Int.reduceBEq, Int.reduceBNe, Int.reduceAdd, Int.reduceSub, Int.reduceMul, Int.reduceNeg, Nat.reduceBNe, Int.reduceToNat, Nat.reduceSub, Int.reduceLE, Int.reduceLT, En.vV, hs, hv, hT, hG, hF, ckI, ckH, gHu, gHp, d2]
        refine hI {i : Nat // i ≤ l.length ∧ ∀ j, j < i → badL l j = false} (fun x => ckJ l A c bT bn on cn ba oa ca x.1) (fun x => l.length - x.1) _ _ _ ⟨0, Nat.zero_le _, fun j hj => absurd hj (Nat.not_lt_zero j)⟩ (sle_all [1001, 1000, 4, 5, 0, 1, 2, 3] (by decide) (by simp only [En.E, En.evsC, List.map_cons, List.map_nil, Nat.reduceBEq, Nat.reduceAdd, Nat.reduceMul, Nat.reduceEqDiff, Nat.reduceLeDiff, Nat.reduceLT, ne_eq, reduceCtorEq, Int.reduceBEq, Int.reduceBNe, Int.reduceAdd, Int.reduceSub, Int.reduceMul, Int.reduceNeg, Nat.reduceBNe, Int.reduceToNat, Nat.reduceSub, Int.reduceLE, Int.reduceLT, En.slLe, En.hpLe, En.chE, En.allLt, ckJ, ckH, gHu, gHp, Int.cast_ofNat_Int])) ?_
        rintro ⟨i, hi, hb⟩
        refine hR 3000 _ _ ?_
        by_cases hlt : i < l.length
        · have d3 : decide ((i : Int) < (l.length : Int)) = true := decide_eq_true (by omega)
          have i1 : inr .i64 ((i : Int) + 1) := by simp only [En.inr, En.lo, En.hi]; omega
          by_cases hk : (ndAt l i).k = 3
          · have d4 : ((ndAt l i).k == 3) = true := by rw [hk]; rfl
            obtain ⟨c0, c1⟩ := faultV_list (hf i hlt) hk
            have hK : (ndAt l i).c = (Ks l i : Int) := by simp only [Ks, Kn, if_pos hk]; omega
            have i2 : inr .i64 ((i : Int) + (Ks l i : Int)) := by simp only [En.inr, En.lo, En.hi]; omega
            have z1 : ((i : Int) + 1).toNat = i + 1 := by omega
            have z2 : ((i : Int) + 1 + (Ks l i : Int)).toNat = i + 1 + Ks l i := by omega
            have fe : (Value.func (Fn.func 66) #[] #[] = fEl) = True := eq_self fEl
            have i3 : inr .i64 ((i : Int) + 1 + (Ks l i : Int)) := by simp only [En.inr, En.lo, En.hi]; omega
            by_cases hx : l.length ≤ i + Ks l i
            · have d5 : decide ((i : Int) + (Ks l i : Int) ≥ (l.length : Int)) = true := decide_eq_true (by omega)
              have hbad : badL l i = true := by simp [badL, d4, hx]
              simp (maxSteps := 10000000) only [En.E, En.evsC, List.map_cons, List.map_nil, Nat.reduceBEq, Nat.reduceAdd, Nat.reduceMul, Nat.reduceEqDiff, Nat.reduceLeDiff, Nat.reduceLT, ne_eq, reduceCtorEq, Int.reduceBEq, Int.reduceBNe, Int.reduceAdd, Int.reduceSub, Int.reduceMul, Int.reduceNeg, Nat.reduceBNe, Int.reduceToNat, Nat.reduceSub, Int.reduceLE, Int.reduceLT, En.vV, hs, hv, hT, hG, hF, ckJ, ckH, gHu, gHp, d3, d4, d5, i1, i2, i3, ndC, hK, Int.toNat_natCast]
              exact ⟨by omega, by omega, fun b => ck_err (chk3 h0 h1 hlt hf hb hbad) (by decide)⟩
            · have d5 : decide ((i : Int) + (Ks l i : Int) ≥ (l.length : Int)) = false := decide_eq_false (by omega)
              cases d6 : (List.range (Ks l i)).any fun j => (ndAt l (i + 1 + j)).k != 1 with
              | true =>
                have hbad : badL l i = true := by simp only [badL, d4, d6, Bool.or_true, Bool.and_true]
                simp (maxSteps := 10000000) only [En.E, En.evsC, List.map_cons, List.map_nil, Nat.reduceBEq, Nat.reduceAdd, Nat.reduceMul, Nat.reduceEqDiff, Nat.reduceLeDiff, Nat.reduceLT, ne_eq, reduceCtorEq, Int.reduceBEq, Int.reduceBNe, Int.reduceAdd, Int.reduceSub, Int.reduceMul, Int.reduceNeg, Nat.reduceBNe, Int.reduceToNat, Nat.reduceSub, Int.reduceLE, Int.reduceLT, En.vV, hs, hv, hT, hG, hF, ckJ, ckH, gHu, gHp, d3, d4, d5, i1, i2, i3, ndC, hK, spCont_q, z1, z2, Nat.add_sub_cancel_left, rec_nd, ts_nd, fe, d6, Int.toNat_natCast]
                exact ⟨by omega, by omega, fun b => ⟨by omega, by omega, ck_err (chk3 h0 h1 hlt hf hb hbad) (by decide)⟩⟩
              | false =>
                have hok : badL l i = false := by simp only [badL, d4, d6, decide_eq_false hx, Bool.or_self, Bool.and_false]
                simp (maxSteps := 10000000) only [En.E, En.evsC, List.map_cons, List.map_nil, Nat.reduceBEq, Nat.reduceAdd, Nat.reduceMul, Nat.reduceEqDiff, Nat.reduceLeDiff, Nat.reduceLT, ne_eq, reduceCtorEq, Int.reduceBEq, Int.reduceBNe, Int.reduceAdd, Int.reduceSub, Int.reduceMul, Int.reduceNeg, Nat.reduceBNe, Int.reduceToNat, Nat.reduceSub, Int.reduceLE, Int.reduceLT, En.vV, hs, hv, hT, hG, hF, ckJ, ckH, gHu, gHp, d3, d4, d5, i1, i2, i3, ndC, hK, spCont_q, z1, z2, Nat.add_sub_cancel_left, rec_nd, ts_nd, fe, d6, Int.toNat_natCast]
                refine ⟨by omega, by omega, fun b => ⟨by omega, by omega, ⟨i + 1, by omega, fun j hj => ?_⟩, (sle_all [1001, 1000, 4, 5, 0, 1, 2, 3] (by decide) (by simp only [En.E, En.evsC, List.map_cons, List.map_nil, Nat.reduceBEq, Nat.reduceAdd, Nat.reduceMul, Nat.reduceEqDiff, Nat.reduceLeDiff, Nat.reduceLT, ne_eq, reduceCtorEq, Int.reduceBEq, Int.reduceBNe, Int.reduceAdd, Int.reduceSub, Int.reduceMul, Int.reduceNeg, Nat.reduceBNe, Int.reduceToNat, Nat.reduceSub, Int.reduceLE, Int.reduceLT, En.slLe, En.hpLe, En.chE, En.allLt, Int.natCast_add, Int.cast_ofNat_Int])), by simp only; omega⟩⟩
                by_cases e : j = i
                · rw [e]; exact hok
                · exact hb j (by omega)
          · have d4 : ((ndAt l i).k == 3) = false := by rw [beq_eq_false_iff_ne]; exact hk
            have hok : badL l i = false := by simp [badL, d4]
            simp (maxSteps := 10000000) only [En.E, En.evsC, List.map_cons, List.map_nil, Nat.reduceBEq, Nat.reduceAdd, Nat.reduceMul, Nat.reduceEqDiff, Nat.reduceLeDiff, Nat.reduceLT, ne_eq, reduceCtorEq, Int.reduceBEq, Int.reduceBNe, Int.reduceAdd, Int.reduceSub, Int.reduceMul, Int.reduceNeg, Nat.reduceBNe, Int.reduceToNat, Nat.reduceSub, Int.reduceLE, Int.reduceLT, En.vV, hs, hv, hT, hG, hF, ckJ, ckH, gHu, gHp, d3, d4, i1, ndC, Int.toNat_natCast]
            refine ⟨by omega, by omega, fun b => ⟨⟨i + 1, by omega, fun j hj => ?_⟩, (sle_all [1001, 1000, 4, 5, 0, 1, 2, 3] (by decide) (by simp only [En.E, En.evsC, List.map_cons, List.map_nil, Nat.reduceBEq, Nat.reduceAdd, Nat.reduceMul, Nat.reduceEqDiff, Nat.reduceLeDiff, Nat.reduceLT, ne_eq, reduceCtorEq, Int.reduceBEq, Int.reduceBNe, Int.reduceAdd, Int.reduceSub, Int.reduceMul, Int.reduceNeg, Nat.reduceBNe, Int.reduceToNat, Nat.reduceSub, Int.reduceLE, Int.reduceLT, En.slLe, En.hpLe, En.chE, En.allLt, Int.natCast_add, Int.cast_ofNat_Int])), by simp only; omega⟩⟩
            by_cases e : j = i
            · rw [e]; exact hok
            · exact hb j (by omega)
        · have d3 : decide ((i : Int) < (l.length : Int)) = false := decide_eq_false (by omega)
          obtain rfl : i = l.length := by omega
          have hgood := good_of (by omega) hf hb
          simp (maxSteps := 10000000) only [En.E, En.evsC, List.map_cons, List.map_nil, Nat.reduceBEq, Nat.reduceAdd, Nat.reduceMul, Nat.reduceEqDiff, Nat.reduceLeDiff, Nat.reduceLT, ne_eq, reduceCtorEq, Int.reduceBEq, Int.reduceBNe, Int.reduceAdd, Int.reduceSub, Int.reduceMul, Int.reduceNeg, Nat.reduceBNe, Int.reduceToNat, Nat.reduceSub, Int.reduceLE, Int.reduceLT, En.vV, hs, hv, hT, hG, hF, ckJ, ckH, gHu, gHp, d3, spGrow_q, NdR_q, chL_q, hgood, grV, grUps]
          intro M
          have hV := chk4 h0 h1 hf hb
          obtain ⟨S, hS⟩ : ∃ S, S = scan l.length (Ms l) (Ks l) 1 0 := ⟨_, rfl⟩
          refine hI {x : Nat × Nat // x.2 ≤ l.length ∧ x.1 ≤ x.2 + 1 ∧ scan l.length (Ms l) (Ks l) x.1 x.2 = S} (fun x => ckS l A c bT M x.1.1 x.1.2) (fun x => l.length - x.1.2) _ _ _ ⟨(1, 0), by simp, by simp, hS.symm⟩ (sle_all [20000, 20001, 20002, 20003, 20004, 1001, 1000] (by decide) (by simp only [En.E, En.evsC, List.map_cons, List.map_nil, Nat.reduceBEq, Nat.reduceAdd, Nat.reduceMul, Nat.reduceEqDiff, Nat.reduceLeDiff, Nat.reduceLT, ne_eq, reduceCtorEq, Int.reduceBEq, Int.reduceBNe, Int.reduceAdd, Int.reduceSub, Int.reduceMul, Int.reduceNeg, Nat.reduceBNe, Int.reduceToNat, Nat.reduceSub, Int.reduceLE, Int.reduceLT, En.slLe, En.hpLe, En.chE, En.allLt, ckS, Int.cast_ofNat_Int])) ?_
          rintro ⟨⟨o, a⟩, ha, ho, hs1⟩
          simp only at ha ho hs1
          refine hR 3000 _ _ ?_
          by_cases hopen : 0 < o
          · have d4 : decide ((o : Int) > 0) = true := decide_eq_true (by omega)
            by_cases hal : a < l.length
            · have d5 : decide ((a : Int) < (l.length : Int)) = true := decide_eq_true (by omega)
              obtain ⟨o, rfl⟩ : ∃ p, o = p + 1 := ⟨o - 1, by omega⟩
              rw [scan_lt hal] at hs1
              have e0 : ((o + 1 : Nat) : Int) - 1 = o := by omega
              have i0 : inr .i64 (o : Int) := by simp only [En.inr, En.lo, En.hi]; omega
              have i1 : inr .i64 ((a : Int) + 1) := by simp only [En.inr, En.lo, En.hi]; omega
              have hA : ¬A = none := slok_some h.1 h0
              have g1 : (0 : Int) ≤ a ∧ (a : Int) < l.length := by omega
              have g2 : (0 : Int) ≤ a ∧ a < l.length := by omega
              have hK1 := hgood.fine a hal
              by_cases hop : opN (ndAt l a) = true
              · have hop' := hop
                simp only [opN] at hop'
                have hk : ((ndAt l a).k == 3) = false := by
                  rw [beq_eq_false_iff_ne]; intro e; rw [e] at hop'; cases hop'
                have hKz : Ks l a = 0 := if_neg (by simpa using hk)
                have hM : Ms l a = (ndAt l a).c.toNat := if_pos hop
                have hc := hgood.op a hal hop
                have hc' : (ndAt l a).c = (Ms l a : Int) := by omega
                have i2 : inr .i64 ((o : Int) + (Ms l a : Int)) := by simp only [En.inr, En.lo, En.hi]; omega
                simp (maxSteps := 10000000) only [En.E, En.evsC, List.map_cons, List.map_nil, Nat.reduceBEq, Nat.reduceAdd, Nat.reduceMul, Nat.reduceEqDiff, Nat.reduceLeDiff, Nat.reduceLT, ne_eq, reduceCtorEq, Int.reduceBEq, Int.reduceBNe, Int.reduceAdd, Int.reduceSub, Int.reduceMul, Int.reduceNeg, Nat.reduceBNe, Int.reduceToNat, Nat.reduceSub, Int.reduceLE, Int.reduceLT, En.vV, hs, hv, hT, hG, hF, ckS, d4, d5, e0, i0, i1, i2, hA, g1, g2, spRest_q, ndC, opN, hop', hk, hc', cond_false, cond_true, Int.toNat_natCast]
                rw [hKz] at hs1
                exact fun b => ⟨⟨(o + Ms l a, a + 1), by simp only; omega, by simp only; omega, hs1⟩, (sle_all [20000, 20001, 20002, 20003, 20004, 1001, 1000] (by decide) (by simp only [En.E, En.evsC, List.map_cons, List.map_nil, Nat.reduceBEq, Nat.reduceAdd, Nat.reduceMul, Nat.reduceEqDiff, Nat.reduceLeDiff, Nat.reduceLT, ne_eq, reduceCtorEq, Int.reduceBEq, Int.reduceBNe, Int.reduceAdd, Int.reduceSub, Int.reduceMul, Int.reduceNeg, Nat.reduceBNe, Int.reduceToNat, Nat.reduceSub, Int.reduceLE, Int.reduceLT, En.slLe, En.hpLe, En.chE, En.allLt, Int.natCast_add, Int.cast_ofNat_Int])), by simp only; omega⟩
              · have hop' : opN (ndAt l a) = false := by simpa using hop
                have hM : Ms l a = 0 := by simp only [Ms, Mn, hop']; rfl
                simp only [opN] at hop'
                cases hk : ((ndAt l a).k == 3) with
                | true =>
                  have hk3 : (ndAt l a).k = 3 := by simpa using hk
                  have hc := (hgood.ls a hal hk3).1
                  have hc' : (ndAt l a).c = (Ks l a : Int) := by simp only [Ks, Kn, if_pos hk3]; omega
                  have i2 : inr .i64 ((a : Int) + (Ks l a : Int)) := by simp only [En.inr, En.lo, En.hi]; omega
                  have i3 : inr .i64 ((a : Int) + (Ks l a : Int) + 1) := by simp only [En.inr, En.lo, En.hi]; omega
                  simp (maxSteps := 10000000) only [En.E, En.evsC, List.map_cons, List.map_nil, Nat.reduceBEq, Nat.reduceAdd, Nat.reduceMul, Nat.reduceEqDiff, Nat.reduceLeDiff, Nat.reduceLT, ne_eq, reduceCtorEq, Int.reduceBEq, Int.reduceBNe, Int.reduceAdd, Int.reduceSub, Int.reduceMul, Int.reduceNeg, Nat.reduceBNe, Int.reduceToNat, Nat.reduceSub, Int.reduceLE, Int.reduceLT, En.vV, hs, hv, hT, hG, hF, ckS, d4, d5, e0, i0, i1, i2, i3, hA, g1, g2, spRest_q, ndC, opN, hop', hk, hc', cond_false, cond_true, Int.toNat_natCast]
                  rw [hM, show a + 1 + Ks l a = a + Ks l a + 1 by omega] at hs1
                  exact fun b => ⟨⟨(o, a + Ks l a + 1), by simp only; omega, by simp only; omega, hs1⟩, (sle_all [20000, 20001, 20002, 20003, 20004, 1001, 1000] (by decide) (by simp only [En.E, En.evsC, List.map_cons, List.map_nil, Nat.reduceBEq, Nat.reduceAdd, Nat.reduceMul, Nat.reduceEqDiff, Nat.reduceLeDiff, Nat.reduceLT, ne_eq, reduceCtorEq, Int.reduceBEq, Int.reduceBNe, Int.reduceAdd, Int.reduceSub, Int.reduceMul, Int.reduceNeg, Nat.reduceBNe, Int.reduceToNat, Nat.reduceSub, Int.reduceLE, Int.reduceLT, En.slLe, En.hpLe, En.chE, En.allLt, Int.natCast_add, Int.cast_ofNat_Int])), by simp only; omega⟩
                | false =>
                  have hKz : Ks l a = 0 := if_neg (by simpa using hk)
                  simp (maxSteps := 10000000) only [En.E, En.evsC, List.map_cons, List.map_nil, Nat.reduceBEq, Nat.reduceAdd, Nat.reduceMul, Nat.reduceEqDiff, Nat.reduceLeDiff, Nat.reduceLT, ne_eq, reduceCtorEq, Int.reduceBEq, Int.reduceBNe, Int.reduceAdd, Int.reduceSub, Int.reduceMul, Int.reduceNeg, Nat.reduceBNe, Int.reduceToNat, Nat.reduceSub, Int.reduceLE, Int.reduceLT, En.vV, hs, hv, hT, hG, hF, ckS, d4, d5, e0, i0, i1, hA, g1, g2, spRest_q, ndC, opN, hop', hk, cond_false, cond_true, Int.toNat_natCast]
                  rw [hM, hKz] at hs1
                  exact fun b => ⟨⟨(o, a + 1), by simp only; omega, by simp only; omega, hs1⟩, (sle_all [20000, 20001, 20002, 20003, 20004, 1001, 1000] (by decide) (by simp only [En.E, En.evsC, List.map_cons, List.map_nil, Nat.reduceBEq, Nat.reduceAdd, Nat.reduceMul, Nat.reduceEqDiff, Nat.reduceLeDiff, Nat.reduceLT, ne_eq, reduceCtorEq, Int.reduceBEq, Int.reduceBNe, Int.reduceAdd, Int.reduceSub, Int.reduceMul, Int.reduceNeg, Nat.reduceBNe, Int.reduceToNat, Nat.reduceSub, Int.reduceLE, Int.reduceLT, En.slLe, En.hpLe, En.chE, En.allLt, Int.natCast_add, Int.cast_ofNat_Int])), by simp only; omega⟩
            · have d5 : decide ((a : Int) < (l.length : Int)) = false := decide_eq_false (by omega)
              obtain ⟨o, rfl⟩ : ∃ p, o = p + 1 := ⟨o - 1, by omega⟩
              rw [scan_out (by omega)] at hs1
              simp (maxSteps := 10000000) only [En.E, En.evsC, List.map_cons, List.map_nil, Nat.reduceBEq, Nat.reduceAdd, Nat.reduceMul, Nat.reduceEqDiff, Nat.reduceLeDiff, Nat.reduceLT, ne_eq, reduceCtorEq, Int.reduceBEq, Int.reduceBNe, Int.reduceAdd, Int.reduceSub, Int.reduceMul, Int.reduceNeg, Nat.reduceBNe, Int.reduceToNat, Nat.reduceSub, Int.reduceLE, Int.reduceLT, En.vV, hs, hv, hT, hG, hF, ckS, d4, d5]
              exact ck_err (hV.trans (lst1 (hS.symm.trans hs1.symm) (Nat.succ_pos o))) (by decide)
          · obtain rfl : o = 0 := by omega
            rw [scan_zero] at hs1
            have d4 : decide (((0 : Nat) : Int) > 0) = false := rfl
            by_cases hal : a < l.length
            · have d5 : decide ((a : Int) < (l.length : Int)) = true := decide_eq_true (by omega)
              simp (maxSteps := 10000000) only [En.E, En.evsC, List.map_cons, List.map_nil, Nat.reduceBEq, Nat.reduceAdd, Nat.reduceMul, Nat.reduceEqDiff, Nat.reduceLeDiff, Nat.reduceLT, ne_eq, reduceCtorEq, Int.reduceBEq, Int.reduceBNe, Int.reduceAdd, Int.reduceSub, Int.reduceMul, Int.reduceNeg, Nat.reduceBNe, Int.reduceToNat, Nat.reduceSub, Int.reduceLE, Int.reduceLT, En.vV, hs, hv, hT, hG, hF, ckS, d4, d5]
              exact ck_err (hV.trans (lst2 (hS.symm.trans hs1.symm) hal)) (by decide)
            · have d5 : decide ((a : Int) < (l.length : Int)) = false := decide_eq_false (by omega)
              by_cases hd : 24 < Dep l.length (Ms l) (Ks l) 0
              · have d6 : decide ((Dep l.length (Ms l) (Ks l) 0 : Int) > 24) = true := decide_eq_true (by omega)
                simp (maxSteps := 10000000) only [En.E, En.evsC, List.map_cons, List.map_nil, Nat.reduceBEq, Nat.reduceAdd, Nat.reduceMul, Nat.reduceEqDiff, Nat.reduceLeDiff, Nat.reduceLT, ne_eq, reduceCtorEq, Int.reduceBEq, Int.reduceBNe, Int.reduceAdd, Int.reduceSub, Int.reduceMul, Int.reduceNeg, Nat.reduceBNe, Int.reduceToNat, Nat.reduceSub, Int.reduceLE, Int.reduceLT, En.vV, hs, hv, hT, hG, hF, ckS, d4, d5, d6, dV_in (Nat.le_refl 0)]
                repeat' refine And.intro (by omega) ?_
                exact ck_err (hV.trans (lst3 (hS.symm.trans hs1.symm) hal hd)) (by decide)
              · have d6 : decide ((Dep l.length (Ms l) (Ks l) 0 : Int) > 24) = false := decide_eq_false (by omega)
                simp (maxSteps := 10000000) only [En.E, En.evsC, List.map_cons, List.map_nil, Nat.reduceBEq, Nat.reduceAdd, Nat.reduceMul, Nat.reduceEqDiff, Nat.reduceLeDiff, Nat.reduceLT, ne_eq, reduceCtorEq, Int.reduceBEq, Int.reduceBNe, Int.reduceAdd, Int.reduceSub, Int.reduceMul, Int.reduceNeg, Nat.reduceBNe, Int.reduceToNat, Nat.reduceSub, Int.reduceLE, Int.reduceLT, En.vV, hs, hv, hT, hG, hF, ckS, d4, d5, d6, dV_in (Nat.le_refl 0)]
                repeat' refine And.intro (by omega) ?_
                refine .inr ⟨hV.trans (lst4 (hS.symm.trans hs1.symm) hal hd), 20000, M, rfl, ?_⟩
                intro j hj
                have hj' : j = 0 ∨ j = 1 ∨ j = 2 ∨ j = 3 ∨ j = 4 := by omega
                rcases hj' with rfl | rfl | rfl | rfl | rfl <;> rfl
end Pr
end Go.Proofs.YtpkldfkmokeamaaGreatDoor
/-
expr.checked's contract; expr.Check (chapter 15).
-/
set_option linter.unusedSimpArgs false
set_option linter.unusedVariables false
namespace Go.Proofs.YtpkldfkmokeamaaGreatDoor
namespace Pr
open Go Go.RowKit En
open Ex
def zsN (l : List Nd) : Prop := ∀ i, i < l.length → (ndAt l i).nm.size ≤ 2305843009213693952 ∧ (ndAt l i).tx.size ≤ 2305843009213693952
def ckR (A : Option Addr) (n c k : Nat) (H : Nat → Ch) : Prop := NdR A n c (H k) ∧ n ≤ 100000 ∧ zsN (chL n (H k)) ∧ globR (H 0) (H 1) (H 2) (H 3) ∧ globU (H 4) (H 5)
theorem globU_eq {x y : Ch} (h : globU x y) : x = .cst 2 0 tabF ∧ y = .cst 3 0 tabA := by
  unfold globU at h
  split at h
  · obtain ⟨rfl, rfl, rfl, rfl⟩ := h; exact ⟨rfl, rfl⟩
  · exact h.elim
theorem NdR_foot {A : Option Addr} {n c : Nat} {x : Ch} (h : NdR A n c x) {g : Nat → List SV} : (∀ b, foot (.recs A c 7 n g) b → foot x b) ∧ mutb x = false := by
  unfold NdR at h
  split at h
  · obtain ⟨rfl, rfl, rfl, _⟩ := h; exact ⟨fun b h => h, rfl⟩
  · exact h.elim
def spChk : Spc
  | [.g k A n c], H, nx => .many (ckR A n c k H) fun M => (.tup [grV (okL (chL n (H k))) nx M, .v (.int .i64 (chkV (chL n (H k))).1), .v (.int .i64 (chkV (chL n (H k))).2)], grUps (okL (chL n (H k))) nx M)
  | _, _, _ => .bad
theorem spChk_q {k n c : Nat} {A : Option Addr} {H : Nat → Ch} {nx : Nat} : spChk [.g k A n c] H nx = .many (ckR A n c k H) fun M => (.tup [grV (okL (chL n (H k))) nx M, .v (.int .i64 (chkV (chL n (H k))).1), .v (.int .i64 (chkV (chL n (H k))).2)], grUps (okL (chL n (H k))) nx M) := rfl
theorem spChk_ok : SpecOk Tryz.prog 39 spChk := by
  intro args hp nx w0 O w H hv
  unfold spChk at hv ⊢
  split at hv
  · next k A n c =>
    obtain ⟨h1, hn, hz, hG, hU⟩ := hv
    obtain ⟨hl, hh⟩ := NdR_hold h1 (H.hold k)
    obtain ⟨bn, on, cn, ba, oa, ca, hr, h4, h3, hk⟩ := globR_ok H hG
    obtain ⟨u1, u2⟩ := globU_ok H hU
    generalize chL n (lookH hp k) = l at hl hh hz ⊢
    subst hl
    refine (checked_any l hn hz A c bn on cn ba oa ca h4 h3 w (hh _) ⟨⟨u1, rfl⟩, ⟨u2, rfl⟩, hr⟩).mono ?_
    rintro e w' ⟨M, rfl, hb, hH, hF⟩
    refine ⟨⟨0, none, 0, none, 0, M⟩, rfl, Stp.rd (w' := w') hb ⟨⟨hH 0 (by decide), rfl⟩, ⟨hH 1 (by decide), rfl⟩, ⟨hH 2 (by decide), rfl⟩, ⟨hH 3 (by decide), rfl⟩, ⟨fun i hi => ⟨(hH 4 (by decide) i hi).1, fun h => by cases h⟩, rfl⟩, trivial⟩ fun k' b hf => ?_⟩
    obtain ⟨q4, q5⟩ := globU_eq hU
    obtain ⟨nf, nm⟩ := NdR_foot h1
    have fin : ∀ j, j < 5 → ∀ b, foot (grAt (okL l) M j) b → w.heap.size ≤ b ∨ ∃ j, foot (lookH hp j) b ∧ mutb (lookH hp j) = false := by
      intro j hj b hb
      refine (hF j hj b hb).imp id ?_
      rintro ⟨k2, h2⟩
      have e : ∀ k, k < 4 → ∀ c, lookH (gHp bn on cn ba oa ca) k = c → mutb c = false → ∀ b, foot c b → ∃ j, foot (lookH hp j) b ∧ mutb (lookH hp j) = false := fun k hk4 c hc hm b hf => ⟨k, by rw [hk k hk4, hc]; exact hf, by rw [hk k hk4, hc]; exact hm⟩
      refine foot_look (l := (1000, .recs A c 7 l.length (fun i => ndC (ndAt l i))) :: gHu bn on cn ba oa ca) (Q := fun b => ∃ j, foot (lookH hp j) b ∧ mutb (lookH hp j) = false) ⟨fun b h => ⟨k, nf b h, nm⟩, fun b h => ⟨4, by rw [q4]; exact h, by rw [q4]; rfl⟩, fun b h => ⟨5, by rw [q5]; exact h, by rw [q5]; rfl⟩,
        e 0 (by decide) _ rfl rfl, e 1 (by decide) _ rfl rfl, e 2 (by decide) _ rfl rfl, e 3 (by decide) _ rfl rfl, trivial⟩ h2
    exact foot_look (Q := fun b => w.heap.size ≤ b ∨ ∃ j, foot (lookH hp j) b ∧ mutb (lookH hp j) = false) (allFt5 (fin 0 (by decide)) (fin 1 (by decide)) (fin 2 (by decide)) (fin 3 (by decide)) (fin 4 (by decide))) hf
  · exact hv.elim
def glEc : List (FuncId × Spc) := [(39, spChk)]
theorem glEc_ok : GOk Tryz.prog (lookG glEc) := lG_cons (by kernel_rfl) spChk_ok lG_nil
theorem exCheck_any (l : List Nd) (hlen : l.length ≤ 100000) (hz : zsN l) (A : Option Addr) (c : Nat) (bn on cn ba oa ca : Nat) (h4 : 4 ≤ cn) (h3 : 3 ≤ ca) (w : World)
    (h : Hold w.heap.size w (.recs A c 7 l.length (fun i => ndC (ndAt l i)))) (hg : allRd w.heap.size w (gHu bn on cn ba oa ca)) :
    Calls Tryz.prog 13 #[.slice A l.length c] w fun e w' => e = .returned (.tuple #[.int .i64 (chkV l).1, .int .i64 (chkV l).2]) ∧ Below w.heap.size w w' := by
  obtain ⟨q, hq⟩ : ∃ q, q = chkV l := ⟨_, rfl⟩
  rw [← hq]
  refine calls_go (args := [.g 1000 A l.length c]) (hp := (1000, .recs A c 7 l.length (fun i => ndC (ndAt l i))) :: gHu bn on cn ba oa ca) (nx := 1001) (n := 400) (U := []) (V := []) (tl := tlCk) (gl := glEc) (post := fun s ys => ys = [.v (.int .i64 q.1), .v (.int .i64 q.2)])
    followP tlCk_ok glEc_ok Tryz.func13 rfl (by kernel_rfl) (Nat.le_of_ble_eq_true (by kernel_rfl)) (by kernel_rfl) (by kernel_rfl) (hh_list ⟨⟨h, rfl⟩, hg⟩) (free_list (by simp [allLt, gHu, gHp])) ?_ ?_
  · rintro s ys w' rfl H
    exact ⟨rfl, H.below⟩
  intro L F T G nd va hE
  obtain ⟨hL, hF, hs, hv, hT, hG, hR, hI, hJ, hW⟩ := hE
  rw [Tryz.results13] at hF
  simp (maxSteps := 1000000) only [En.nN, En.E, En.evsC, List.map_cons, List.map_nil, Nat.reduceBEq, Nat.reduceAdd, Nat.reduceMul, Nat.reduceEqDiff, Nat.reduceLeDiff, Nat.reduceLT, ne_eq, reduceCtorEq, Int.reduceBEq, Int.reduceBNe, Int.reduceAdd, Int.reduceSub, Int.reduceMul, Int.reduceNeg, Nat.reduceBNe, Int.reduceToNat, Nat.reduceSub, Int.reduceLE, Int.reduceLT] at hv
  simp only [En.at_nil, En.at_cons, En.ag_nil, En.ag_cons, and_true, tlCk, glEc, tyInt, tyI64, tyBool, tyStr, tyErr, tyNode, tyNodes, tyInts, tyRows, tyBools, tyTree] at hT hG
  simp (maxSteps := 10000000) only [En.E, En.evsC, List.map_cons, List.map_nil, Nat.reduceBEq, Nat.reduceAdd, Nat.reduceMul, Nat.reduceEqDiff, Nat.reduceLeDiff, Nat.reduceLT, ne_eq, reduceCtorEq, Int.reduceBEq, Int.reduceBNe, Int.reduceAdd, Int.reduceSub, Int.reduceMul, Int.reduceNeg, Nat.reduceBNe, Int.reduceToNat, Nat.reduceSub, Int.reduceLE, Int.reduceLT, En.vV, hs, hv, hT, hG, hF, gHu, gHp, spChk_q, ckR, NdR_q, chL_q, globR_q, globU_q, hlen, hz, h4, h3, ← hq, grV, grUps]
def spExC : Spc
  | [.g k A n c], H, _ => .is (ckR A n c k H) (.tup [.v (.int .i64 (chkV (chL n (H k))).1), .v (.int .i64 (chkV (chL n (H k))).2)])
  | _, _, _ => .bad
theorem spExC_q {k n c : Nat} {A : Option Addr} {H : Nat → Ch} {nx : Nat} : spExC [.g k A n c] H nx = .is (ckR A n c k H) (.tup [.v (.int .i64 (chkV (chL n (H k))).1), .v (.int .i64 (chkV (chL n (H k))).2)]) := rfl
theorem spExC_ok : SpecOk Tryz.prog 13 spExC := by
  intro args hp nx w0 O w H hv
  unfold spExC at hv ⊢
  split at hv
  · next k A n c =>
    obtain ⟨h1, hn, hz, hG, hU⟩ := hv
    obtain ⟨hl, hh⟩ := NdR_hold h1 (H.hold k)
    obtain ⟨bn, on, cn, ba, oa, ca, hr, h4, h3, hk⟩ := globR_ok H hG
    obtain ⟨u1, u2⟩ := globU_ok H hU
    generalize chL n (lookH hp k) = l at hl hh hz ⊢
    subst hl
    refine (exCheck_any l hn hz A c bn on cn ba oa ca h4 h3 w (hh _) ⟨⟨u1, rfl⟩, ⟨u2, rfl⟩, hr⟩).mono ?_
    rintro e w' ⟨rfl, hb⟩
    exact ⟨⟨0, none, 0, none, 0, mz⟩, rfl, .still hb⟩
  · exact hv.elim
theorem chk_ok {l : List Nd} (h : (chkV l).2 = 0) : ¬ l.length = 0 ∧ l.length ≤ 400 ∧ Good l ∧ chkV l = lastV l := by
  by_cases h0 : l.length = 0
  · rw [chk0 h0] at h; cases h
  by_cases h1 : 400 < l.length
  · rw [chk1 h0 h1] at h; cases h
  have hf : ∀ i, i < l.length → faultV (ndAt l i) = 0 := by
    by_cases hx : 0 ≤ faultF l
    · exfalso
      have hany : ((List.range l.length).any fun i => faultV (ndAt l i) != 0) = true := by rw [← idxV_any]; exact decide_eq_true hx
      rw [chkV, if_neg h0, if_neg h1, if_pos hx] at h
      have hq : faultF l = ((List.range l.length).find? fun i => faultV (ndAt l i) != 0).elim (-1) fun i => (i : Int) := rfl
      cases e : (List.range l.length).find? fun i => faultV (ndAt l i) != 0 with
      | none => rw [e] at hq; rw [hq] at hx; exact absurd hx (by decide)
      | some i =>
        rw [e] at hq
        have hp := (List.find?_range_eq_some.1 e).1
        rw [hq] at h
        simp only [Option.elim, Int.toNat_natCast] at h
        rw [h] at hp; cases hp
    · intro i hi
      simpa using idxV_neg hx i hi
  have hb : ∀ i, i < l.length → badL l i = false := by
    by_cases hx : 0 ≤ listV l
    · have e : faultF l = -1 := idxV_no fun j hj => by rw [hf j hj]; rfl
      rw [chkV, if_neg h0, if_neg h1, if_neg (by rw [e]; decide), if_pos hx] at h
      cases h
    · exact idxV_neg hx
  exact ⟨h0, by omega, good_of (by omega) hf hb, chk4 h0 h1 hf hb⟩
end Pr
end Go.Proofs.YtpkldfkmokeamaaGreatDoor
/-
What a check without an error says of the nodes, plainly.
-/
set_option linter.unusedSimpArgs false
set_option linter.unusedVariables false
namespace Go.Proofs.YtpkldfkmokeamaaGreatDoor
namespace Pr
open Go Go.RowKit En
open Ex
theorem chk_bad {l : List Nd} (h : (chkV l).2 = 0) : ∀ i, i < l.length → badL l i = false := by
  obtain ⟨h0, h1, hg, h4⟩ := chk_ok h
  by_cases hf : 0 ≤ faultF l
  · exfalso
    have hany : ((List.range l.length).any fun i => faultV (ndAt l i) != 0) = true := by rw [← idxV_any]; exact decide_eq_true hf
    rw [chkV, if_neg h0, if_neg (by omega), if_pos hf] at h
    have hq : faultF l = ((List.range l.length).find? fun i => faultV (ndAt l i) != 0).elim (-1) fun i => (i : Int) := rfl
    cases e : (List.range l.length).find? fun i => faultV (ndAt l i) != 0 with
    | none => rw [e] at hq; rw [hq] at hf; exact absurd hf (by decide)
    | some i =>
      rw [e] at hq
      have hp := (List.find?_range_eq_some.1 e).1
      rw [hq] at h
      simp only [Option.elim, Int.toNat_natCast] at h
      rw [h] at hp; cases hp
  · by_cases hx : 0 ≤ listV l
    · rw [chkV, if_neg h0, if_neg (by omega), if_neg hf, if_pos hx] at h; cases h
    · exact idxV_neg hx
theorem bad_num {l : List Nd} {i : Nat} (h : badL l i = false) (h3 : (ndAt l i).k = 3) : ∀ j, j < Ks l i → (ndAt l (i + 1 + j)).k = 1 := by
  intro j hj
  have hk : ((ndAt l i).k == 3) = true := by rw [h3]; rfl
  rw [badL, hk, Bool.true_and, Bool.or_eq_false_iff] at h
  have := List.any_eq_false.1 h.2 j (List.mem_range.2 hj)
  simpa using this
theorem plain_of {l : List Nd} (hg : Good l) (hb : ∀ i, i < l.length → badL l i = false) : Plain l.length (Ms l) (Ks l) := by
  intro j hj hk
  have h3 : (ndAt l j).k = 3 := by
    by_cases e : (ndAt l j).k = 3
    · exact e
    · have : Ks l j = 0 := if_neg e
      omega
  refine ⟨by simp [Ms, Mn, opN, h3], fun q h1 h2 => ?_⟩
  have := bad_num (hb j hj) h3 (q - (j + 1)) (by omega)
  rw [show j + 1 + (q - (j + 1)) = q by omega] at this
  exact ⟨by simp [Ms, Mn, opN, this], by simp [Ks, Kn, this]⟩
end Pr
end Go.Proofs.YtpkldfkmokeamaaGreatDoor
/-
Nodes in blocks and rows of one's own; functions that make some.
-/
set_option linter.unusedSimpArgs false
set_option linter.unusedVariables false
namespace Go.Proofs.YtpkldfkmokeamaaGreatDoor
namespace Pr
open Go Go.RowKit En
open Ex
theorem flatN_at : ∀ (ns : List Nd) (i j : Nat), i < ns.length → j < 7 → (ns.flatMap ndC)[i * 7 + j]? = (ndC (ndAt ns i))[j]?
  | [], i, j, h, _ => absurd h (Nat.not_lt_zero i)
  | d :: ns, 0, j, _, hj => by
    rw [List.flatMap_cons, Nat.zero_mul, Nat.zero_add, List.getElem?_append_left (show j < (ndC d).length from hj)]; rfl
  | d :: ns, i + 1, j, h, hj => by
    rw [List.flatMap_cons, List.getElem?_append_right (by show 7 ≤ _; omega), show (i + 1) * 7 + j - (ndC d).length = i * 7 + j by show (i + 1) * 7 + j - 7 = _; omega]
    exact flatN_at ns i j (by simpa using h) hj
theorem flat_den {ns : List Nd} {i j : Nat} (hi : i < ns.length) (hj : j < 7) : (dens (ns.flatMap ndC))[i * 7 + j]? = some ((dens (ndC (ndAt ns i))).getD j undef) := by
  rw [dens_eq, dens_eq, List.getElem?_map, flatN_at ns i j hi hj, List.getD_eq_getElem?_getD, List.getElem?_map]
  have : j < (ndC (ndAt ns i)).length := hj
  rw [List.getElem?_eq_getElem this]; rfl
theorem blk_nodes {B B' : Nat} {w : World} {b : Nat} {ns : List Nd} {cs : List SV} {t : TypeId} (h : Hold B w (.blk b cs t)) (hc : cs = ns.flatMap ndC) : Hold B' w (.recs (some ⟨b, 0, none⟩) ns.length 7 ns.length fun i => ndC (ndAt ns i)) := by
  subst hc
  obtain ⟨h1, h2⟩ := h
  refine ⟨⟨Nat.le_refl _, fun _ => ⟨b, 0, rfl, (Array.getElem?_eq_some_iff.1 h2).1, fun i hi j hj => ?_⟩⟩, fun i hi => rfl⟩
  have := flat_den hi hj
  simp [World.cell?, h2, this]
theorem row_nodes {B B' : Nat} {w : World} {A : Option Addr} {c : Nat} {e : TypeId} {ns : List Nd} {n : Nat} {cs : List SV} (h : Hold B w (.rowV A c e 7 n cs)) (hc : cs = ns.flatMap ndC) (hn : n = ns.length) : Hold B' w (.recs A c 7 n fun i => ndC (ndAt ns i)) := by
  subst hc hn
  refine ⟨(row_sl h).congr fun i hi j hj => ?_, fun i hi => rfl⟩
  rw [List.getD_eq_getElem?_getD, flat_den hi hj]; rfl
def spNodes (ns : List Nd) : Spc
  | [], _, nx => .val True fun A c => (.g nx A ns.length c, [(nx, .recs A c 7 ns.length fun i => ndC (ndAt ns i))])
  | _, _, _ => .bad
theorem spNodes_q {ns : List Nd} {H : Nat → Ch} {nx : Nat} : spNodes ns [] H nx = .val True fun A c => (.g nx A ns.length c, [(nx, .recs A c 7 ns.length fun i => ndC (ndAt ns i))]) := rfl
def MakesN (f : FuncId) (ns : List Nd) : Prop := ∀ w : World, Calls Tryz.prog f #[] w fun e w' => ∃ A c, e = .returned (.slice A ns.length c) ∧ Below w.heap.size w w' ∧ Hold w.heap.size w' (.recs A c 7 ns.length fun i => ndC (ndAt ns i)) ∧ ∀ a, A = some a → w.heap.size ≤ a.block
theorem spNodes_ok {f : FuncId} {ns : List Nd} (h : MakesN f ns) : SpecOk Tryz.prog f (spNodes ns) := by
  intro args hp nx w0 O w H hv
  unfold spNodes at hv ⊢
  split at hv
  · refine (h w).mono ?_
    rintro e w' ⟨A, c, rfl, hb, hh, hf⟩
    refine ⟨⟨0, A, c, none, 0, mz⟩, rfl, Stp.rd hb ⟨⟨hh, rfl⟩, trivial⟩ fun k b' hx => .inl ?_⟩
    refine foot_look (Q := fun b => w.heap.size ≤ b) (l := [(_, _)]) ⟨?_, trivial⟩ hx
    rintro _ ⟨_, a, h, rfl⟩; exact hf a h
  · exact hv.elim
theorem NdR_s {l : List Nd} {p m y : Nat} {X : Option Addr} : NdR X m y (.recs X y 7 m fun i => ndC (ndAt l (p + i))) = True := by
  refine eq_true ⟨rfl, rfl, rfl, fun i hi => ?_⟩
  have : ndAt (nodesL m fun i => ndC (ndAt l (p + i))) i = ndAt l (p + i) := by
    simp only [ndAt, nodesL, List.getD_eq_getElem?_getD, List.getElem?_map, List.getElem?_range hi, Option.map_some, Option.getD_some]
    rfl
  rw [this]
theorem chL_s {l : List Nd} {p m y : Nat} {X : Option Addr} (h : p + m ≤ l.length) : chL m (.recs X y 7 m fun i => ndC (ndAt l (p + i))) = (l.drop p).take m := by
  apply List.ext_getElem
  · simp [chL, nodesL]; omega
  · intro i h1 h2
    have hi : i < m := by simpa [chL, nodesL] using h1
    simp only [chL, nodesL, List.getElem_map, List.getElem_range, List.getElem_take, List.getElem_drop]
    have : unNd (ndC (ndAt l (p + i))) = ndAt l (p + i) := rfl
    rw [this]
    simp [ndAt, List.getD_eq_getElem?_getD, show p + i < l.length by omega]
theorem str_ne {a b : ByteArray} (h : a ≠ b) : (a.toList == b.toList) = false := by
  rw [beq_eq_false_iff_ne, Lib.toList_data, Lib.toList_data]
  intro e
  apply h
  cases a; cases b
  simp only [ByteArray.mk.injEq]
  exact Array.ext' e
theorem hh_row0 {O : Nat → Prop} {w0 w : World} {hp : Hp} {k z : Nat} {e : TypeId} (H : HH w0 O hp w) : HH w0 O ((k, .rowV none 0 e z 0 []) :: hp) w := by
  have lk : ∀ j, lookH ((k, Ch.rowV none 0 e z 0 []) :: hp) j = if k = j then .rowV none 0 e z 0 [] else lookH hp j := by
    intro j
    simp only [lookH]
    by_cases h : k = j
    · simp [h]
    · have e : (k == j) = false := by simpa using h
      rw [e, if_neg h]; rfl
  have nf : ∀ b, ¬ foot (.rowV none 0 e z 0 []) b := by rintro b ⟨a, h, _⟩; cases h
  refine ⟨H.below, fun j b hb => ?_, fun j => ?_, fun i j hij hm b hb => ?_⟩
  · rw [lk] at hb
    split at hb
    · exact absurd hb (nf b)
    · exact H.old j b hb
  · rw [lk]
    split
    · exact World.ownsRow_nil _ _ _ _
    · exact H.hold j
  · rw [lk] at hm hb ⊢
    split at hb
    · exact absurd hb (nf b)
    · next h1 =>
      rw [if_neg h1] at hm
      split
      · exact nf b
      · exact H.sep i j hij hm b hb
theorem flat_range (ns : List Nd) : ((List.range ns.length).flatMap fun i => ndC (ndAt ns i)) = ns.flatMap ndC := by
  have : ns = (List.range ns.length).map fun i => ndAt ns i := by
    apply List.ext_getElem
    · simp
    · intro i h1 h2
      simp [ndAt, h1]
  conv => rhs; rw [this]
  rw [List.flatMap_map]
theorem flat_lenS (ns : List Nd) : lenS (ns.flatMap ndC) = ns.length * 7 := by
  rw [lenS_eq]
  induction ns with
  | nil => rfl
  | cons d ns ih => rw [List.flatMap_cons, List.length_append, ih, List.length_cons]; show 7 + _ = _; omega
theorem flat_one (ns : List Nd) : allOne (ns.flatMap ndC) = true := by
  induction ns with
  | nil => rfl
  | cons d ns ih => rw [List.flatMap_cons]; show (allOne (ns.flatMap ndC)) = true; exact ih
end Pr
end Go.Proofs.YtpkldfkmokeamaaGreatDoor
