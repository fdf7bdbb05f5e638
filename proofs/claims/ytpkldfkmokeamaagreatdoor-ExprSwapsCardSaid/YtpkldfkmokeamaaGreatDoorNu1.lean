/-
The engine: a run in which a state may be taken for one of a family of states; a row that is owned, seen as a block (for every seat).
-/
import Derived.Test.YtpkldfkmokeamaaGreatDoorEnM
import Derived.Test.YtpkldfkmokeamaaGreatDoorRp1
set_option linter.unusedSimpArgs false
set_option linter.unusedVariables false
namespace Go.Proofs.YtpkldfkmokeamaaGreatDoor
namespace En
open Go Go.RowKit
section
variable {P : Program} {O : Nat → Prop} {w : World}
theorem calls_gox {f : FuncId} {fn : Func} {c : Code} {args : List SV} {hp : Hp} {nx n : Nat} {U : List (Nat × Nat)} {V : VT} {R : Ending → World → Prop} {post : SS → List SV → Prop} {tl : List (TypeId × TI)} {gl : List (FuncId × Spc)}
    (hm : P.follows .mixedOrders = true) (hT : TyAll P (lookT tl)) (hG : GOk P (lookG gl)) (hf : P.funcs[f]? = some fn) (hb : fn.body = some c) (hok : okC V fn.ntmps c = true) (hn : args.length ≤ fn.ntmps) (hkt : newK (tl.map (·.1)) = true) (hkg : newK (gl.map (·.1)) = true)
    (H : HH w O hp w) (hfree : ∀ k, nx ≤ k → lookH hp k = .no)
    (hpost : ∀ s xs w', post s xs → HH w O s.hp w' → R (.returned (oneV xs)) w')
    (h : ∀ (L : List It → SS → Prop) (F : SS → Prop) (T : TypeId → TI) (G : Gam) (nd : Nat → Code) (va : Nat → Vw), Env (Leaf P (bodyPost P fn R) w O fn.ntmps V) L (fun s => retL T s post fn.results.toList []) F T G U V nd va tl gl c →
      (∀ (ι : Type) (I : ι → SS) (k : List It) (s : SS), (∀ w0 O N a w, Holds w0 O N s a w → ∃ i, Holds w0 O N (I i) a w) → (∀ i, L k (I i)) → L k s) →
      run L F T G U V n [.code (nd 0)] ⟨slots 0 args, hp, nx⟩) : Calls P f (dens args).toArray w R := by
  refine calls_run_at (T := lookT tl) (G := lookG gl) (U := U) (V := V) (n := n) (nx := nx) hm hT hG hf hb hok hn H hfree hpost ?_
  have C : Ctx P (bodyPost P fn R) w O fn.ntmps (lookT tl) (lookG gl) (fun s => retL (lookT tl) s post fn.results.toList []) := ⟨hm, hT, hG, fun s a w' hF HS => by
    obtain ⟨xs, h1, h2⟩ := results_run hT HS hF
    exact ⟨⟨HS.defers, _, h1, hpost s xs w' h2 HS.hh⟩, ⟨HS.defers, _, h1, hpost s xs w' h2 HS.hh⟩⟩⟩
  have h1 : ∀ j, j < sz c → (fun i => (nodes c).getD i .skip) (0 + j) = (nodes c).getD j .skip := fun j _ => by simp
  have h2 : ∀ j, j < sz c → (fun i => (vwL 0 c).getD i .skip) (0 + j) = (vwL 0 c).getD j .skip := fun j _ => by simp
  have := h (Leaf P (bodyPost P fn R) w O fn.ntmps V) (fun s => retL (lookT tl) s post fn.results.toList []) (lookT tl) (lookG gl) (fun i => (nodes c).getD i .skip) (fun i => (vwL 0 c).getD i .skip)
    ⟨fun _ _ h => h, fun _ => rfl, fun n i k s => ?_, named_of _ c 0 h2, allT_of fun t x hx => lookT_at hkt hx, allG_of fun f sp hx => lookG_at hkg hx,
      fun n k s h => leaf_run C h, fun ι I μ c k s i0 h0 h => leaf_inv I μ i0 h0 h, fun ι J c k s h1 h2 => leaf_join J h1 h2, fun k s s' h1 h2 => leaf_le h1 h2⟩
    (fun ι I k s h0 h hk a w H => let ⟨i, Hi⟩ := h0 _ _ _ _ _ H; h i hk a w Hi)
  · rwa [nodes_zero] at this
  · refine step_eq ?_ n k s
    by_cases hi : i < sz c
    · have := rel_nodes (fun i => (nodes c).getD i .skip) c 0 h1 i hi
      rwa [Nat.zero_add] at this
    · have e1 : (nodes c).getD i .skip = .skip := by rw [List.getD_eq_getElem?_getD, List.getElem?_eq_none (by rw [nodes_len]; omega)]; rfl
      have e2 : (vwL 0 c).getD i .skip = .skip := by rw [List.getD_eq_getElem?_getD, List.getElem?_eq_none (by rw [vwL_len]; omega)]; rfl
      show RelV _ ((nodes c).getD i .skip) ((vwL 0 c).getD i .skip)
      rw [e1, e2]; trivial
end
theorem dens_map_v : ∀ l : List Value, dens (l.map .v) = l
  | [] => rfl
  | x :: l => by show den (.v x) :: dens (l.map .v) = _; rw [dens_map_v l]; rfl
theorem hh_blk {O : Nat → Prop} {w0 w : World} {hp : Hp} {k z n c : Nat} {e : TypeId} {A : Option Addr} {cs : List SV} (hR : lookH hp k = .rowV A c e z n cs) (hn : n ≠ 0) (H : HH w0 O hp w) :
    ∃ (b : Nat) (zs : List Value), (A = some ⟨b, 0, none⟩ ∧ n ≤ c ∧ c ≤ maxLen ∧ n * z + zs.length = c * z) ∧ HH w0 O ((k, .blk b (cs ++ zs.map .v) e) :: hp) w := by
  have h := H.hold k
  rw [hR] at h
  obtain ⟨hl, hx⟩ := h
  rcases hx with ⟨_, h0⟩ | ⟨g, cap, cur, hv, hb, hg, h1, h2, h3, h4⟩
  · exact absurd h0 hn
  · cases hv
    refine ⟨g, cur.toList.drop (n * z), ⟨rfl, h1, h2, ?_⟩, ?_⟩
    · rw [List.length_drop, Array.length_toList, h3]
      have := Nat.mul_le_mul_right z h1
      omega
    have lk : ∀ j, lookH ((k, Ch.blk g (cs ++ (cur.toList.drop (n * z)).map .v) e) :: hp) j = if k = j then .blk g (cs ++ (cur.toList.drop (n * z)).map .v) e else lookH hp j := by
      intro j
      simp only [lookH]
      by_cases h : k = j
      · simp [h]
      · have e : (k == j) = false := by simpa using h
        rw [e, if_neg h]; rfl
    have ft : foot (lookH hp k) g := by rw [hR]; exact ⟨_, rfl, rfl⟩
    have fm : mutb (lookH hp k) = true := by rw [hR]; rfl
    refine ⟨H.below, fun j b hb => ?_, fun j => ?_, fun i j hij hm b hb => ?_⟩
    · rw [lk] at hb
      split at hb
      · cases hb; exact H.old k g ft
      · exact H.old j b hb
    · rw [lk]
      split
      · refine ⟨hb, ?_⟩
        rw [hg, dens_append, dens_map_v, ← h4, List.take_append_drop]
      · exact H.hold j
    · rw [lk] at hm hb ⊢
      split at hb
      · next h1 =>
        cases hb
        rw [if_neg (fun e => hij (by rw [← h1, e]))]
        exact H.sep k j (fun e => hij (by rw [← h1, e])) fm _ ft
      · next h1 =>
        rw [if_neg h1] at hm
        split
        · next h2 =>
          intro hf
          cases hf
          exact H.sep i k (fun e => h1 e.symm) hm _ hb ft
        · exact H.sep i j hij hm b hb
theorem to_blk {L : List It → SS → Prop} (hX : ∀ (ι : Type) (I : ι → SS) (k : List It) (s : SS), (∀ w0 O N a w, Holds w0 O N s a w → ∃ i, Holds w0 O N (I i) a w) → (∀ i, L k (I i)) → L k s) {k : List It} {s : SS} (K : Nat) {z n c : Nat} {e : TypeId} {A : Option Addr} {cs : List SV} (hR : lookH s.hp K = .rowV A c e z n cs) (hn : n ≠ 0) (hK : K < s.nx)
    (h : ∀ (b : Nat) (zs : List Value), A = some ⟨b, 0, none⟩ → n ≤ c → c ≤ maxLen → n * z + zs.length = c * z → L k ⟨s.sl, (K, .blk b (cs ++ zs.map .v) e) :: s.hp, s.nx⟩) : L k s := by
  refine hX {x : Nat × List Value // A = some ⟨x.1, 0, none⟩ ∧ n ≤ c ∧ c ≤ maxLen ∧ n * z + x.2.length = c * z} (fun x => ⟨s.sl, (K, .blk x.1.1 (cs ++ x.1.2.map .v) e) :: s.hp, s.nx⟩) k s (fun w0 O N a w H => ?_) fun x => h x.1.1 x.1.2 x.2.1 x.2.2.1 x.2.2.2.1 x.2.2.2.2
  obtain ⟨b, zs, hf, hh⟩ := hh_blk hR hn H.hh
  refine ⟨⟨(b, zs), hf⟩, H.defers, H.size, H.slots, hh, fun j hj => ?_⟩
  have : (K == j) = false := by simp; simp only at hj; omega
  simp only [lookH, this, cond_false]
  exact H.free j hj
theorem row_blk {B : Nat} {w : World} {b n c z : Nat} {e : TypeId} {cs : List SV} {zs : List Value} (h : Hold B w (.blk b (cs ++ zs.map .v) e)) (h1 : n ≤ c) (h2 : c ≤ maxLen) (h3 : n * z + zs.length = c * z) (h4 : cs.length = n * z) : Hold B w (.rowV (some ⟨b, 0, none⟩) c e z n cs) := by
  obtain ⟨hb, hg⟩ := h
  have hd : (dens cs).length = n * z := by rw [dens_len, h4]
  refine ⟨hd, .inr ⟨b, c, _, rfl, hb, hg, h1, h2, ?_, ?_⟩⟩
  · rw [List.size_toArray, dens_len, List.length_append, List.length_map, h4, h3]
  · rw [dens_append, List.take_append_of_le_length (by rw [hd]; exact Nat.le_refl _), List.take_of_length_le (by rw [hd]; exact Nat.le_refl _)]
theorem gp_gg {k b n c : Nat} {o : Nat} : (den (SV.g k (some ⟨b, o, none⟩) n c) = den (SV.gp k b o n c)) = True := eq_true rfl
end En
end Go.Proofs.YtpkldfkmokeamaaGreatDoor
/-
Chapter 15: slices.Clone of nodes; Number, the program's and the reference's.
-/
set_option linter.unusedSimpArgs false
set_option linter.unusedVariables false
namespace Go.Proofs.YtpkldfkmokeamaaGreatDoor
namespace Pr
open Go Go.RowKit En
open Ex Rf
def CloQ (O : Nat → Prop) (l : List Nd) (w : World) (e : Ending) (w' : World) : Prop := Below w.heap.size w w' ∧ ∃ B d, e = .returned (.slice B l.length d) ∧ Hold w.heap.size w' (.rowV B d 38 7 l.length (l.flatMap ndC))
set_option maxRecDepth 100000 in
set_option maxHeartbeats 4000000 in
theorem cloneN_any (l : List Nd) (h0 : l.length ≠ 0) (hlen : l.length ≤ 100000) (A : Option Addr) (c : Nat) (w : World) (h : allRd w.heap.size w (rdH l A c)) :
    Calls Tryz.prog 62 #[.slice A l.length c] w (CloQ (oldOf (rdH l A c)) l w) := by
  obtain ⟨a, rfl⟩ : ∃ a, A = some a := Option.ne_none_iff_exists'.1 (slok_some h.1.1.1 h0)
  refine calls_go (args := [.g 1000 (some a) l.length c]) (hp := rdH l (some a) c) (nx := 1001) (n := 200) (U := []) (V := []) (tl := tlRe) (gl := gl0) (post := fun s ys => ∃ k B d, ys = [.g k B l.length d] ∧ lookH s.hp k = .rowV B d 38 7 l.length (l.flatMap ndC))
    followP tlRe_ok gl0_ok Tryz.func62 rfl (by kernel_rfl) (Nat.le_of_ble_eq_true (by kernel_rfl)) (by kernel_rfl) (by kernel_rfl) (hh_list h) (free_list (by simp [allLt, rdH])) ?_ ?_
  · rintro s ys w' ⟨k, B, d, rfl, hk⟩ H
    exact ⟨H.below, B, d, rfl, hk ▸ H.hold k⟩
  intro L F T G nd va hE
  obtain ⟨hL, hF, hs, hv, hT, hG, hR, hI, hJ, hW⟩ := hE
  rw [Tryz.results62] at hF
  simp (maxSteps := 1000000) only [En.nN, En.E, En.evsC, List.map_cons, List.map_nil, Nat.reduceBEq, Nat.reduceAdd, Nat.reduceMul, Nat.reduceEqDiff, Nat.reduceLeDiff, Nat.reduceLT, ne_eq, reduceCtorEq, Int.reduceBEq, Int.reduceBNe, Int.reduceAdd, Int.reduceSub, Int.reduceMul, Int.reduceNeg, Nat.reduceBNe, Int.reduceToNat, Nat.reduceSub, Int.reduceLE, Int.reduceLT] at hv
  simp only [En.at_nil, En.at_cons, En.ag_nil, En.ag_cons, and_true, tlRe, gl0, tyInt, tyI64, tyBool, tyStr, tyErr, tyNode, tyNodes, tyInts] at hT hG
  simp (maxSteps := 10000000) only [En.E, En.evsC, List.map_cons, List.map_nil, Nat.reduceBEq, Nat.reduceAdd, Nat.reduceMul, Nat.reduceEqDiff, Nat.reduceLeDiff, Nat.reduceLT, ne_eq, reduceCtorEq, Int.reduceBEq, Int.reduceBNe, Int.reduceAdd, Int.reduceSub, Int.reduceMul, Int.reduceNeg, Nat.reduceBNe, Int.reduceToNat, Nat.reduceSub, Int.reduceLE, Int.reduceLT, En.vV, hs, hv, hT, hG, hF, rdH]
  exact fun b => ⟨⟨by omega, by omega, by rw [flat_range, flat_lenS], by rw [flat_range]; exact flat_one _⟩, fun B d => ⟨1513, B, d, rfl, by rw [← flat_range]; rfl⟩⟩
def spCloN : Spc
  | [.g k A n c], H, nx => .val (NdR A n c (H k) ∧ n ≠ 0 ∧ n ≤ 100000) fun B d => (.g nx B n d, [(nx, .rowV B d 38 7 n ((chL n (H k)).flatMap ndC))])
  | _, _, _ => .bad
theorem spCloN_q {k n c nx : Nat} {A : Option Addr} {H : Nat → Ch} : spCloN [.g k A n c] H nx = .val (NdR A n c (H k) ∧ n ≠ 0 ∧ n ≤ 100000) fun B d => (.g nx B n d, [(nx, .rowV B d 38 7 n ((chL n (H k)).flatMap ndC))]) := rfl
theorem spCloN_ok : SpecOk Tryz.prog 62 spCloN := by
  intro args hp nx w0 O w H hv
  unfold spCloN at hv ⊢
  split at hv
  · next k A n c =>
    obtain ⟨h1, h0, hn⟩ := hv
    obtain ⟨hl, hh⟩ := NdR_hold h1 (H.hold k)
    generalize chL n (lookH hp k) = l at hl hh ⊢
    subst hl
    refine (cloneN_any l h0 hn A c w ⟨⟨hh _, rfl⟩, trivial⟩).mono ?_
    rintro e w' ⟨hb, B, d, rfl, hd⟩
    refine ⟨⟨0, B, d, none, 0, mz⟩, rfl, Stp.one hb ?_ ?_⟩
    · obtain ⟨q1, q2⟩ := hd
      refine ⟨q1, q2.imp id ?_⟩
      rintro ⟨g, cap, cur, r1, r2, r3⟩
      exact ⟨g, cap, cur, r1, Nat.le_trans H.below.size r2, r3⟩
    · rintro b ⟨a, rfl, rfl⟩
      left
      obtain ⟨_, ⟨q, _⟩ | ⟨g, cap, cur, r1, r2, r3⟩⟩ := hd
      · cases q
      · cases r1; exact r2
  · exact hv.elim
def sitB (l : List Nd) (i : Nat) : Bool := !nuV l i
def cntS (l : List Nd) : Nat → Nat
  | 0 => 0
  | i + 1 => cntS l i + (bif sitB l i then 1 else 0)
def nuN (l : List Nd) (f : Int) (i : Nat) : Nd := { ndAt l i with s := bif sitB l i then f + cntS l i else 0 }
def nuL (l : List Nd) (f : Int) (i : Nat) : List Nd := (List.range l.length).map fun j => if j < i then nuN l f j else ndAt l j
theorem cntS_le (l : List Nd) : ∀ i, cntS l i ≤ i
  | 0 => Nat.le_refl 0
  | i + 1 => by
    have := cntS_le l i
    simp only [cntS]
    cases sitB l i
    · simp only [cond_false]; omega
    · simp only [cond_true]; omega
theorem nuL_len (l : List Nd) (f : Int) (i : Nat) : (nuL l f i).length = l.length := by simp [nuL]
theorem nuL_zero (l : List Nd) (f : Int) : nuL l f 0 = l := by
  apply List.ext_getElem
  · simp [nuL]
  · intro j h1 h2
    simp [nuL, ndAt, h2]
theorem nuL_at {l : List Nd} {f : Int} {i j : Nat} (h : j < l.length) : ndAt (nuL l f i) j = if j < i then nuN l f j else ndAt l j := by
  simp [ndAt, nuL, List.getD_eq_getElem?_getD, h]
theorem nuL_succ {l : List Nd} {f : Int} {i : Nat} (h : i < l.length) : nuL l f (i + 1) = (nuL l f i).set i (nuN l f i) := by
  apply List.ext_getElem
  · simp [nuL]
  · intro j h1 h2
    rw [List.getElem_set]
    simp only [nuL, List.getElem_map, List.getElem_range]
    by_cases e : i = j
    · subst e; simp
    · rw [if_neg e]
      by_cases h3 : j < i
      · rw [if_pos h3, if_pos (by omega)]
      · rw [if_neg h3, if_neg (by omega)]
theorem put_site {m : List Nd} {i : Nat} {v : Int} {zs : List SV} (h : i < m.length) : putAt (m.flatMap ndC ++ zs) (i * 7 + 6) [.v (.int .i64 v)] = (m.set i { ndAt m i with s := v }).flatMap ndC ++ zs := by
  induction m generalizing i with
  | nil => exact absurd h (Nat.not_lt_zero i)
  | cons x m ih =>
    cases i with
    | zero =>
      have e : ∀ l : List SV, putAt l 0 [] = l := fun l => by cases l <;> rfl
      show _ :: _ :: _ :: _ :: _ :: _ :: _ :: putAt (m.flatMap ndC ++ zs) 0 [] = _
      rw [e]; rfl
    | succ i =>
      have h' : i < m.length := by simpa using h
      rw [show (i + 1) * 7 + 6 = (i * 7 + 6) + 7 by omega]
      show ndC x ++ putAt (m.flatMap ndC ++ zs) (i * 7 + 6) _ = ndC x ++ ((m.set i _).flatMap ndC ++ zs)
      rw [ih h']
      rfl
def nuE (l : List Nd) (f : Int) : Int := if (chkV l).2 ≠ 0 then (chkV l).2 else if f < 1 ∨ 100000000 < f then 7 else 0
def nuX (l : List Nd) (f : Int) : List Nd := nuL l f l.length
def nuF (l : List Nd) (f : Int) : Int := f + cntS l l.length
def nuRs (c : Prop) (l : List Nd) (f : Int) (nx : Nat) : Res := bif nuE l f == 0 then .val c fun B d => (.tup [.g nx B (nuX l f).length d, .v (.int .i64 (nuF l f)), .v (.int .i64 0)], [(nx, .recs B d 7 (nuX l f).length fun i => ndC (ndAt (nuX l f) i))]) else .is c (.tup [.v (.slice none 0 0), .v (.int .i64 0), .v (.int .i64 (nuE l f))])
theorem nuRs_y {c : Prop} {l : List Nd} {f : Int} {nx : Nat} (h : nuE l f = 0) : nuRs c l f nx = .val c fun B d => (.tup [.g nx B (nuX l f).length d, .v (.int .i64 (nuF l f)), .v (.int .i64 0)], [(nx, .recs B d 7 (nuX l f).length fun i => ndC (ndAt (nuX l f) i))]) := by rw [nuRs, h]; rfl
theorem nuRs_n {c : Prop} {l : List Nd} {f : Int} {nx : Nat} (h : nuE l f ≠ 0) : nuRs c l f nx = .is c (.tup [.v (.slice none 0 0), .v (.int .i64 0), .v (.int .i64 (nuE l f))]) := by
  have : (nuE l f == 0) = false := by simpa using h
  rw [nuRs, this]; rfl
theorem nuRs_vc {c : Prop} {l : List Nd} {f : Int} {nx : Nat} (h : (nuRs c l f nx).vc) : c := by
  unfold nuRs at h
  cases hq : (nuE l f == 0) <;> rw [hq] at h <;> exact h
def NuP (l : List Nd) (f : Int) (s : SS) (ys : List SV) : Prop := (nuE l f ≠ 0 ∧ ys = [.v (.slice none 0 0), .v (.int .i64 0), .v (.int .i64 (nuE l f))]) ∨
  (nuE l f = 0 ∧ ∃ (k b d : Nat) (zs : List Value) (e : TypeId), (d ≤ maxLen ∧ (nuX l f).length ≤ d ∧ (nuX l f).length * 7 + zs.length = d * 7) ∧ ys = [.gp k b 0 (nuX l f).length d, .v (.int .i64 (nuF l f)), .v (.int .i64 0)] ∧ lookH s.hp k = .blk b ((nuX l f).flatMap ndC ++ zs.map .v) e)
def NuQ (l : List Nd) (f : Int) (w : World) (e : Ending) (w' : World) : Prop := Below w.heap.size w w' ∧ ((nuE l f ≠ 0 ∧ e = .returned (.tuple #[.slice none 0 0, .int .i64 0, .int .i64 (nuE l f)])) ∨
  (nuE l f = 0 ∧ ∃ B d, e = .returned (.tuple #[.slice B (nuX l f).length d, .int .i64 (nuF l f), .int .i64 0]) ∧ Hold w.heap.size w' (.recs B d 7 (nuX l f).length fun i => ndC (ndAt (nuX l f) i)) ∧ ∀ b, foot (.recs B d 7 (nuX l f).length fun i => ndC (ndAt (nuX l f) i)) b → w.heap.size ≤ b))
theorem NuP_Q {l : List Nd} {f : Int} {w w' : World} {O : Nat → Prop} {s : SS} {ys : List SV} (h : NuP l f s ys) (H : HH w O s.hp w') : NuQ l f w (.returned (oneV ys)) w' := by
  rcases h with ⟨h0, rfl⟩ | ⟨h0, k, b, d, zs, e, ⟨g1, g2, g3⟩, rfl, hk⟩
  · exact ⟨H.below, .inl ⟨h0, rfl⟩⟩
  · have hb := H.hold k
    rw [hk] at hb
    have hl : ((nuX l f).flatMap ndC).length = (nuX l f).length * 7 := by rw [← lenS_eq]; exact flat_lenS _
    exact ⟨H.below, .inr ⟨h0, some ⟨b, 0, none⟩, d, rfl, row_nodes (row_blk hb g2 g1 g3 hl) rfl rfl, by rintro b' ⟨_, a, ha, rfl⟩; cases ha; exact hb.1⟩⟩
theorem nuRs_ok {c : Prop} {l : List Nd} {f : Int} {nx : Nat} {O : Nat → Prop} {w0 w w' : World} {hp : Hp} {e : Ending} (H : HH w0 O hp w) (h : NuQ l f w e w') :
    ∃ u, e = .returned (den ((nuRs c l f nx).out u).1) ∧ Stp w0 hp w (nuRs c l f nx).wr ((nuRs c l f nx).out u).2 w' := by
  obtain ⟨hb, ⟨h0, rfl⟩ | ⟨h0, B, d, rfl, hs, hf⟩⟩ := h
  · simp only [nuRs_n h0]
    exact ⟨⟨0, none, 0, none, 0, mz⟩, rfl, .still hb⟩
  · simp only [nuRs_y h0]
    refine ⟨⟨0, B, d, none, 0, mz⟩, rfl, Stp.rd hb ⟨⟨hs, rfl⟩, trivial⟩ fun k b' hx => ?_⟩
    exact foot_look (Q := fun b => w.heap.size ≤ b ∨ ∃ j, foot (lookH hp j) b ∧ mutb (lookH hp j) = false) (l := [(_, _)]) ⟨fun b hb => .inl (hf b hb), trivial⟩ hx
end Pr
end Go.Proofs.YtpkldfkmokeamaaGreatDoor
/-
Chapter 15: the program's Number.
-/
set_option linter.unusedSimpArgs false
set_option linter.unusedVariables false
namespace Go.Proofs.YtpkldfkmokeamaaGreatDoor
namespace Pr
open Go Go.RowKit En
open Ex Rf
def glNu : List (FuncId × Spc) := [(39, spChk), (62, spCloN)]
theorem glNu_ok : GOk Tryz.prog (lookG glNu) := lG_cons (by kernel_rfl) spChk_ok <| lG_cons (by kernel_rfl) spCloN_ok lG_nil
theorem nV_nu {l : List Nd} {i : Nat} (h : i < l.length) : nV l i = .v (.bool (nuV l i)) := by rw [nV, numTo_nu h]
section
variable (l : List Nd) (A : Option Addr) (c : Nat) (f : Int) (b d : Nat) (zs : List Value) (M : Nat → Option Addr × Nat) (b2 : Nat)
def nwI (i : Nat) : SS := ⟨[(0, .g 1000 A l.length c), (1, .v (.int .i64 (f + cntS l i))), (4, .gp 2537 b 0 l.length d), (7, .p 1513 b2 0), (30, .v (.int .i64 l.length)), (31, .v (.int .i64 i))],
  [(2537, .blk b ((nuL l f i).flatMap ndC ++ zs.map .v) 38), (1513, .blk b2 [.g 1001 (M 0).1 l.length (M 0).2, .g 1002 (M 1).1 l.length (M 1).2, .g 1003 (M 2).1 l.length (M 2).2, .g 1004 (M 3).1 l.length (M 3).2] 55), (1004, .recs (M 3).1 (M 3).2 1 l.length fun j => [nV l j]), (1000, .recs A c 7 l.length fun i => ndC (ndAt l i))], 30000⟩
end
theorem set_same (m : List Nd) (i : Nat) (v v' : Int) : (m.set i { ndAt m i with s := v }).set i { ndAt (m.set i { ndAt m i with s := v }) i with s := v' } = m.set i { ndAt m i with s := v' } := by
  rw [List.set_set]
  by_cases h : i < m.length
  · have : ndAt (m.set i { ndAt m i with s := v }) i = { ndAt m i with s := v } := by simp [ndAt, List.getD_eq_getElem?_getD, h]
    rw [this]
  · rw [List.set_eq_of_length_le (by omega), List.set_eq_of_length_le (by omega)]
theorem nu_put0 {l : List Nd} {f : Int} {i : Nat} (h : i < l.length) (hs : nuV l i = true) : (nuL l f i).set i { ndAt (nuL l f i) i with s := 0 } = nuL l f (i + 1) := by
  rw [nuL_succ h, nuL_at h, if_neg (Nat.lt_irrefl i), nuN, sitB, hs]; rfl
theorem nu_put1 {l : List Nd} {f : Int} {i : Nat} (h : i < l.length) (hs : nuV l i = false) : (nuL l f i).set i { ndAt (nuL l f i) i with s := f + cntS l i } = nuL l f (i + 1) := by
  rw [nuL_succ h, nuL_at h, if_neg (Nat.lt_irrefl i), nuN, sitB, hs]; rfl
set_option maxRecDepth 100000 in
set_option maxHeartbeats 4000000 in
theorem number15_any (l : List Nd) (hlen : l.length ≤ 100000) (hz : zsN l) (f : Int) (A : Option Addr) (c bn on cn ba oa ca : Nat) (h4 : 4 ≤ cn) (h3 : 3 ≤ ca) (w : World) (h : allRd w.heap.size w (odHp l A c bn on cn ba oa ca)) :
    Calls Tryz.prog 34 #[.slice A l.length c, .int .i64 f] w (NuQ l f w) := by
  refine calls_gox (args := [.g 1000 A l.length c, .v (.int .i64 f)]) (hp := odHp l A c bn on cn ba oa ca) (nx := 1001) (n := 3000) (U := [(1000000, 32)]) (V := []) (tl := tlCk) (gl := glNu) (post := NuP l f)
    followP tlCk_ok glNu_ok Tryz.func34 rfl (by kernel_rfl) (Nat.le_of_ble_eq_true (by kernel_rfl)) (by kernel_rfl) (by kernel_rfl) (hh_list h) (free_list (by simp [allLt, odHp, gHu, gHp])) ?_ ?_
  · exact fun s ys w' hp H => NuP_Q hp H
  intro L F T G nd va hE
  obtain ⟨hL, hF, hs, hv, hT, hG, hR, hI, hJ, hW⟩ := hE
  rw [Tryz.results34] at hF
  simp (maxSteps := 1000000) only [En.nN, En.E, En.evsC, List.map_cons, List.map_nil, Nat.reduceBEq, Nat.reduceAdd, Nat.reduceMul, Nat.reduceEqDiff, Nat.reduceLeDiff, Nat.reduceLT, ne_eq, reduceCtorEq, Int.reduceBEq, Int.reduceBNe, Int.reduceAdd, Int.reduceSub, Int.reduceMul, Int.reduceNeg, Nat.reduceBNe, Int.reduceToNat, Nat.reduceSub, Int.reduceLE, Int.reduceLT] at hv
  simp only [En.at_nil, En.at_cons, En.ag_nil, En.ag_cons, and_true, tlCk, glNu, tyInt, tyI64, tyBool, tyStr, tyErr, tyNode, tyNodes, tyInts, tyRows, tyBools, tyTree] at hT hG
  intro hX
  have b07 : ((0 : Int) != 0) = false := rfl
  by_cases h1 : (chkV l).2 = 0
  · have hok := okL_ok h1
    obtain ⟨h0, h40, hg, _⟩ := chk_ok h1
    cases d1 : decide (f < 1) with
    | true =>
      have e : nuE l f = 7 := by rw [nuE, if_neg (by simp [h1]), if_pos (.inl (of_decide_eq_true d1))]
      simp (maxSteps := 10000000) only [En.E, En.evsC, List.map_cons, List.map_nil, Nat.reduceBEq, Nat.reduceAdd, Nat.reduceMul, Nat.reduceEqDiff, Nat.reduceLeDiff, Nat.reduceLT, ne_eq, reduceCtorEq, Int.reduceBEq, Int.reduceBNe, Int.reduceAdd, Int.reduceSub, Int.reduceMul, Int.reduceNeg, Nat.reduceBNe, Int.reduceToNat, Nat.reduceSub, Int.reduceLE, Int.reduceLT, En.vV, hs, hv, hT, hG, hF, odHp, gHu, gHp, spChk_q, ckR, NdR_q, chL_q, globR_q, globU_q, hlen, hz, h4, h3, hok, grV, grUps, h1, b07, d1]
      exact fun M b => .inl ⟨by rw [e]; decide, by rw [e]⟩
    | false =>
      cases d2 : decide (f > 100000000) with
      | true =>
        have e : nuE l f = 7 := by rw [nuE, if_neg (by simp [h1]), if_pos (.inr (of_decide_eq_true d2))]
        simp (maxSteps := 10000000) only [En.E, En.evsC, List.map_cons, List.map_nil, Nat.reduceBEq, Nat.reduceAdd, Nat.reduceMul, Nat.reduceEqDiff, Nat.reduceLeDiff, Nat.reduceLT, ne_eq, reduceCtorEq, Int.reduceBEq, Int.reduceBNe, Int.reduceAdd, Int.reduceSub, Int.reduceMul, Int.reduceNeg, Nat.reduceBNe, Int.reduceToNat, Nat.reduceSub, Int.reduceLE, Int.reduceLT, En.vV, hs, hv, hT, hG, hF, odHp, gHu, gHp, spChk_q, ckR, NdR_q, chL_q, globR_q, globU_q, hlen, hz, h4, h3, hok, grV, grUps, h1, b07, d1, d2]
        exact fun M b => .inl ⟨by rw [e]; decide, by rw [e]⟩
      | false =>
        have f1 := of_decide_eq_false d1
        have f2 := of_decide_eq_false d2
        have e : nuE l f = 0 := by rw [nuE, if_neg (by simp [h1]), if_neg (by omega)]
        simp (maxSteps := 10000000) only [En.E, En.evsC, List.map_cons, List.map_nil, Nat.reduceBEq, Nat.reduceAdd, Nat.reduceMul, Nat.reduceEqDiff, Nat.reduceLeDiff, Nat.reduceLT, ne_eq, reduceCtorEq, Int.reduceBEq, Int.reduceBNe, Int.reduceAdd, Int.reduceSub, Int.reduceMul, Int.reduceNeg, Nat.reduceBNe, Int.reduceToNat, Nat.reduceSub, Int.reduceLE, Int.reduceLT, En.vV, hs, hv, hT, hG, hF, odHp, gHu, gHp, spChk_q, ckR, NdR_q, chL_q, globR_q, globU_q, hlen, hz, h4, h3, hok, grV, grUps, h1, b07, d1, d2, spCloN_q, h0]
        intro M b2 B0 d
        refine to_blk hX 2537 rfl h0 (by exact (by decide : (2537 : Nat) < 3049)) ?_
        rintro b zs rfl g1 g2 g3
        have hlZ : ∀ i, lenS ((nuL l f i).flatMap ndC ++ zs.map .v) = d * 7 := fun i => by
          rw [lenS_eq, List.length_append, ← lenS_eq, flat_lenS, nuL_len, List.length_map, g3]
        refine hI {i : Nat // i ≤ l.length} (fun x => nwI l A c f b d zs M b2 x.1) (fun x => l.length - x.1) _ _ _ ⟨0, Nat.zero_le _⟩ (sle_all [2537, 1513, 1004, 1000] (by decide) (by simp only [En.E, En.evsC, List.map_cons, List.map_nil, Nat.reduceBEq, Nat.reduceAdd, Nat.reduceMul, Nat.reduceEqDiff, Nat.reduceLeDiff, Nat.reduceLT, ne_eq, reduceCtorEq, Int.reduceBEq, Int.reduceBNe, Int.reduceAdd, Int.reduceSub, Int.reduceMul, Int.reduceNeg, Nat.reduceBNe, Int.reduceToNat, Nat.reduceSub, Int.reduceLE, Int.reduceLT, En.slLe, En.hpLe, En.chE, En.allLt, nwI, nuL_zero, gp_gg, cntS, Int.add_zero, Int.cast_ofNat_Int])) ?_
        rintro ⟨i, hi⟩
        by_cases hlt : i < l.length
        · have d3 : decide ((i : Int) < (l.length : Int)) = true := decide_eq_true (by omega)
          have i1 : inr .i64 ((i : Int) + 1) := by simp only [En.inr, En.lo, En.hi]; omega
          have g4 : (0 : Int) ≤ i ∧ (i : Int) < l.length := by omega
          have hcl := cntS_le l i
          have i2 : inr .i64 (f + cntS l i + 1) := by simp only [En.inr, En.lo, En.hi]; omega
          have P0 := put_site (m := nuL l f i) (i := i) (v := 0) (zs := zs.map .v) (by rw [nuL_len]; exact hlt)
          refine hR 4000 _ _ ?_
          cases hn : nuV l i with
          | true =>
            simp (maxSteps := 10000000) only [En.E, En.evsC, List.map_cons, List.map_nil, Nat.reduceBEq, Nat.reduceAdd, Nat.reduceMul, Nat.reduceEqDiff, Nat.reduceLeDiff, Nat.reduceLT, ne_eq, reduceCtorEq, Int.reduceBEq, Int.reduceBNe, Int.reduceAdd, Int.reduceSub, Int.reduceMul, Int.reduceNeg, Nat.reduceBNe, Int.reduceToNat, Nat.reduceSub, Int.reduceLE, Int.reduceLT, En.vV, hs, hv, hT, hG, hF, nwI, d3, i1, i2, g4, nV_nu hlt, hn, Int.toNat_natCast, hlZ]
            have c1 : cntS l (i + 1) = cntS l i := by simp [cntS, sitB, hn]
            have P1 := nu_put0 (f := f) hlt hn
            exact ⟨by omega, hlt, ⟨i + 1, hlt⟩, (sle_all [2537, 1513, 1004, 1000] (by decide) (by simp only [En.E, En.evsC, List.map_cons, List.map_nil, Nat.reduceBEq, Nat.reduceAdd, Nat.reduceMul, Nat.reduceEqDiff, Nat.reduceLeDiff, Nat.reduceLT, ne_eq, reduceCtorEq, Int.reduceBEq, Int.reduceBNe, Int.reduceAdd, Int.reduceSub, Int.reduceMul, Int.reduceNeg, Nat.reduceBNe, Int.reduceToNat, Nat.reduceSub, Int.reduceLE, Int.reduceLT, En.slLe, En.hpLe, En.chE, En.allLt, nwI, P0, P1, c1, Int.natCast_add, Int.cast_ofNat_Int])), by simp only; omega⟩
          | false =>
            simp (maxSteps := 10000000) only [En.E, En.evsC, List.map_cons, List.map_nil, Nat.reduceBEq, Nat.reduceAdd, Nat.reduceMul, Nat.reduceEqDiff, Nat.reduceLeDiff, Nat.reduceLT, ne_eq, reduceCtorEq, Int.reduceBEq, Int.reduceBNe, Int.reduceAdd, Int.reduceSub, Int.reduceMul, Int.reduceNeg, Nat.reduceBNe, Int.reduceToNat, Nat.reduceSub, Int.reduceLE, Int.reduceLT, En.vV, hs, hv, hT, hG, hF, nwI, d3, i1, i2, g4, nV_nu hlt, hn, Int.toNat_natCast, hlZ]
            have c1 : f + ((cntS l (i + 1) : Nat) : Int) = f + (cntS l i : Int) + 1 := by simp only [cntS, sitB, hn, Bool.not_false, cond_true]; omega
            have P1 := nu_put1 (f := f) hlt hn
            have P2 := put_site (m := (nuL l f i).set i { ndAt (nuL l f i) i with s := 0 }) (i := i) (v := f + cntS l i) (zs := zs.map .v) (by rw [List.length_set, nuL_len]; exact hlt)
            rw [set_same, P1] at P2
            have q : i * 7 + 6 + 1 ≤ d * 7 := by omega
            refine ⟨q, hlt, ?_, ⟨i + 1, hlt⟩, (sle_all [2537, 1513, 1004, 1000] (by decide) (by simp only [En.E, En.evsC, List.map_cons, List.map_nil, Nat.reduceBEq, Nat.reduceAdd, Nat.reduceMul, Nat.reduceEqDiff, Nat.reduceLeDiff, Nat.reduceLT, ne_eq, reduceCtorEq, Int.reduceBEq, Int.reduceBNe, Int.reduceAdd, Int.reduceSub, Int.reduceMul, Int.reduceNeg, Nat.reduceBNe, Int.reduceToNat, Nat.reduceSub, Int.reduceLE, Int.reduceLT, En.slLe, En.hpLe, En.chE, En.allLt, nwI, P0, P2, c1, Int.natCast_add, Int.cast_ofNat_Int])), by simp only; omega⟩
            rw [P0, lenS_eq, List.length_append, ← lenS_eq, flat_lenS, List.length_set, nuL_len, List.length_map, g3]
            exact q
        · have d3 : decide ((i : Int) < (l.length : Int)) = false := decide_eq_false (by omega)
          obtain rfl : i = l.length := by omega
          refine hR 4000 _ _ ?_
          simp (maxSteps := 10000000) only [En.E, En.evsC, List.map_cons, List.map_nil, Nat.reduceBEq, Nat.reduceAdd, Nat.reduceMul, Nat.reduceEqDiff, Nat.reduceLeDiff, Nat.reduceLT, ne_eq, reduceCtorEq, Int.reduceBEq, Int.reduceBNe, Int.reduceAdd, Int.reduceSub, Int.reduceMul, Int.reduceNeg, Nat.reduceBNe, Int.reduceToNat, Nat.reduceSub, Int.reduceLE, Int.reduceLT, En.vV, hs, hv, hT, hG, hF, nwI, d3, Int.toNat_natCast]
          have hxl : (nuX l f).length = l.length := nuL_len l f l.length
          exact .inr ⟨e, 2537, b, d, zs, _, by rw [hxl]; exact ⟨g2, g1, g3⟩, by rw [hxl]; rfl, rfl⟩
  · have e : nuE l f = (chkV l).2 := by rw [nuE, if_pos h1]
    have d3 : ((chkV l).2 != 0) = true := by simpa using h1
    simp (maxSteps := 10000000) only [En.E, En.evsC, List.map_cons, List.map_nil, Nat.reduceBEq, Nat.reduceAdd, Nat.reduceMul, Nat.reduceEqDiff, Nat.reduceLeDiff, Nat.reduceLT, ne_eq, reduceCtorEq, Int.reduceBEq, Int.reduceBNe, Int.reduceAdd, Int.reduceSub, Int.reduceMul, Int.reduceNeg, Nat.reduceBNe, Int.reduceToNat, Nat.reduceSub, Int.reduceLE, Int.reduceLT, En.vV, hs, hv, hT, hG, hF, odHp, gHu, gHp, spChk_q, ckR, NdR_q, chL_q, globR_q, globU_q, hlen, hz, h4, h3, grV, grUps, d3]
    exact fun M b => .inl ⟨by rw [e]; exact h1, by rw [e]⟩
def spNum15 : Spc
  | [.g k A n c, .v (.int .i64 f)], H, nx => nuRs (ckR A n c k H) (chL n (H k)) f nx
  | _, _, _ => .bad
theorem spNum15_q {k n c : Nat} {A : Option Addr} {f : Int} {H : Nat → Ch} {nx : Nat} : spNum15 [.g k A n c, .v (.int .i64 f)] H nx = nuRs (ckR A n c k H) (chL n (H k)) f nx := rfl
theorem spNum15_ok : SpecOk Tryz.prog 34 spNum15 := by
  intro args hp nx w0 O w H hv
  unfold spNum15 at hv ⊢
  split at hv
  · next k A n c f =>
    have hc := nuRs_vc hv
    obtain ⟨bn, on, cn, ba, oa, ca, h4, h3, hl, hr, ho⟩ := ck_old H hc rfl
    obtain ⟨_, hn, hz, _⟩ := hc
    generalize chL n (lookH hp k) = l at hl hz hr ho hv ⊢
    subst hl
    exact (number15_any l hn hz f A c bn on cn ba oa ca h4 h3 w hr).mono fun e w' h => nuRs_ok H h
  · exact hv.elim
end Pr
end Go.Proofs.YtpkldfkmokeamaaGreatDoor
/-
Chapter 15: the reference's Number.
-/
set_option linter.unusedSimpArgs false
set_option linter.unusedVariables false
namespace Go.Proofs.YtpkldfkmokeamaaGreatDoor
namespace Pr
open Go Go.RowKit En
open Ex Rf
section
variable (l : List Nd) (A : Option Addr) (c : Nat) (f : Int) (K b d : Nat) (zs : List Value)
end
end Pr
end Go.Proofs.YtpkldfkmokeamaaGreatDoor
