/-
The engine: what is left to the prover: loops with an invariant, joins (for every seat).
-/
import Derived.Test.YtnpkmimbnjnicaaGreatDoorEa2
set_option linter.unusedSimpArgs false
set_option linter.unusedVariables false
namespace Go.Proofs.YtnpkmimbnjnicaaGreatDoor
namespace En
open Go Go.RowKit

def SLe (s s' : SS) : Prop := ∀ w0 O N a w, Holds w0 O N s a w → Holds w0 O N s' a w
def slLe (s : List (Nat × SV)) : List (Nat × SV) → Prop
  | [] => True
  | (t, x) :: l => (known (strip1 (look s t)) = true ∧ stripP1 (look s t) ∧ den (strip1 (look s t)) = den x) ∧ slLe s l
def chE : Ch → Ch → Prop
  | .blk b cs t, .blk b' cs' t' => b = b' ∧ dens cs = dens cs' ∧ t = t'
  | .rowV A c e z n cs, .rowV A' c' e' z' n' cs' => A = A' ∧ c = c' ∧ e = e' ∧ z = z' ∧ n = n' ∧ dens cs = dens cs'
  | .rawV A c z n cs, .rawV A' c' z' n' cs' => A = A' ∧ c = c' ∧ z = z' ∧ n = n' ∧ dens cs = dens cs'
  | c, c' => c = c'
def hpLe (hp : Hp) : Hp → List Nat → Prop
  | [], [] => True
  | (_, c) :: l, k :: r => chE (lookH hp k) c ∧ hpLe hp l r
  | _, _ => False
def nodN : List Nat → Bool
  | [] => true
  | x :: l => !memN l x && nodN l
section
theorem chE_hold {B : Nat} {w : World} {c c' : Ch} (h : chE c c') : (Hold B w c → Hold B w c') ∧ (∀ b, foot c' b → foot c b) ∧ (mutb c' = true → mutb c = true) := by
  unfold chE at h
  split at h
  · obtain ⟨rfl, e, rfl⟩ := h; exact ⟨fun h => ⟨h.1, by rw [← e]; exact h.2⟩, fun _ h => h, fun _ => rfl⟩
  · obtain ⟨rfl, rfl, rfl, rfl, rfl, e⟩ := h; exact ⟨fun h => by simp only [Hold] at h ⊢; rw [← e]; exact h, fun _ h => h, fun _ => rfl⟩
  · obtain ⟨rfl, rfl, rfl, rfl, e⟩ := h; exact ⟨fun h => by simp only [Hold] at h ⊢; rw [← e]; exact h, fun _ h => h, fun h => h⟩
  · subst h; exact ⟨id, fun _ => id, id⟩
theorem slLe_look {s l : List (Nat × SV)} (h : slLe s l) {t : Nat} (ht : look l t ≠ .un) : look s t ≠ .un ∧ den (look s t) = den (look l t) := by
  induction l with
  | nil => exact absurd rfl ht
  | cons x l ih =>
    obtain ⟨i, x⟩ := x
    obtain ⟨⟨h1, h2, h3⟩, h4⟩ := h
    simp only [look] at ht ⊢
    cases e : (i == t)
    · rw [e] at ht; exact ih h4 ht
    · have := eq_of_beq e; subst this
      exact ⟨known_un h1, by rw [← strip_den h2]; exact h3⟩
theorem hpLe_look {hp : Hp} : ∀ {l : Hp} {r : List Nat}, hpLe hp l r → ∀ k, lookH l k = .no ∨ ∃ j ∈ r, chE (lookH hp j) (lookH l k) ∧ (nodN r = true → ∀ k', k' ≠ k → lookH l k' = .no ∨ ∃ j' ∈ r, j' ≠ j ∧ chE (lookH hp j') (lookH l k')) := by
  intro l
  induction l with
  | nil => intro r _ k; exact .inl rfl
  | cons x l ih =>
    obtain ⟨i, c⟩ := x
    intro r h k
    cases r with
    | nil => exact h.elim
    | cons j0 r =>
      obtain ⟨h1, h2⟩ := h
      have all : ∀ {l : Hp} {r : List Nat}, hpLe hp l r → ∀ k', lookH l k' = .no ∨ ∃ j' ∈ r, chE (lookH hp j') (lookH l k') := by
        intro l
        induction l with
        | nil => intro r _ k'; exact .inl rfl
        | cons y l ihl =>
          obtain ⟨i', c'⟩ := y
          intro r h k'
          cases r with
          | nil => exact h.elim
          | cons j1 r =>
            simp only [lookH]
            cases i' == k'
            · exact (ihl h.2 k').imp id fun ⟨j, hj, e⟩ => ⟨j, List.mem_cons_of_mem _ hj, e⟩
            · exact .inr ⟨j1, List.mem_cons_self, h.1⟩
      simp only [lookH]
      cases e : (i == k)
      · simp only [cond_false]
        rcases ih h2 k with hn | ⟨j, hj, hc, hd⟩
        · exact .inl hn
        · refine .inr ⟨j, List.mem_cons_of_mem _ hj, hc, fun hnod k' hk' => ?_⟩
          simp only [nodN, Bool.and_eq_true, Bool.not_eq_true'] at hnod
          cases e2 : (i == k')
          · simp only [cond_false]
            exact (hd hnod.2 k' hk').imp id fun ⟨j', hj', hne, hc'⟩ => ⟨j', List.mem_cons_of_mem _ hj', hne, hc'⟩
          · simp only [cond_true]
            refine .inr ⟨j0, List.mem_cons_self, fun ej => ?_, h1⟩
            subst ej
            have := memN_iff.2 hj
            rw [hnod.1] at this; cases this
      · simp only [cond_true]
        refine .inr ⟨j0, List.mem_cons_self, h1, fun hnod k' hk' => ?_⟩
        simp only [nodN, Bool.and_eq_true, Bool.not_eq_true'] at hnod
        have : (i == k') = false := by
          have := eq_of_beq e
          subst this
          simp; exact fun h => hk' h.symm
        simp only [this, cond_false]
        refine (all h2 k').imp id fun ⟨j', hj', hc'⟩ => ⟨j', List.mem_cons_of_mem _ hj', fun ej => ?_, hc'⟩
        subst ej
        have := memN_iff.2 hj'
        rw [hnod.1] at this; cases this
theorem chE_no {c : Ch} (h : chE c .no) : c = .no := by cases c <;> first | rfl | cases h
theorem hh_ren {O : Nat → Prop} {w0 w : World} {hp hp' : Hp} {r : List Nat} (h : hpLe hp hp' r) (hn : nodN r = true) (H : HH w0 O hp w) : HH w0 O hp' w := by
  refine ⟨H.below, fun k b hb => ?_, fun k => ?_, fun k k' hne hm b hb hf => ?_⟩
  · rcases hpLe_look h k with e | ⟨j, _, hc, _⟩
    · rw [e] at hb; exact hb.elim
    · exact H.old j b ((chE_hold (B := 0) (w := w) hc).2.1 b hb)
  · rcases hpLe_look h k with e | ⟨j, _, hc, _⟩
    · rw [e]; trivial
    · exact (chE_hold hc).1 (H.hold j)
  · rcases hpLe_look h k with e | ⟨j, _, hc, hd⟩
    · rw [e] at hm; cases hm
    · rcases hd hn k' (Ne.symm hne) with e | ⟨j', _, hj, hc'⟩
      · rw [e] at hf; exact hf
      · exact H.sep j j' (Ne.symm hj) ((chE_hold (B := 0) (w := w) hc).2.2 hm) b ((chE_hold (B := 0) (w := w) hc).2.1 b hb) ((chE_hold (B := 0) (w := w) hc').2.1 b hf)
theorem has_lookH {l : Hp} {k : Nat} (h : has l k = false) : lookH l k = .no := by
  induction l with
  | nil => rfl
  | cons x l ih =>
    obtain ⟨i, c⟩ := x
    simp only [has] at h
    simp only [lookH]
    cases e : (i == k)
    · rw [e] at h; exact ih h
    · rw [e] at h; cases h
theorem sle_of (r : List Nat) {s s' : SS} (h1 : slLe s.sl s'.sl) (h2 : hpLe s.hp s'.hp r) (h3 : nodN r = true) (h4 : allLt s'.nx s'.hp) : SLe s s' := by
  intro w0 O N a w H
  refine ⟨H.defers, H.size, fun t ht => ?_, hh_ren h2 h3 H.hh, fun k hk => has_lookH (lookH_big h4 hk)⟩
  obtain ⟨h5, h6⟩ := slLe_look h1 ht
  rw [← h6]; exact H.slots t h5
theorem sle_all (r : List Nat) {s s' : SS} (h3 : nodN r = true) (h : slLe s.sl s'.sl ∧ hpLe s.hp s'.hp r ∧ allLt s'.nx s'.hp) : SLe s s' := sle_of r h.1 h.2.1 h3 h.2.2
variable {P : Program} {B : Exit → Act → World → Prop} {O : Nat → Prop} {w0 : World} {N : Nat} {T : TypeId → TI} {G : Gam} {F : SS → Prop} {U : List (Nat × Nat)} {V : VT}
structure Ctx (P : Program) (B : Exit → Act → World → Prop) (w0 : World) (O : Nat → Prop) (N : Nat) (T : TypeId → TI) (G : Gam) (F : SS → Prop) : Prop where
  hm : P.follows .mixedOrders = true
  hT : TyAll P T
  hG : GOk P G
  hF : ∀ s a w, F s → Holds w0 O N s a w → B .ret a w ∧ B .normal a w
theorem leaf_run (C : Ctx P B w0 O N T G F) {n : Nat} {k : List It} {s : SS} (h : run (Leaf P B w0 O N V) F T G U V n k s) : Leaf P B w0 O N V k s :=
  fun hk a w H => run_sound C.hm C.hT C.hG C.hF n k s hk h a w H
theorem leaf_le {k : List It} {s s' : SS} (h : SLe s s') (hl : Leaf P B w0 O N V k s') : Leaf P B w0 O N V k s := fun hk a w H => hl hk a w (h _ _ _ _ _ H)
theorem kpost_cut {J : SS → Prop} {k : List It} {e : Exit} {a : Act} {w : World} (h : kpost P B w0 O N (.cut J :: k) e a w) (hn : ∀ s, J s → Holds w0 O N s a w → kpost P B w0 O N k .normal a w) : kpost P B w0 O N k e a w := by
  cases e with
  | normal => obtain ⟨s, h1, h2⟩ := h; exact hn s h1 h2
  | _ => exact h
theorem leaf_inv {ι : Type} (I : ι → SS) (μ : ι → Nat) {c : Code} {k : List It} {s : SS} (i0 : ι) (h0 : SLe s (I i0))
    (round : ∀ i, Leaf P B w0 O N V (.code c :: .cut (fun s' => ∃ i', SLe s' (I i') ∧ μ i' < μ i) :: k) (I i)) : Leaf P B w0 O N V (.code (.loop c) :: k) s := by
  intro hk a w H
  simp only [okK, okC, Bool.and_eq_true] at hk
  have key : ∀ m i a w, μ i ≤ m → Holds w0 O N (I i) a w → Code.rounds P c (kpost P B w0 O N k) (m + 1) a w := by
    intro m
    induction m with
    | zero =>
      intro i a w hm H
      refine wp_mono (round i (by simp [okK, hk]) a w H) fun e a w h => ?_
      cases e with
      | normal => obtain ⟨s', ⟨i', _, hlt⟩, _⟩ := h; omega
      | _ => exact h
    | succ m ih =>
      intro i a w hm H
      refine wp_mono (round i (by simp [okK, hk]) a w H) fun e a w h => ?_
      cases e with
      | normal => obtain ⟨s', ⟨i', hle, hlt⟩, HS⟩ := h; exact ih i' a w (by omega) (hle _ _ _ _ _ HS)
      | _ => exact h
  show (Code.loop c).wp P (kpost P B w0 O N k) a w
  exact wp_loop_rounds _ (key _ i0 a w (Nat.le_refl _) (h0 _ _ _ _ _ H))
theorem leaf_join {ι : Type} (J : ι → SS) {c : Code} {k : List It} {s : SS} (h1 : Leaf P B w0 O N V (.code c :: .cut (fun s' => ∃ i, SLe s' (J i)) :: k) s) (h2 : ∀ i, Leaf P B w0 O N V k (J i)) : Leaf P B w0 O N V (.code c :: k) s := by
  intro hk a w H
  have hk' := hk
  simp only [okK, Bool.and_eq_true] at hk'
  refine wp_mono (h1 (by simp [okK, hk']) a w H) fun e a w h => kpost_cut h ?_
  rintro s' ⟨i, hle⟩ HS
  exact h2 i hk'.2 a w (hle _ _ _ _ _ HS)
theorem SLe.trans {s s' s'' : SS} (h : SLe s s') (k : SLe s' s'') : SLe s s'' := fun w0 O N a w H => k _ _ _ _ _ (h _ _ _ _ _ H)
theorem sle_hp {s : SS} {hp : Hp} (h : ∀ w0 O w, HH w0 O s.hp w → HH w0 O hp w) (hf : ∀ k, s.nx ≤ k → lookH s.hp k = .no → lookH hp k = .no) : SLe s ⟨s.sl, hp, s.nx⟩ :=
  fun w0 O N a w H => ⟨H.defers, H.size, H.slots, h _ _ _ H.hh, fun k hk => hf k hk (H.free k hk)⟩
theorem hh_deep {O : Nat → Prop} {w0 w : World} {hp : Hp} {kD kR n z i : Nat} {own : Bool} {A : Nat → Option Addr} {c m : Nat → Nat} {f : Nat → Nat → List SV} (hD : lookH hp kD = .deep own n z A c m f) (hi : i < n) (hm : mutb (lookH hp kR) = false) (hne : kR ≠ kD) (H : HH w0 O hp w) :
    HH w0 O ((kR, .recs (A i) (c i) z (m i) (f i)) :: hp) w := by
  have lk : ∀ j, lookH ((kR, Ch.recs (A i) (c i) z (m i) (f i)) :: hp) j = if kR = j then .recs (A i) (c i) z (m i) (f i) else lookH hp j := by
    intro j
    simp only [lookH]
    by_cases h : kR = j
    · simp [h]
    · have e : (kR == j) = false := by simpa using h
      rw [e, if_neg h]; rfl
  have hd := H.hold kD
  rw [hD] at hd
  have ft : ∀ b, foot (.recs (A i) (c i) z (m i) (f i)) b → foot (lookH hp kD) b := fun b hb => by rw [hD]; exact ⟨i, hi, hb.1, hb.2⟩
  refine ⟨H.below, fun k b hb => ?_, fun k => ?_, fun k j hkj hmk b hb => ?_⟩
  · rw [lk] at hb
    split at hb
    · exact H.old kD b (ft b hb)
    · exact H.old k b hb
  · rw [lk]
    split
    · exact (hd i hi).1
    · exact H.hold k
  · rw [lk] at hmk hb ⊢
    split at hmk
    · cases hmk
    · next h1 =>
      rw [if_neg h1] at hb
      split
      · intro hf
        have hkD : k ≠ kD := fun e => by subst e; rw [hD] at hmk; cases hmk
        exact H.sep k kD hkD hmk b hb (ft b hf)
      · exact H.sep k j hkj hmk b hb
def updF {α : Type} (f : Nat → α) (i : Nat) (x : α) : Nat → α := fun j => if j = i then x else f j
theorem hh_snoc {O : Nat → Prop} {w0 w : World} {hp : Hp} {kD kR n z i m' c' : Nat} {e : TypeId} {A' : Option Addr} {cs : List SV} {A : Nat → Option Addr} {c m : Nat → Nat} {f : Nat → Nat → List SV} (hD : lookH hp kD = .deep true n z A c m f) (hR : lookH hp kR = .rowV A' c' e z m' cs) (hi : i < n) (hl : cs.length = m' * z) (hne : kR ≠ kD) (H : HH w0 O hp w) :
    HH w0 O ((kD, .deep true n z (updF A i A') (updF c i c') (updF m i m') (updF f i fun r => cut cs (r * z) z)) :: (kR, .no) :: hp) w := by
  have lk : ∀ j, lookH ((kD, Ch.deep true n z (updF A i A') (updF c i c') (updF m i m') (updF f i fun r => cut cs (r * z) z)) :: (kR, .no) :: hp) j = if kD = j then Ch.deep true n z (updF A i A') (updF c i c') (updF m i m') (updF f i fun r => cut cs (r * z) z) else if kR = j then .no else lookH hp j := by
    intro j
    simp only [lookH]
    by_cases h : kD = j
    · simp [h]
    · have e : (kD == j) = false := by simpa using h
      rw [e, if_neg h]
      by_cases h2 : kR = j
      · simp [h2]
      · have e : (kR == j) = false := by simpa using h2
        rw [e, if_neg h2]; rfl
  have hd := H.hold kD
  rw [hD] at hd
  have hr := H.hold kR
  rw [hR] at hr
  have ft : ∀ b, foot (Ch.deep true n z (updF A i A') (updF c i c') (updF m i m') (updF f i fun r => cut cs (r * z) z)) b → foot (lookH hp kD) b ∨ foot (lookH hp kR) b := by
    rintro b ⟨j, hj, hm, ha⟩
    rw [hD, hR]
    by_cases e : j = i
    · subst e
      simp only [updF, if_true] at ha
      exact .inr ha
    · simp only [updF, if_neg e] at hm ha
      exact .inl ⟨j, hj, hm, ha⟩
  refine ⟨H.below, fun k b hb => ?_, fun k => ?_, fun k j hkj hmk b hb => ?_⟩
  · rw [lk] at hb
    split at hb
    · rcases ft b hb with h | h
      · exact H.old kD b h
      · exact H.old kR b h
    · split at hb
      · exact hb.elim
      · exact H.old k b hb
  · rw [lk]
    split
    · intro j hj
      by_cases e : j = i
      · subst e
        simp only [updF, if_true]
        refine ⟨⟨(row_sl hr).congr fun r hr' q hq => ?_, fun r hr' => ?_⟩, fun _ _ a ha => ?_⟩
        · have h1 : r * z + z ≤ m' * z := by rw [← Nat.succ_mul]; exact Nat.mul_le_mul_right z hr'
          rw [dens_cut, cut_eq, List.getD_eq_getElem?_getD, List.getD_eq_getElem?_getD, List.getElem?_take, if_pos hq, List.getElem?_drop]
        · have h1 : r * z + z ≤ m' * z := by rw [← Nat.succ_mul]; exact Nat.mul_le_mul_right z hr'
          rw [cut_eq]; simp; omega
        · exact (World.ownsRow.lt hr a.block (row_own ⟨a, ha, rfl⟩)).1
      · simpa only [updF, if_neg e] using hd j hj
    · split
      · trivial
      · exact H.hold k
  · rw [lk] at hmk hb ⊢
    split at hmk
    · cases hmk
    · next h1 =>
      rw [if_neg h1] at hb
      split at hmk
      · cases hmk
      · next h2 =>
        rw [if_neg h2] at hb
        have hkD : k ≠ kD := fun e => h1 e.symm
        have hkR : k ≠ kR := fun e => h2 e.symm
        split
        · intro hf
          rcases ft b hf with h | h
          · exact H.sep k kD hkD hmk b hb h
          · exact H.sep k kR hkR hmk b hb h
        · split
          · exact fun h => h
          · exact H.sep k j hkj hmk b hb
end
end En
end Go.Proofs.YtnpkmimbnjnicaaGreatDoor
