/-
The engine: a function's code by numbered nodes; what a run leans on behind names (for every seat).
-/
import Derived.Test.YtnpkmimbnjnicaaGreatDoorEa3
import Derived.Test.YtnpkmimbnjnicaaGreatDoorEnL
set_option linter.unusedSimpArgs false
set_option linter.unusedVariables false
namespace Go.Proofs.YtnpkmimbnjnicaaGreatDoor
namespace En
open Go Go.RowKit

inductive Vw where
  | skip
  | region (id : Nat) (ops : List Oper) (draw : Bool)
  | seq (i j : Nat)
  | cond (c : Operand) (i j : Nat)
  | block (id i : Nat)
  | exit (id : Nat)
  | ret
  | loop (i fst : Nat)
  | scope (i : Nat)
  | bad
def bare (o : Oper) : Oper := ⟨o.dst, o.op, 0, "", #[], o.guard⟩
def bndL : List Edge → List Edge
  | [] => []
  | e :: l => bif bnd e then e :: bndL l else bndL l
def bndB (b : Bool) (e : Edge) (l : List Edge) : List Edge := bif b then e :: bndL l else bndL l
def bareD (o : Oper) : Oper := ⟨o.dst, o.op, 0, "", (bndL o.after.toList).toArray, o.guard⟩
def bareL : List Oper → List Oper
  | [] => []
  | o :: l => bare o :: bareL l
def bareDL : List Oper → List Oper
  | [] => []
  | o :: l => bareD o :: bareDL l
def sz : Code → Nat
  | .seq a b => sz a + sz b + 1
  | .cond _ a b => sz a + sz b + 1
  | .block _ c => sz c + 1
  | .scope c => sz c + 1
  | .loop c => sz c + 1
  | _ => 1
def nodes : Code → List Code
  | .seq a b => .seq a b :: (nodes a ++ nodes b)
  | .cond c a b => .cond c a b :: (nodes a ++ nodes b)
  | .block id c => .block id c :: nodes c
  | .scope c => .scope c :: nodes c
  | .loop c => .loop c :: nodes c
  | c => [c]
def vw1 (i : Nat) : Code → Vw
  | .skip => .skip
  | .label _ => .skip
  | .region id ops d => .region id (bif d then bareDL ops.toList else bareL ops.toList) d
  | .seq a _ => .seq (i + 1) (i + 1 + sz a)
  | .cond c a _ => .cond c (i + 1) (i + 1 + sz a)
  | .block id _ => .block id (i + 1)
  | .scope _ => .scope (i + 1)
  | .exit id => .exit id
  | .ret => .ret
  | .loop c => .loop (i + 1) (firstR c)
  | _ => .bad
def vwL : Nat → Code → List Vw
  | i, .seq a b => vw1 i (.seq a b) :: (vwL (i + 1) a ++ vwL (i + 1 + sz a) b)
  | i, .cond c a b => vw1 i (.cond c a b) :: (vwL (i + 1) a ++ vwL (i + 1 + sz a) b)
  | i, .block id c => vw1 i (.block id c) :: vwL (i + 1) c
  | i, .scope c => vw1 i (.scope c) :: vwL (i + 1) c
  | i, .loop c => vw1 i (.loop c) :: vwL (i + 1) c
  | i, c => [vw1 i c]
def Named (va : Nat → Vw) : Nat → Code → Prop
  | i, .seq a b => va i = .seq (i + 1) (i + 1 + sz a) ∧ Named va (i + 1) a ∧ Named va (i + 1 + sz a) b
  | i, .cond c a b => va i = .cond c (i + 1) (i + 1 + sz a) ∧ Named va (i + 1) a ∧ Named va (i + 1 + sz a) b
  | i, .block id c => va i = .block id (i + 1) ∧ Named va (i + 1) c
  | i, .scope c => va i = .scope (i + 1) ∧ Named va (i + 1) c
  | i, .loop c => va i = .loop (i + 1) (firstR c) ∧ Named va (i + 1) c
  | i, .region id ops d => va i = .region id (bif d then bareDL ops.toList else bareL ops.toList) d
  | i, .skip => va i = .skip
  | i, .label _ => va i = .skip
  | i, .exit id => va i = .exit id
  | i, .ret => va i = .ret
  | i, _ => va i = .bad
def RelV (nd : Nat → Code) : Code → Vw → Prop
  | .skip, .skip => True
  | .label _, .skip => True
  | .region id ops d, .region id' ops' d' => id = id' ∧ d = d' ∧ ops' = (bif d then bareDL ops.toList else bareL ops.toList)
  | .seq a b, .seq i j => a = nd i ∧ b = nd j
  | .cond c a b, .cond c' i j => c = c' ∧ a = nd i ∧ b = nd j
  | .block id c, .block id' i => id = id' ∧ c = nd i
  | .exit id, .exit id' => id = id'
  | .ret, .ret => True
  | .loop c, .loop i f => c = nd i ∧ f = firstR c
  | .rangeFunc .., .bad => True
  | .scope c, .scope i => c = nd i
  | .goto _, .bad => True
  | .refuse .., .bad => True
  | _, _ => False
theorem nodes_len (c : Code) : (nodes c).length = sz c := by
  induction c <;> simp_all [nodes, sz]
theorem vwL_len (c : Code) : ∀ i, (vwL i c).length = sz c := by
  induction c <;> intro i <;> simp_all [vwL, sz]
theorem nodes_zero (c d : Code) : (nodes c).getD 0 d = c := by cases c <;> rfl
theorem sz_pos (c : Code) : 0 < sz c := by cases c <;> simp [sz]
theorem getD_app {α : Type} (l m : List α) (d : α) (j : Nat) : (l ++ m).getD j d = if j < l.length then l.getD j d else m.getD (j - l.length) d := by
  simp only [List.getD_eq_getElem?_getD, List.getElem?_append]
  split <;> rfl
theorem rel_nodes (nd : Nat → Code) (c : Code) : ∀ i, (∀ j, j < sz c → nd (i + j) = (nodes c).getD j .skip) → ∀ j, j < sz c → RelV nd (nd (i + j)) ((vwL i c).getD j .skip) := by
  have two : ∀ (a b : Code) (x : Code) (v : Vw) (i : Nat), (∀ i, (∀ j, j < sz a → nd (i + j) = (nodes a).getD j .skip) → ∀ j, j < sz a → RelV nd (nd (i + j)) ((vwL i a).getD j .skip)) →
      (∀ i, (∀ j, j < sz b → nd (i + j) = (nodes b).getD j .skip) → ∀ j, j < sz b → RelV nd (nd (i + j)) ((vwL i b).getD j .skip)) →
      (∀ j, j < sz a + sz b + 1 → nd (i + j) = (x :: (nodes a ++ nodes b)).getD j .skip) → (a = nd (i + 1) → b = nd (i + 1 + sz a) → RelV nd x v) →
      ∀ j, j < sz a + sz b + 1 → RelV nd (nd (i + j)) ((v :: (vwL (i + 1) a ++ vwL (i + 1 + sz a) b)).getD j .skip) := by
    intro a b x v i iha ihb h hx j hj
    have ha : ∀ j, j < sz a → nd (i + 1 + j) = (nodes a).getD j .skip := fun j hj => by
      have := h (j + 1) (by omega)
      rw [show i + (j + 1) = i + 1 + j by omega] at this
      rw [this, List.getD_cons_succ, getD_app, nodes_len, if_pos hj]
    have hb : ∀ j, j < sz b → nd (i + 1 + sz a + j) = (nodes b).getD j .skip := fun j hj => by
      have := h (sz a + j + 1) (by omega)
      rw [show i + (sz a + j + 1) = i + 1 + sz a + j by omega] at this
      rw [this, List.getD_cons_succ, getD_app, nodes_len, if_neg (by omega), show sz a + j - sz a = j by omega]
    cases j with
    | zero =>
      have h0 := h 0 hj
      rw [Nat.add_zero] at h0 ⊢
      rw [h0]
      refine hx ?_ ?_
      · have := ha 0 (sz_pos a); rw [nodes_zero, Nat.add_zero] at this; exact this.symm
      · have := hb 0 (sz_pos b); rw [nodes_zero, Nat.add_zero] at this; exact this.symm
    | succ j =>
      rw [List.getD_cons_succ, getD_app, vwL_len]
      by_cases hlt : j < sz a
      · rw [if_pos hlt, show i + (j + 1) = i + 1 + j by omega]
        exact iha (i + 1) ha j hlt
      · rw [if_neg hlt]
        have := ihb (i + 1 + sz a) hb (j - sz a) (by omega)
        rwa [show i + 1 + sz a + (j - sz a) = i + (j + 1) by omega] at this
  have one : ∀ (a : Code) (x : Code) (v : Vw) (i : Nat), (∀ i, (∀ j, j < sz a → nd (i + j) = (nodes a).getD j .skip) → ∀ j, j < sz a → RelV nd (nd (i + j)) ((vwL i a).getD j .skip)) →
      (∀ j, j < sz a + 1 → nd (i + j) = (x :: nodes a).getD j .skip) → (a = nd (i + 1) → RelV nd x v) →
      ∀ j, j < sz a + 1 → RelV nd (nd (i + j)) ((v :: vwL (i + 1) a).getD j .skip) := by
    intro a x v i iha h hx j hj
    have ha : ∀ j, j < sz a → nd (i + 1 + j) = (nodes a).getD j .skip := fun j hj => by
      have := h (j + 1) (by omega)
      rw [show i + (j + 1) = i + 1 + j by omega] at this
      rw [this, List.getD_cons_succ]
    cases j with
    | zero =>
      have h0 := h 0 hj
      rw [Nat.add_zero] at h0 ⊢
      rw [h0]
      refine hx ?_
      have := ha 0 (sz_pos a); rw [nodes_zero, Nat.add_zero] at this; exact this.symm
    | succ j =>
      rw [List.getD_cons_succ, show i + (j + 1) = i + 1 + j by omega]
      exact iha (i + 1) ha j (by omega)
  have leaf : ∀ (x : Code) (v : Vw) (i : Nat), (∀ j, j < 1 → nd (i + j) = [x].getD j .skip) → RelV nd x v → ∀ j, j < 1 → RelV nd (nd (i + j)) ([v].getD j .skip) := by
    intro x v i h hx j hj
    obtain rfl : j = 0 := by omega
    rw [h 0 hj]; exact hx
  induction c with
  | seq a b iha ihb => intro i h; exact two a b _ _ i iha ihb h fun h1 h2 => ⟨h1, h2⟩
  | cond c a b iha ihb => intro i h; exact two a b _ _ i iha ihb h fun h1 h2 => ⟨rfl, h1, h2⟩
  | block id c ih => intro i h; exact one c _ _ i ih h fun h1 => ⟨rfl, h1⟩
  | loop c ih => intro i h; exact one c _ _ i ih h fun h1 => ⟨h1, rfl⟩
  | region id ops d => intro i h; exact leaf _ _ i h ⟨rfl, rfl, rfl⟩
  | skip => intro i h; exact leaf _ _ i h trivial
  | label => intro i h; exact leaf _ _ i h trivial
  | exit => intro i h; exact leaf _ _ i h rfl
  | ret => intro i h; exact leaf _ _ i h trivial
  | rangeFunc f p a b => intro i h; exact leaf _ _ i h trivial
  | scope c ih => intro i h; exact one c _ _ i ih h fun h1 => h1
  | goto => intro i h; exact leaf _ _ i h trivial
  | refuse => intro i h; exact leaf _ _ i h trivial
theorem named_of (va : Nat → Vw) (c : Code) : ∀ i, (∀ j, j < sz c → va (i + j) = (vwL i c).getD j .skip) → Named va i c := by
  have head : ∀ (i n : Nat) (v : Vw) (l : List Vw), (∀ j, j < n + 1 → va (i + j) = (v :: l).getD j .skip) → va i = v := fun i n v l h => h 0 (by omega)
  induction c with
  | seq a b iha ihb =>
    intro i h
    refine ⟨head i _ _ _ h, iha _ fun j hj => ?_, ihb _ fun j hj => ?_⟩
    · have := h (j + 1) (by simp only [sz]; omega)
      rw [show i + (j + 1) = i + 1 + j by omega] at this
      rw [this, vwL, List.getD_cons_succ, getD_app, vwL_len, if_pos hj]
    · have := h (sz a + j + 1) (by simp only [sz]; omega)
      rw [show i + (sz a + j + 1) = i + 1 + sz a + j by omega] at this
      rw [this, vwL, List.getD_cons_succ, getD_app, vwL_len, if_neg (by omega), show sz a + j - sz a = j by omega]
  | cond c a b iha ihb =>
    intro i h
    refine ⟨head i _ _ _ h, iha _ fun j hj => ?_, ihb _ fun j hj => ?_⟩
    · have := h (j + 1) (by simp only [sz]; omega)
      rw [show i + (j + 1) = i + 1 + j by omega] at this
      rw [this, vwL, List.getD_cons_succ, getD_app, vwL_len, if_pos hj]
    · have := h (sz a + j + 1) (by simp only [sz]; omega)
      rw [show i + (sz a + j + 1) = i + 1 + sz a + j by omega] at this
      rw [this, vwL, List.getD_cons_succ, getD_app, vwL_len, if_neg (by omega), show sz a + j - sz a = j by omega]
  | block id c ih =>
    intro i h
    refine ⟨head i _ _ _ h, ih _ fun j hj => ?_⟩
    have := h (j + 1) (by simp only [sz]; omega)
    rw [show i + (j + 1) = i + 1 + j by omega] at this
    rw [this, vwL, List.getD_cons_succ]
  | scope c ih =>
    intro i h
    refine ⟨head i _ _ _ h, ih _ fun j hj => ?_⟩
    have := h (j + 1) (by simp only [sz]; omega)
    rw [show i + (j + 1) = i + 1 + j by omega] at this
    rw [this, vwL, List.getD_cons_succ]
  | loop c ih =>
    intro i h
    refine ⟨head i _ _ _ h, ih _ fun j hj => ?_⟩
    have := h (j + 1) (by simp only [sz]; omega)
    rw [show i + (j + 1) = i + 1 + j by omega] at this
    rw [this, vwL, List.getD_cons_succ]
  | _ => intro i h; exact h 0 (by simp only [sz]; omega)
def stV (R : List It → SS → Prop) (L : List It → SS → Prop) (F : SS → Prop) (T : TypeId → TI) (G : Gam) (U : List (Nat × Nat)) (V : VT) (nd : Nat → Code) (k : List It) (s : SS) : Vw → Prop
  | .skip => R k s
  | .region id ops draw => bif draw then stG R T G ops ⟨fltS (lookN U cutK) s.sl, s.hp, s.nx⟩ k (lookV V id) else R (.ops ops ops :: k) ⟨fltS (lookN U cutK) s.sl, s.hp, s.nx⟩
  | .seq i j => R (.code (nd i) :: .code (nd j) :: k) s
  | .cond c i j => stIf R (nd i) (nd j) k s (evalS s.sl c)
  | .block id i => R (.code (nd i) :: .blk id :: k) s
  | .scope i => R (.code (nd i) :: .scp :: k) s
  | .exit id => R (skipTo id k) s
  | .ret => F s
  | .loop i f => stU R L k s (nd i) (lookN U f)
  | .bad => False
section
variable {L : List It → SS → Prop} {F : SS → Prop} {T : TypeId → TI} {G : Gam} {U : List (Nat × Nat)} {V : VT} {R : List It → SS → Prop}
theorem dstAt_bare (l : List Oper) : ∀ n, dstAt (bareL l) n = dstAt l n := by
  induction l with
  | nil => intro n; cases n <;> rfl
  | cons o l ih => intro n; cases n with
    | zero => rfl
    | succ n => exact ih n
theorem dstAt_bareD (l : List Oper) : ∀ n, dstAt (bareDL l) n = dstAt l n := by
  induction l with
  | nil => intro n; cases n <;> rfl
  | cons o l ih => intro n; cases n with
    | zero => rfl
    | succ n => exact ih n
theorem guardV_eq {all all' : List Oper} (h : ∀ n, dstAt all' n = dstAt all n) (sl : List (Nat × SV)) (g : Option (Nat × Bool)) : guardV all' sl g = guardV all sl g := by
  cases g with
  | none => rfl
  | some p => obtain ⟨j, w⟩ := p; simp only [guardV, h]
theorem opR_eq {all all' : List Oper} (h : ∀ n, dstAt all' n = dstAt all n) {H : Nat → Ch} {nx : Nat} {sl : List (Nat × SV)} {o o' : Oper} (e1 : o'.op = o.op) (e2 : o'.guard = o.guard) : opR T G all' H nx sl o' = opR T G all H nx sl o := by
  unfold opR
  rw [e1, e2, guardV_eq h]
theorem ops_bare (all : List Oper) (l : List Oper) : ∀ (n : Nat) (k : List It) (s : SS), run L F T G U V n (.ops (bareL all) (bareL l) :: k) s = run L F T G U V n (.ops all l :: k) s := by
  induction l with
  | nil => intro n k s; cases n <;> rfl
  | cons o l ih =>
    intro n k s
    cases n with
    | zero => rfl
    | succ n =>
      show stR (run L F T G U V n) o.dst (.ops (bareL all) (bareL l) :: k) s (opR T G (bareL all) (lookH s.hp) s.nx s.sl (bare o)) = stR (run L F T G U V n) o.dst (.ops all l :: k) s (opR T G all (lookH s.hp) s.nx s.sl o)
      rw [opR_eq (dstAt_bare all) (o := o) (o' := bare o) rfl rfl]
      cases opR T G all (lookH s.hp) s.nx s.sl o <;> simp only [stR, ih]
theorem mpOf_bnd (l : List Edge) (E : List Ent) : mpOf (bndL l) E = mpOf l E := by
  induction l with
  | nil => rfl
  | cons e l ih =>
    simp only [bndL]
    cases hb : bnd e <;> simp only [cond_true, cond_false, mpOf, hb, ih]
theorem rgn_bare {X : XT} {Y : YT} {all : List Oper} {s : SS} {k : List It} (l : List Oper) : ∀ (i : Nat) (E : List Ent) (sl : List (Nat × SV)), rgn R T G X Y (bareDL all) s k (bareDL l) i E sl = rgn R T G X Y all s k l i E sl := by
  induction l with
  | nil => intro i E sl; rfl
  | cons o l ih =>
    intro i E sl
    simp only [bareDL, rgn]
    have e : (bareD o).after.toList = bndL o.after.toList := by simp [bareD]
    rw [e, mpOf_bnd, show rgn R T G X Y (bareDL all) s k (bareDL l) (i + 1) = rgn R T G X Y all s k l (i + 1) from funext fun E => funext fun sl => ih _ E sl]
    unfold stE
    rw [opR_eq (dstAt_bareD all) (o := o) (o' := bareD o) rfl rfl]
    rfl
theorem stG_bare {l : List Oper} {s : SS} {k : List It} {XY : XT × YT} : stG R T G (bareDL l) s k XY = stG R T G l s k XY := by
  obtain ⟨X, Y⟩ := XY
  exact rgn_bare l 0 [] s.sl
theorem step_eq {nd : Nat → Code} {c : Code} {v : Vw} (h : RelV nd c v) (n : Nat) (k : List It) (s : SS) : run L F T G U V (n + 1) (.code c :: k) s = stV (run L F T G U V n) L F T G U V nd k s v := by
  show stC (run L F T G U V n) L F T G U V k s c = _
  unfold RelV at h
  split at h <;> try exact h.elim
  · rfl
  · rfl
  · next id ops d id' ops' d' =>
    obtain ⟨rfl, rfl, rfl⟩ := h
    cases d
    · exact (ops_bare ops.toList ops.toList n k _).symm
    · exact stG_bare.symm
  · obtain ⟨rfl, rfl⟩ := h; rfl
  · obtain ⟨rfl, rfl, rfl⟩ := h; rfl
  · obtain ⟨rfl, rfl⟩ := h; rfl
  · obtain rfl := h; rfl
  · rfl
  · obtain ⟨rfl, rfl⟩ := h; rfl
  · rfl
  · obtain rfl := h; rfl
  · rfl
  · rfl
end
theorem tyAll_p {P : Program} {l : List (TypeId × TI)} {p : TypeId × TI} (h : TyOk P p.1 p.2) (hl : TyAll P (lookT l)) : TyAll P (lookT (p :: l)) := tyAll_cons h hl
def SpIs (P : Program) (f : FuncId) (args : List SV) : Res → Prop
  | .is vc v => vc → ∀ w, Calls P f (dens args).toArray w fun e w' => e = .returned (den v) ∧ Below w.heap.size w w'
  | .bad => True
  | _ => False
theorem specOk_is {P : Program} {f : FuncId} {sp : Spc} (h : ∀ args H nx, SpIs P f args (sp args H nx)) : SpecOk P f sp := by
  intro args hp nx w0 O w H hv
  have := h args (lookH hp) nx
  generalize sp args (lookH hp) nx = r at hv this
  cases r with
  | is vc v =>
    refine (this hv w).mono ?_
    rintro e w' ⟨rfl, hb⟩
    exact ⟨⟨0, none, 0, none, 0, mz⟩, rfl, .still hb⟩
  | bad => exact hv.elim
  | _ => exact this.elim
def AllT (T : TypeId → TI) : List (TypeId × TI) → Prop
  | [] => True
  | (t, x) :: l => T t = x ∧ AllT T l
def lookG : List (FuncId × Spc) → Gam
  | [], f => gnil f
  | (g, sp) :: l, f => bif g == f then sp else lookG l f
def AllG (G : Gam) : List (FuncId × Spc) → Prop
  | [] => True
  | (f, sp) :: l => G f = sp ∧ AllG G l
def newK : List Nat → Bool
  | [] => true
  | x :: l => !memN l x && newK l
theorem allT_of {T : TypeId → TI} {l : List (TypeId × TI)} (h : ∀ t x, (t, x) ∈ l → T t = x) : AllT T l := by
  induction l with
  | nil => trivial
  | cons p l ih => obtain ⟨t, x⟩ := p; exact ⟨h t x (by simp), ih fun t x hx => h t x (by simp [hx])⟩
theorem lookT_at {l : List (TypeId × TI)} (h : newK (l.map (·.1)) = true) {t : TypeId} {x : TI} (hx : (t, x) ∈ l) : lookT l t = x := by
  induction l with
  | nil => cases hx
  | cons p l ih =>
    obtain ⟨u, y⟩ := p
    simp only [List.map_cons, newK, Bool.and_eq_true, Bool.not_eq_true'] at h
    simp only [lookT]
    rcases List.mem_cons.1 hx with e | hx
    · cases e; simp
    · have : (u == t) = false := by
        cases e : (u == t)
        · rfl
        · have := eq_of_beq e; subst this
          have : memN (l.map (·.1)) u = true := memN_iff.2 (List.mem_map.2 ⟨_, hx, rfl⟩)
          rw [h.1] at this; cases this
      rw [this]; exact ih h.2 hx
theorem allG_of {G : Gam} {l : List (FuncId × Spc)} (h : ∀ f sp, (f, sp) ∈ l → G f = sp) : AllG G l := by
  induction l with
  | nil => trivial
  | cons p l ih => obtain ⟨t, x⟩ := p; exact ⟨h t x (by simp), ih fun t x hx => h t x (by simp [hx])⟩
theorem lookG_at {l : List (FuncId × Spc)} (h : newK (l.map (·.1)) = true) {t : FuncId} {x : Spc} (hx : (t, x) ∈ l) : lookG l t = x := by
  induction l with
  | nil => cases hx
  | cons p l ih =>
    obtain ⟨u, y⟩ := p
    simp only [List.map_cons, newK, Bool.and_eq_true, Bool.not_eq_true'] at h
    simp only [lookG]
    rcases List.mem_cons.1 hx with e | hx
    · cases e; simp
    · have : (u == t) = false := by
        cases e : (u == t)
        · rfl
        · have := eq_of_beq e; subst this
          have : memN (l.map (·.1)) u = true := memN_iff.2 (List.mem_map.2 ⟨_, hx, rfl⟩)
          rw [h.1] at this; cases this
      rw [this]; exact ih h.2 hx
theorem lookG_cons {f : FuncId} {sp : Spc} {l : List (FuncId × Spc)} : lookG ((f, sp) :: l) = gcons f sp (lookG l) := by
  funext g args H nx
  simp only [lookG, gcons]
  cases f == g <;> rfl
theorem lG_nil {P : Program} : GOk P (lookG []) := by
  have : lookG [] = gnil := rfl
  rw [this]; exact gOk_nil
theorem lG_cons {P : Program} {f : FuncId} {sp : Spc} {l : List (FuncId × Spc)} (hg : isGo P f = true) (hs : SpecOk P f sp) (hl : GOk P (lookG l)) : GOk P (lookG ((f, sp) :: l)) := by
  rw [lookG_cons]; exact gOk_cons hg hs hl
section
variable {P : Program} {O : Nat → Prop} {w : World}
structure Env (Lf L : List It → SS → Prop) (F0 F : SS → Prop) (T : TypeId → TI) (G : Gam) (U : List (Nat × Nat)) (V : VT) (nd : Nat → Code) (va : Nat → Vw) (tl : List (TypeId × TI)) (gl : List (FuncId × Spc)) (c : Code) : Prop where
  hL : ∀ k s, Lf k s → L k s
  hF : ∀ s, F s = F0 s
  hs : ∀ n i k s, run L F T G U V (n + 1) (.code (nd i) :: k) s = stV (run L F T G U V n) L F T G U V nd k s (va i)
  hv : Named va 0 c
  hT : AllT T tl
  hG : AllG G gl
  hR : ∀ n k s, run L F T G U V n k s → L k s
  hI : ∀ (ι : Type) (I : ι → SS) (μ : ι → Nat) (c : Code) (k : List It) (s : SS) (i0 : ι), SLe s (I i0) → (∀ i, L (.code c :: .cut (fun s' => ∃ i', SLe s' (I i') ∧ μ i' < μ i) :: k) (I i)) → L (.code (.loop c) :: k) s
  hJ : ∀ (ι : Type) (J : ι → SS) (c : Code) (k : List It) (s : SS), L (.code c :: .cut (fun s' => ∃ i, SLe s' (J i)) :: k) s → (∀ i, L k (J i)) → L (.code c :: k) s
  hW : ∀ k s s', SLe s s' → L k s' → L k s
theorem calls_go_at {w0 : World} {f : FuncId} {fn : Func} {c : Code} {args : List SV} {hp : Hp} {nx n : Nat} {U : List (Nat × Nat)} {V : VT} {R : Ending → World → Prop} {post : SS → List SV → Prop} {tl : List (TypeId × TI)} {gl : List (FuncId × Spc)}
    (hm : P.follows .mixedOrders = true) (hT : TyAll P (lookT tl)) (hG : GOk P (lookG gl)) (hf : P.funcs[f]? = some fn) (hb : fn.body = some c) (hok : okC V fn.ntmps c = true) (hn : args.length ≤ fn.ntmps) (hkt : newK (tl.map (·.1)) = true) (hkg : newK (gl.map (·.1)) = true)
    (H : HH w0 O hp w) (hfree : ∀ k, nx ≤ k → lookH hp k = .no)
    (hpost : ∀ s xs w', post s xs → HH w0 O s.hp w' → R (.returned (oneV xs)) w')
    (h : ∀ (L : List It → SS → Prop) (F : SS → Prop) (T : TypeId → TI) (G : Gam) (nd : Nat → Code) (va : Nat → Vw), Env (Leaf P (bodyPost P fn R) w0 O fn.ntmps V) L (fun s => retL T s post fn.results.toList []) F T G U V nd va tl gl c →
      run L F T G U V n [.code (nd 0)] ⟨slots 0 args, hp, nx⟩) : Calls P f (dens args).toArray w R := by
  refine calls_run_at (T := lookT tl) (G := lookG gl) (U := U) (V := V) (n := n) (nx := nx) hm hT hG hf hb hok hn H hfree hpost ?_
  have C : Ctx P (bodyPost P fn R) w0 O fn.ntmps (lookT tl) (lookG gl) (fun s => retL (lookT tl) s post fn.results.toList []) := ⟨hm, hT, hG, fun s a w' hF HS => by
    obtain ⟨xs, h1, h2⟩ := results_run hT HS hF
    exact ⟨⟨HS.defers, _, h1, hpost s xs w' h2 HS.hh⟩, ⟨HS.defers, _, h1, hpost s xs w' h2 HS.hh⟩⟩⟩
  have h1 : ∀ j, j < sz c → (fun i => (nodes c).getD i .skip) (0 + j) = (nodes c).getD j .skip := fun j _ => by simp
  have h2 : ∀ j, j < sz c → (fun i => (vwL 0 c).getD i .skip) (0 + j) = (vwL 0 c).getD j .skip := fun j _ => by simp
  have := h (Leaf P (bodyPost P fn R) w0 O fn.ntmps V) (fun s => retL (lookT tl) s post fn.results.toList []) (lookT tl) (lookG gl) (fun i => (nodes c).getD i .skip) (fun i => (vwL 0 c).getD i .skip)
    ⟨fun _ _ h => h, fun _ => rfl, fun n i k s => ?_, named_of _ c 0 h2, allT_of fun t x hx => lookT_at hkt hx, allG_of fun f sp hx => lookG_at hkg hx,
      fun n k s h => leaf_run C h, fun ι I μ c k s i0 h0 h => leaf_inv I μ i0 h0 h, fun ι J c k s h1 h2 => leaf_join J h1 h2, fun k s s' h1 h2 => leaf_le h1 h2⟩
  · rwa [nodes_zero] at this
  · refine step_eq ?_ n k s
    by_cases hi : i < sz c
    · have := rel_nodes (fun i => (nodes c).getD i .skip) c 0 h1 i hi
      rwa [Nat.zero_add] at this
    · have e1 : (nodes c).getD i .skip = .skip := by rw [List.getD_eq_getElem?_getD, List.getElem?_eq_none (by rw [nodes_len]; omega)]; rfl
      have e2 : (vwL 0 c).getD i .skip = .skip := by rw [List.getD_eq_getElem?_getD, List.getElem?_eq_none (by rw [vwL_len]; omega)]; rfl
      show RelV _ ((nodes c).getD i .skip) ((vwL 0 c).getD i .skip)
      rw [e1, e2]; trivial
theorem calls_go {f : FuncId} {fn : Func} {c : Code} {args : List SV} {hp : Hp} {nx n : Nat} {U : List (Nat × Nat)} {V : VT} {R : Ending → World → Prop} {post : SS → List SV → Prop} {tl : List (TypeId × TI)} {gl : List (FuncId × Spc)}
    (hm : P.follows .mixedOrders = true) (hT : TyAll P (lookT tl)) (hG : GOk P (lookG gl)) (hf : P.funcs[f]? = some fn) (hb : fn.body = some c) (hok : okC V fn.ntmps c = true) (hn : args.length ≤ fn.ntmps) (hkt : newK (tl.map (·.1)) = true) (hkg : newK (gl.map (·.1)) = true)
    (H : HH w O hp w) (hfree : ∀ k, nx ≤ k → lookH hp k = .no)
    (hpost : ∀ s xs w', post s xs → HH w O s.hp w' → R (.returned (oneV xs)) w')
    (h : ∀ (L : List It → SS → Prop) (F : SS → Prop) (T : TypeId → TI) (G : Gam) (nd : Nat → Code) (va : Nat → Vw), Env (Leaf P (bodyPost P fn R) w O fn.ntmps V) L (fun s => retL T s post fn.results.toList []) F T G U V nd va tl gl c →
      run L F T G U V n [.code (nd 0)] ⟨slots 0 args, hp, nx⟩) : Calls P f (dens args).toArray w R :=
  calls_go_at hm hT hG hf hb hok hn hkt hkg H hfree hpost h
end
section
variable {L : List It → SS → Prop} {F : SS → Prop} {T : TypeId → TI} {G : Gam} {U : List (Nat × Nat)} {V : VT} {R : List It → SS → Prop} {nd : Nat → Code} {va : Nat → Vw} {k : List It} {s : SS} {id i j : Nat} {c : Operand} {ops : List Oper} {sl : List (Nat × SV)} {hp : Hp} {nx : Nat}
theorem v_skip : stV R L F T G U V nd k s .skip = R k s := (rfl)
theorem v_rgnF : stV R L F T G U V nd k ⟨sl, hp, nx⟩ (.region id ops false) = R (.ops ops ops :: k) ⟨fltS (lookN U cutK) sl, hp, nx⟩ := (rfl)
theorem v_rgnT : stV R L F T G U V nd k ⟨sl, hp, nx⟩ (.region id ops true) = stG R T G ops ⟨fltS (lookN U cutK) sl, hp, nx⟩ k (lookV V id) := (rfl)
theorem v_seq : stV R L F T G U V nd k s (.seq i j) = R (.code (nd i) :: .code (nd j) :: k) s := (rfl)
theorem v_cond : stV R L F T G U V nd k ⟨sl, hp, nx⟩ (.cond c i j) = stIf R (nd i) (nd j) k ⟨sl, hp, nx⟩ (evalS sl c) := (rfl)
theorem v_block : stV R L F T G U V nd k s (.block id i) = R (.code (nd i) :: .blk id :: k) s := (rfl)
theorem v_scope : stV R L F T G U V nd k s (.scope i) = R (.code (nd i) :: .scp :: k) s := (rfl)
theorem v_exit : stV R L F T G U V nd k s (.exit id) = R (skipTo id k) s := (rfl)
theorem v_ret : stV R L F T G U V nd k s .ret = F s := (rfl)
theorem v_loop : stV R L F T G U V nd k s (.loop i j) = stU R L k s (nd i) (lookN U j) := (rfl)
theorem n_seq {a b : Code} : Named va i (.seq a b) = (va i = .seq (i + 1) (i + 1 + sz a) ∧ Named va (i + 1) a ∧ Named va (i + 1 + sz a) b) := (rfl)
theorem n_cond {a b : Code} : Named va i (.cond c a b) = (va i = .cond c (i + 1) (i + 1 + sz a) ∧ Named va (i + 1) a ∧ Named va (i + 1 + sz a) b) := (rfl)
theorem n_block {a : Code} : Named va i (.block id a) = (va i = .block id (i + 1) ∧ Named va (i + 1) a) := (rfl)
theorem n_scope {a : Code} : Named va i (.scope a) = (va i = .scope (i + 1) ∧ Named va (i + 1) a) := (rfl)
theorem n_loop {a : Code} : Named va i (.loop a) = (va i = .loop (i + 1) (firstR a) ∧ Named va (i + 1) a) := (rfl)
theorem n_rgnF {l : List Oper} : Named va i (.region id l.toArray false) = (va i = .region id (bareL l) false) := by simp [Named]
theorem n_rgnT {l : List Oper} : Named va i (.region id l.toArray true) = (va i = .region id (bareDL l) true) := by simp [Named]
theorem n_skip : Named va i .skip = (va i = .skip) := (rfl)
theorem n_label {l : Nat} : Named va i (.label l) = (va i = .skip) := (rfl)
theorem n_exit : Named va i (.exit id) = (va i = .exit id) := (rfl)
theorem n_ret : Named va i .ret = (va i = .ret) := (rfl)
theorem z_seq {a b : Code} : sz (.seq a b) = sz a + sz b + 1 := (rfl)
theorem z_cond {a b : Code} : sz (.cond c a b) = sz a + sz b + 1 := (rfl)
theorem z_block {a : Code} : sz (.block id a) = sz a + 1 := (rfl)
theorem z_scope {a : Code} : sz (.scope a) = sz a + 1 := (rfl)
theorem z_loop {a : Code} : sz (.loop a) = sz a + 1 := (rfl)
theorem z_rgn {l : Array Oper} {d : Bool} : sz (.region id l d) = 1 := (rfl)
theorem z_skip : sz .skip = 1 := (rfl)
theorem z_label {l : Nat} : sz (.label l) = 1 := (rfl)
theorem z_exit : sz (.exit id) = 1 := (rfl)
theorem z_ret : sz .ret = 1 := (rfl)
theorem b_nil : bareL [] = [] := (rfl)
theorem b_cons {d : Option Tmp} {op : Op} {t : TypeId} {p : String} {e : Array Edge} {g : Option (Nat × Bool)} {l : List Oper} : bareL (⟨d, op, t, p, e, g⟩ :: l) = ⟨d, op, 0, "", #[], g⟩ :: bareL l := (rfl)
theorem bD_nil : bareDL [] = [] := (rfl)
theorem bD_cons {d : Option Tmp} {op : Op} {t : TypeId} {p : String} {e : List Edge} {g : Option (Nat × Bool)} {l : List Oper} : bareDL (⟨d, op, t, p, e.toArray, g⟩ :: l) = ⟨d, op, 0, "", (bndL e).toArray, g⟩ :: bareDL l := by simp [bareDL, bareD]
theorem bn_nil : bndL [] = [] := (rfl)
theorem bn_cons {e : Edge} {l : List Edge} : bndL (e :: l) = bndB (bnd e) e l := by cases h : bnd e <;> simp [bndL, bndB, h]
theorem bn_t {e : Edge} {l : List Edge} : bndB true e l = e :: bndL l := (rfl)
theorem bn_f {e : Edge} {l : List Edge} : bndB false e l = bndL l := (rfl)
theorem at_nil : AllT T [] = True := (rfl)
theorem at_cons {t : TypeId} {x : TI} {l : List (TypeId × TI)} : AllT T ((t, x) :: l) = (T t = x ∧ AllT T l) := (rfl)
theorem ag_nil : AllG G [] = True := (rfl)
theorem ag_cons {f : FuncId} {sp : Spc} {l : List (FuncId × Spc)} : AllG G ((f, sp) :: l) = (G f = sp ∧ AllG G l) := (rfl)
end
theorem vV : (((type_of% @v_skip) ∧ (type_of% @v_rgnF)) ∧ ((type_of% @v_rgnT) ∧ ((type_of% @v_seq) ∧ (type_of% @v_cond)))) ∧ (((type_of% @v_block) ∧ (type_of% @v_scope)) ∧ ((type_of% @v_exit) ∧ ((type_of% @v_ret) ∧ (type_of% @v_loop)))) := ⟨⟨⟨@v_skip, @v_rgnF⟩, ⟨@v_rgnT, ⟨@v_seq, @v_cond⟩⟩⟩, ⟨⟨@v_block, @v_scope⟩, ⟨@v_exit, ⟨@v_ret, @v_loop⟩⟩⟩⟩
theorem nN : ((((type_of% @n_seq) ∧ ((type_of% @n_cond) ∧ (type_of% @n_block))) ∧ (((type_of% @n_scope) ∧ (type_of% @n_loop)) ∧ ((type_of% @n_rgnF) ∧ (type_of% @n_rgnT)))) ∧ (((type_of% @n_skip) ∧ ((type_of% @n_label) ∧ (type_of% @n_exit))) ∧ (((type_of% @n_ret) ∧ (type_of% @z_seq)) ∧ ((type_of% @z_cond) ∧ (type_of% @z_block))))) ∧ ((((type_of% @z_scope) ∧ ((type_of% @z_loop) ∧ (type_of% @z_rgn))) ∧ (((type_of% @z_skip) ∧ (type_of% @z_label)) ∧ ((type_of% @z_exit) ∧ (type_of% @z_ret)))) ∧ ((((type_of% @b_nil) ∧ (type_of% @b_cons)) ∧ ((type_of% @bD_nil) ∧ (type_of% @bD_cons))) ∧ (((type_of% @bn_nil) ∧ (type_of% @bn_cons)) ∧ ((type_of% @bn_t) ∧ (type_of% @bn_f))))) := ⟨⟨⟨⟨@n_seq, ⟨@n_cond, @n_block⟩⟩, ⟨⟨@n_scope, @n_loop⟩, ⟨@n_rgnF, @n_rgnT⟩⟩⟩, ⟨⟨@n_skip, ⟨@n_label, @n_exit⟩⟩, ⟨⟨@n_ret, @z_seq⟩, ⟨@z_cond, @z_block⟩⟩⟩⟩, ⟨⟨⟨@z_scope, ⟨@z_loop, @z_rgn⟩⟩, ⟨⟨@z_skip, @z_label⟩, ⟨@z_exit, @z_ret⟩⟩⟩, ⟨⟨⟨@b_nil, @b_cons⟩, ⟨@bD_nil, @bD_cons⟩⟩, ⟨⟨@bn_nil, @bn_cons⟩, ⟨@bn_t, @bn_f⟩⟩⟩⟩⟩
end En
end Go.Proofs.YtnpkmimbnjnicaaGreatDoor
