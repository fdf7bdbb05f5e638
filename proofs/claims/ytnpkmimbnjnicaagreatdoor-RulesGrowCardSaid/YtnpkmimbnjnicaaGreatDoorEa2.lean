/-
The engine: regions that draw their order (for every seat).
-/
import Derived.Test.YtnpkmimbnjnicaaGreatDoorEa1
import Derived.Tactics
import Derived.LoopN
import Derived.Scope
set_option linter.unusedSimpArgs false
set_option linter.unusedVariables false
namespace Go.Proofs.YtnpkmimbnjnicaaGreatDoor
namespace En
open Go Go.RowKit

structure Ent where
  i : Nat
  dst : Option Tmp
  x : SV
  ups : Hp
  mp : Nat
def memN : List Nat → Nat → Bool
  | [], _ => false
  | x :: l, n => bif x == n then true else memN l n
def uni : List Nat → List Nat → List Nat
  | [], m => m
  | x :: l, m => bif memN m x then uni l m else x :: uni l m
def consS (d : Option Tmp) (x : SV) (s : List (Nat × SV)) : List (Nat × SV) :=
  match d with
  | some d => (d, x) :: s
  | none => s
def slOf : List Ent → List (Nat × SV) → List (Nat × SV)
  | [], s => s
  | e :: l, s => consS e.dst e.x (slOf l s)
def bitN (m i : Nat) : Bool := Nat.testBit m i
def visH (mp : Nat) : List Ent → Hp → Hp
  | [], h => h
  | e :: l, h => bif bitN mp e.i then app e.ups (visH mp l h) else visH mp l h
def allH : List Ent → Hp → Hp
  | [], h => h
  | e :: l, h => app e.ups (allH l h)
def consE (i : Nat) : Hp → Nat → Nat
  | [], mp => mp
  | _ :: _, mp => mp ||| 1 <<< i
def mpE : List Ent → Nat → Nat
  | [], _ => 0
  | e :: l, j => bif e.i == j then consE e.i e.ups e.mp else mpE l j
def bnd (e : Edge) : Bool := Region.binds .any e
def mpOf : List Edge → List Ent → Nat
  | [], _ => 0
  | e :: l, E => bif bnd e then mpE E e.on ||| mpOf l E else mpOf l E
abbrev XT := List (Nat × Nat)
abbrev YT := List (Nat × List Nat)
def lookX : XT → Nat → Option Nat
  | [], _ => none
  | (t, x) :: l, u => bif t == u then some x else lookX l u
def lookY : YT → Nat → List Nat
  | [], _ => []
  | (t, x) :: l, u => bif t == u then x else lookY l u
def hideH : List Nat → Hp → Hp
  | [], h => h
  | k :: l, h => (k, .no) :: hideH l h
def touch : Op → Bool
  | .load _ _ | .store _ _ _ | .indexAddr _ _ _ | .slice _ _ _ _ _ | .next _ _ | .lookup _ _ _ _ | .mapUpdate _ _ _ _ | .convert _ _ _ => true
  | .call c => (match c.callee with | .builtin .len | .builtin .max | .builtin .min => false | _ => true)
  | _ => false
def mayW : Op → Bool
  | .store _ _ _ | .next _ _ | .mapUpdate _ _ _ _ => true
  | .call c => (match c.callee with | .builtin .append => true | .builtin .copy => true | _ => false)
  | _ => false
def viewH (op : Op) (hd : List Nat) (mp : Nat) (E : List Ent) (hp0 : Hp) : Hp := bif touch op then hideH hd (visH mp E hp0) else []
def resOf (T : TypeId → TI) (G : Gam) (Y : YT) (all : List Oper) (s0 : SS) (i : Nat) (o : Oper) (E : List Ent) : Res :=
  opR T G all (lookH (viewH o.op (lookY Y i) (mpOf o.after.toList E) E s0.hp)) (s0.nx + 512 * i) (slOf E s0.sl) o
def entOf (T : TypeId → TI) (G : Gam) (Y : YT) (all : List Oper) (s0 : SS) (i : Nat) (o : Oper) (E : List Ent) (u : Out) : Ent :=
  ⟨i, o.dst, ((resOf T G Y all s0 i o E).out u).1, ((resOf T G Y all s0 i o E).out u).2, mpOf o.after.toList E⟩

def tabOf : List Oper → List (List Nat) → List (List Nat)
  | [], acc => acc
  | o :: l, acc => tabOf l (acc ++ [o.after.toList.foldr (fun e m => bif bnd e then uni (e.on :: acc.getD e.on []) m else m) []])
def hit (d : Option Tmp) (l : List Nat) : Bool := match d with | some t => memN l t | none => false
def conf (all : List Oper) (x y : Oper) : Bool :=
  hit x.dst y.dst.toList || hit x.dst (reads all y) || hit y.dst (reads all x)
def mayX (xk : Option Nat) (op : Op) : Bool := mayW op || (touch op && xk.isSome)
def cmem (X : XT) (i j : Nat) (x y : Oper) : Bool := (mayX (lookX X i) x.op && touch y.op) || (touch x.op && mayX (lookX X j) y.op)
def exk (X : XT) (Y : YT) (i j : Nat) : Bool := match lookX X i with | some k => memN (lookY Y j) k | none => false
def okR (X : XT) (Y : YT) (L : List Oper) (n : Nat) : Bool :=
  (List.range L.length).all fun j => match L[j]? with
    | none => true
    | some y => (match y.dst with | some d => decide (d < n) | none => true) && (y.after.toList.all fun e => !bnd e || decide (e.on < j)) &&
      (List.range j).all fun i => match L[i]? with
        | none => true
        | some x => (!conf L x y || memN ((tabOf L []).getD j []) i) && (!cmem X i j x y || memN ((tabOf L []).getD j []) i || ((!mayX (lookX X i) x.op || exk X Y i j) && (!mayX (lookX X j) y.op || exk X Y j i)))

def Pre (ops : Array Oper) : Nat → Nat → Prop := Relation.TransGen fun j i => ∃ o, ops[i]? = some o ∧ ∃ e ∈ o.after, bnd e = true ∧ e.on = j
theorem memN_iff {l : List Nat} {n : Nat} : memN l n = true ↔ n ∈ l := by
  induction l with
  | nil => simp [memN]
  | cons x l ih =>
    simp only [memN, List.mem_cons]
    cases h : (x == n)
    · have : n ≠ x := fun e => by subst e; simp at h
      simp [ih, this]
    · simp [(eq_of_beq h)]
theorem mem_uni {l m : List Nat} {n : Nat} : n ∈ uni l m ↔ n ∈ l ∨ n ∈ m := by
  induction l with
  | nil => simp [uni]
  | cons x l ih =>
    simp only [uni]
    cases h : memN m x
    · simp [ih, or_assoc]
    · have := memN_iff.1 h
      simp only [cond_true, ih, List.mem_cons]
      constructor
      · rintro (h | h) <;> simp [h]
      · rintro ((h | h) | h)
        · subst h; exact .inr this
        · exact .inl h
        · exact .inr h
section
variable {ops : Array Oper}
theorem tabOf_pre : ∀ (l : List Oper) (acc : List (List Nat)), (∀ k o, l[k]? = some o → ops[acc.length + k]? = some o) → (∀ j i, i ∈ acc.getD j [] → Pre ops i j) →
    ∀ j i, i ∈ (tabOf l acc).getD j [] → Pre ops i j := by
  intro l
  induction l with
  | nil => intro acc _ h; exact h
  | cons o l ih =>
    intro acc hl hacc
    refine ih _ (fun k x hk => ?_) ?_
    · have := hl (k + 1) x (by simpa using hk)
      simp only [List.length_append, List.length_cons, List.length_nil]
      rw [← this]; congr 1; omega
    · intro j i hi
      have ho : ops[acc.length]? = some o := by simpa using hl 0 o rfl
      rw [List.getD_eq_getElem?_getD, List.getElem?_append] at hi
      by_cases hj : j < acc.length
      · rw [if_pos hj] at hi
        exact hacc j i (by rw [List.getD_eq_getElem?_getD]; exact hi)
      · rw [if_neg hj] at hi
        by_cases e : j = acc.length
        · subst e
          simp only [Nat.sub_self, List.getElem?_cons_zero, Option.getD_some] at hi
          have key : ∀ es : List Edge, (∀ e ∈ es, e ∈ o.after) → i ∈ es.foldr (fun e m => bif bnd e then uni (e.on :: acc.getD e.on []) m else m) [] → Pre ops i acc.length := by
            intro es
            induction es with
            | nil => intro _ h; simp at h
            | cons e es ihe =>
              intro hm h
              rw [List.foldr_cons] at h
              cases hb : bnd e with
              | false => rw [hb] at h; exact ihe (fun e he => hm e (by simp [he])) h
              | true =>
                rw [hb, cond_true, mem_uni] at h
                rcases h with h | h
                · have hs : Pre ops e.on acc.length := .single ⟨o, ho, e, hm e (by simp), hb, rfl⟩
                  rcases List.mem_cons.1 h with h | h
                  · subst h; exact hs
                  · exact (hacc _ _ h).trans hs
                · exact ihe (fun e he => hm e (by simp [he])) h
          exact key _ (fun e he => by simpa using he) hi
        · have : (([o.after.toList.foldr (fun e m => bif bnd e then uni (e.on :: acc.getD e.on []) m else m) []] : List (List Nat))[j - acc.length]?) = none := by
            apply List.getElem?_eq_none; simp; omega
          rw [this] at hi; simp at hi
structure OkR (X : XT) (Y : YT) (ops : Array Oper) (n : Nat) : Prop where
  dst : ∀ (i : Nat) (o : Oper) (d : Nat), ops[i]? = some o → o.dst = some d → d < n
  back : ∀ (i : Nat) (o : Oper) (e : Edge), ops[i]? = some o → e ∈ o.after → bnd e = true → e.on < i
  pre : ∀ (i j : Nat) (x y : Oper), i < j → ops[i]? = some x → ops[j]? = some y → conf ops.toList x y = true → Pre ops i j
  mem : ∀ (i j : Nat) (x y : Oper), i < j → ops[i]? = some x → ops[j]? = some y → cmem X i j x y = true → Pre ops i j ∨ (mayX (lookX X i) x.op = true → exk X Y i j = true) ∧ (mayX (lookX X j) y.op = true → exk X Y j i = true)
variable {X : XT} {Y : YT}
theorem okR_spec {n : Nat} (h : okR X Y ops.toList n = true) : OkR X Y ops n := by
  unfold okR at h
  have key : ∀ (j : Nat) (y : Oper), ops[j]? = some y → _ := fun j y hj => List.all_eq_true.1 h j (List.mem_range.2 (by simpa using (Array.getElem?_eq_some_iff.1 hj).1))
  have at_ : ∀ {j : Nat} {y : Oper}, ops[j]? = some y → ops.toList[j]? = some y := fun hj => by rw [Array.getElem?_toList]; exact hj
  refine ⟨fun i o d hi hd => ?_, fun i o e hi he hb => ?_, fun i j x y hij hi hj hc => ?_, fun i j x y hij hi hj hc => ?_⟩
  · have := key i o hi
    simp only [at_ hi, hd, Bool.and_eq_true, decide_eq_true_eq] at this
    exact this.1.1
  · have := key i o hi
    simp only [at_ hi, Bool.and_eq_true] at this
    have := List.all_eq_true.1 this.1.2 e (by simpa using he)
    simpa [hb] using this
  · have := key j y hj
    simp only [at_ hj, Bool.and_eq_true] at this
    have := List.all_eq_true.1 this.2 i (List.mem_range.2 hij)
    simp only [at_ hi, hc, Bool.not_true, Bool.false_or, Bool.and_eq_true] at this
    exact tabOf_pre ops.toList [] (fun k o hk => by simpa using hk) (fun j i hi => by simp at hi) j i (memN_iff.1 this.1)
  · have := key j y hj
    simp only [at_ hj, Bool.and_eq_true] at this
    have := List.all_eq_true.1 this.2 i (List.mem_range.2 hij)
    simp only [at_ hi, Bool.and_eq_true] at this
    have := this.2
    simp only [hc, Bool.not_true, Bool.false_or, Bool.or_eq_true, Bool.and_eq_true] at this
    rcases this with h | ⟨h1, h2⟩
    · exact .inl (tabOf_pre ops.toList [] (fun k o hk => by simpa using hk) (fun j i hi => by simp at hi) j i (memN_iff.1 h))
    · refine .inr ⟨fun e => ?_, fun e => ?_⟩
      · simpa [e] using h1
      · simpa [e] using h2
theorem Pre.lt {n : Nat} (h : OkR X Y ops n) {j i : Nat} (hp : Pre ops j i) : j < i := by
  induction hp with
  | single hr => obtain ⟨o, ho, e, he, hb, rfl⟩ := hr; exact h.back _ _ _ ho he hb
  | tail _ hr ih => obtain ⟨o, ho, e, he, hb, rfl⟩ := hr; exact Nat.lt_trans ih (h.back _ _ _ ho he hb)
theorem exk_some {i j : Nat} (h : exk X Y i j = true) : ∃ k, lookX X i = some k ∧ memN (lookY Y j) k = true := by
  unfold exk at h
  cases hx : lookX X i with
  | none => rw [hx] at h; cases h
  | some k => rw [hx] at h; exact ⟨k, rfl, h⟩
theorem OkR.wr {n : Nat} (h : OkR X Y ops n) {i j : Nat} {x y : Oper} (hx : ops[i]? = some x) (hy : ops[j]? = some y) (hne : i ≠ j) (hw : mayX (lookX X i) x.op = true) (ht : touch y.op = true) : Pre ops i j ∨ Pre ops j i ∨ ∃ k, lookX X i = some k ∧ memN (lookY Y j) k = true := by
  rcases Nat.lt_or_gt_of_ne hne with hl | hl
  · rcases h.mem i j x y hl hx hy (by simp [cmem, hw, ht]) with e | ⟨e, _⟩
    · exact .inl e
    · exact .inr (.inr (exk_some (e hw)))
  · rcases h.mem j i y x hl hy hx (by simp [cmem, hw, ht]) with e | ⟨_, e⟩
    · exact .inr (.inl e)
    · exact .inr (.inr (exk_some (e hw)))
theorem lookH_hide {ks : List Nat} {hp : Hp} {k : Nat} : lookH (hideH ks hp) k = bif memN ks k then .no else lookH hp k := by
  induction ks with
  | nil => rfl
  | cons x l ih =>
    simp only [hideH, lookH, memN]
    cases x == k
    · exact ih
    · rfl
end
end En
end Go.Proofs.YtnpkmimbnjnicaaGreatDoor
/-
The engine: a region that draws its order does what its operations do one by one (for every seat).
-/
set_option linter.unusedSimpArgs false
set_option linter.unusedVariables false
namespace Go.Proofs.YtnpkmimbnjnicaaGreatDoor
namespace En
open Go Go.RowKit

theorem look_cons_eq {t : Nat} {x : SV} {s : List (Nat × SV)} : look (consS (some t) x s) t = x := by simp [consS, look]
theorem look_cons_ne {d : Option Tmp} {t : Nat} {x : SV} {s : List (Nat × SV)} (h : d ≠ some t) : look (consS d x s) t = look s t := by
  cases d with
  | none => rfl
  | some d =>
    have : (d == t) = false := by simp; exact fun e => h (by rw [e])
    simp [consS, look, this]
section
variable (T : TypeId → TI) (G : Gam) (Y : YT) (ops : Array Oper) (s0 : SS)
def ents (us : Nat → Out) : Nat → List Ent
  | 0 => []
  | i + 1 => match ops[i]? with
    | some o => entOf T G Y ops.toList s0 i o (ents us i) (us i) :: ents us i
    | none => ents us i
def entsD (D : Nat → Bool) (us : Nat → Out) : Nat → List Ent
  | 0 => []
  | i + 1 => match ops[i]? with
    | some o => bif D i then entOf T G Y ops.toList s0 i o (ents T G Y ops s0 us i) (us i) :: entsD D us i else entsD D us i
    | none => entsD D us i
abbrev en (us : Nat → Out) (i : Nat) (o : Oper) : Ent := entOf T G Y ops.toList s0 i o (ents T G Y ops s0 us i) (us i)
abbrev rs (us : Nat → Out) (i : Nat) (o : Oper) : Res := resOf T G Y ops.toList s0 i o (ents T G Y ops s0 us i)
end
section
variable {T : TypeId → TI} {G : Gam} {X : XT} {Y : YT} {ops : Array Oper} {s0 : SS} {us us' : Nat → Out} {D D' : Nat → Bool}
theorem ents_D {n : Nat} (h : ∀ i, i < n → D i = true) : entsD T G Y ops s0 D us n = ents T G Y ops s0 us n := by
  induction n with
  | zero => rfl
  | succ n ih =>
    simp only [entsD, ents, ih fun i hi => h i (by omega), h n (by omega), cond_true]
theorem entsD_congr {n : Nat} (h : ∀ i, i < n → D i = D' i) : entsD T G Y ops s0 D us n = entsD T G Y ops s0 D' us n := by
  induction n with
  | zero => rfl
  | succ n ih => simp only [entsD, ih fun i hi => h i (by omega), h n (by omega)]
theorem entsD_cut {i n : Nat} (hi : i ≤ n) : entsD T G Y ops s0 (fun j => D j && decide (j < i)) us n = entsD T G Y ops s0 D us i := by
  induction n with
  | zero => obtain rfl : i = 0 := by omega
            rfl
  | succ n ih =>
    by_cases e : i = n + 1
    · subst e; exact entsD_congr fun j hj => by simp [hj]
    · have : decide (n < i) = false := by simp; omega
      simp only [entsD, this, Bool.and_false, cond_false, ih (by omega)]
      cases ops[n]? <;> rfl
theorem ents_lt {i n : Nat} (hi : i ≤ n) : entsD T G Y ops s0 (fun j => decide (j < i)) us n = ents T G Y ops s0 us i := by
  have := entsD_cut (T := T) (G := G) (Y := Y) (ops := ops) (s0 := s0) (us := us) (D := fun _ => true) hi
  simp only [Bool.true_and] at this
  rw [this, ents_D fun _ _ => rfl]
theorem slD_eq {t : Nat} : ∀ m, (∀ j o, j < m → ops[j]? = some o → o.dst = some t → D j = D' j ∧ (D j = true → (en T G Y ops s0 us j o).x = (en T G Y ops s0 us' j o).x)) →
    look (slOf (entsD T G Y ops s0 D us m) s0.sl) t = look (slOf (entsD T G Y ops s0 D' us' m) s0.sl) t := by
  intro m
  induction m with
  | zero => intro _; rfl
  | succ m ih =>
    intro h
    have ih := ih fun j o hj => h j o (by omega)
    simp only [entsD]
    cases ho : ops[m]? with
    | none => exact ih
    | some o =>
      by_cases hd : o.dst = some t
      · obtain ⟨h1, h2⟩ := h m o (by omega) ho hd
        simp only [← h1]
        cases hD : D m
        · exact ih
        · simp only [cond_true, slOf]
          have e1 : (en T G Y ops s0 us m o).dst = some t := hd
          have e2 : (en T G Y ops s0 us' m o).dst = some t := hd
          rw [e1, e2, look_cons_eq, look_cons_eq]
          exact h2 hD
      · have key : ∀ (b : Bool) (us : Nat → Out) (l : List Ent), look (slOf (bif b then en T G Y ops s0 us m o :: l else l) s0.sl) t = look (slOf l s0.sl) t := by
          intro b us l
          cases b
          · rfl
          · exact look_cons_ne hd
        simp only [key, ih]
theorem slD_last {t : Nat} {i : Nat} {o : Oper} (ho : ops[i]? = some o) (hd : o.dst = some t) (hD : D i = true) : ∀ m, i < m → (∀ j o, i < j → ops[j]? = some o → o.dst = some t → D j = false) →
    look (slOf (entsD T G Y ops s0 D us m) s0.sl) t = (en T G Y ops s0 us i o).x := by
  intro m
  induction m with
  | zero => intro h; omega
  | succ m ih =>
    intro hi hl
    by_cases e : i = m
    · subst e
      simp only [entsD, ho, hD, cond_true, slOf]
      have e1 : (en T G Y ops s0 us i o).dst = some t := hd
      rw [e1, look_cons_eq]
    · have ih := ih (by omega) hl
      simp only [entsD]
      cases hm : ops[m]? with
      | none => exact ih
      | some x =>
        by_cases hx : x.dst = some t
        · simp only [hl m x (by omega) hm hx, cond_false]; exact ih
        · cases D m
          · exact ih
          · simp only [cond_true, slOf]
            rw [look_cons_ne (by exact hx)]; exact ih
theorem hD_eq {k : Nat} : ∀ m, (∀ j o, j < m → ops[j]? = some o → (D j = true ∧ has (en T G Y ops s0 us j o).ups k = true ∨ D' j = true ∧ has (en T G Y ops s0 us' j o).ups k = true) → D j = D' j ∧ (D j = true → (en T G Y ops s0 us j o).ups = (en T G Y ops s0 us' j o).ups)) →
    lookH (allH (entsD T G Y ops s0 D us m) s0.hp) k = lookH (allH (entsD T G Y ops s0 D' us' m) s0.hp) k := by
  intro m
  induction m with
  | zero => intro _; rfl
  | succ m ih =>
    intro h
    have ih := ih fun j o hj => h j o (by omega)
    simp only [entsD]
    cases ho : ops[m]? with
    | none => exact ih
    | some o =>
      by_cases hh : D m = true ∧ has (en T G Y ops s0 us m o).ups k = true ∨ D' m = true ∧ has (en T G Y ops s0 us' m o).ups k = true
      · obtain ⟨h1, h2⟩ := h m o (by omega) ho hh
        simp only [← h1]
        cases hD : D m
        · exact ih
        · simp only [cond_true, allH, lookH_app]
          have := h2 hD
          simp only [en] at this
          rw [this, ih]
      · have key : ∀ (b : Bool) (us : Nat → Out) (l : List Ent), (b = true → has (en T G Y ops s0 us m o).ups k = false) → lookH (allH (bif b then en T G Y ops s0 us m o :: l else l) s0.hp) k = lookH (allH l s0.hp) k := by
          intro b us l e
          cases b
          · rfl
          · simp only [cond_true, allH, lookH_app, e rfl, cond_false]
        have no : ∀ {x : Bool}, ¬ x = true → x = false := fun h => by simpa using h
        rw [key _ _ _ fun e => no fun e' => hh (.inl ⟨e, e'⟩), key _ _ _ fun e => no fun e' => hh (.inr ⟨e, e'⟩), ih]
theorem hD_src {k : Nat} : ∀ m, lookH (allH (entsD T G Y ops s0 D us m) s0.hp) k ≠ .no → lookH s0.hp k ≠ .no ∨ ∃ j o, j < m ∧ ops[j]? = some o ∧ D j = true ∧ has (en T G Y ops s0 us j o).ups k = true := by
  intro m
  induction m with
  | zero => intro h; exact .inl h
  | succ m ih =>
    intro h
    have up : (lookH s0.hp k ≠ .no ∨ ∃ j o, j < m ∧ ops[j]? = some o ∧ D j = true ∧ has (en T G Y ops s0 us j o).ups k = true) → lookH s0.hp k ≠ .no ∨ ∃ j o, j < m + 1 ∧ ops[j]? = some o ∧ D j = true ∧ has (en T G Y ops s0 us j o).ups k = true :=
      fun h => h.imp id fun ⟨j, o, hj, r⟩ => ⟨j, o, by omega, r⟩
    simp only [entsD] at h
    cases ho : ops[m]? with
    | none => rw [ho] at h; exact up (ih h)
    | some o =>
      rw [ho] at h
      cases hD : D m
      · simp only [hD, cond_false] at h; exact up (ih h)
      · simp only [hD, cond_true, allH, lookH_app] at h
        cases hh : has (en T G Y ops s0 us m o).ups k
        · simp only [en] at hh
          rw [hh] at h; exact up (ih h)
        · exact .inr ⟨m, o, by omega, ho, hD, hh⟩
theorem hD_last {k : Nat} {i : Nat} {o : Oper} (ho : ops[i]? = some o) (hk : has (en T G Y ops s0 us i o).ups k = true) (hD : D i = true) : ∀ m, i < m → (∀ j x, i < j → ops[j]? = some x → D j = true → has (en T G Y ops s0 us j x).ups k = false) →
    lookH (allH (entsD T G Y ops s0 D us m) s0.hp) k = lookH (en T G Y ops s0 us i o).ups k := by
  intro m
  induction m with
  | zero => intro h; omega
  | succ m ih =>
    intro hi hl
    by_cases e : i = m
    · subst e
      simp only [entsD, ho, hD, cond_true, allH, lookH_app]
      simp only [en] at hk
      rw [hk]; rfl
    · have ih := ih (by omega) hl
      simp only [entsD]
      cases hm : ops[m]? with
      | none => exact ih
      | some x =>
        cases hx : D m
        · exact ih
        · have := hl m x (by omega) hm hx
          simp only [en] at this
          simp only [cond_true, allH, lookH_app, this, cond_false]; exact ih
theorem vis_D {mp : Nat} {hp : Hp} {i : Nat} : visH mp (ents T G Y ops s0 us i) hp = allH (entsD T G Y ops s0 (bitN mp) us i) hp := by
  induction i with
  | zero => rfl
  | succ i ih =>
    simp only [ents, entsD]
    cases ops[i]? with
    | none => exact ih
    | some o =>
      simp only [visH]
      have : (entOf T G Y ops.toList s0 i o (ents T G Y ops s0 us i) (us i)).i = i := rfl
      rw [this]
      cases bitN mp i
      · exact ih
      · simp only [cond_true, allH, ih]
theorem mpE_at {j n : Nat} {o : Oper} (ho : ops[j]? = some o) (hj : j < n) : mpE (ents T G Y ops s0 us n) j = consE j (en T G Y ops s0 us j o).ups (en T G Y ops s0 us j o).mp := by
  induction n with
  | zero => omega
  | succ n ih =>
    by_cases e : j = n
    · subst e
      simp only [ents, ho, mpE]
      have : (entOf T G Y ops.toList s0 j o (ents T G Y ops s0 us j) (us j)).i = j := rfl
      simp [this]
    · simp only [ents]
      cases hn : ops[n]? with
      | none => exact ih (by omega)
      | some x =>
        simp only [mpE]
        have h1 : (entOf T G Y ops.toList s0 n x (ents T G Y ops s0 us n) (us n)).i = n := rfl
        have h2 : (n == j) = false := by simp; omega
        rw [h1, h2]; exact ih (by omega)
theorem bit_or {m n i : Nat} : bitN (m ||| n) i = (bitN m i || bitN n i) := Nat.testBit_or ..
theorem bit_one {i j : Nat} : bitN (1 <<< i) j = decide (i = j) := by
  unfold bitN
  rw [Nat.one_shiftLeft, Nat.testBit_two_pow]
theorem mem_consE {i j : Nat} {u : Hp} {mp : Nat} : bitN (consE i u mp) j = true → j = i ∨ bitN mp j = true := by
  cases u with
  | nil => exact .inr
  | cons x u =>
    simp only [consE, bit_or, bit_one, Bool.or_eq_true, decide_eq_true_eq]
    rintro (h | h)
    · exact .inr h
    · exact .inl h.symm
theorem consE_mem {i j : Nat} {u : Hp} {mp : Nat} (h : bitN mp j = true) : bitN (consE i u mp) j = true := by
  cases u with
  | nil => exact h
  | cons x u => simp [consE, bit_or, h]
theorem consE_self {i : Nat} {u : Hp} {mp : Nat} (h : u ≠ []) : bitN (consE i u mp) i = true := by
  cases u with
  | nil => exact absurd rfl h
  | cons x u => simp [consE, bit_or, bit_one]
theorem mem_mpOf {es : List Edge} {E : List Ent} {j : Nat} : bitN (mpOf es E) j = true ↔ ∃ e ∈ es, bnd e = true ∧ bitN (mpE E e.on) j = true := by
  induction es with
  | nil => simp [mpOf, bitN]
  | cons e es ih =>
    cases hb : bnd e with
    | false =>
      simp only [mpOf, hb, cond_false, ih, List.mem_cons]
      constructor
      · rintro ⟨x, hx, h⟩; exact ⟨x, .inr hx, h⟩
      · rintro ⟨x, hx | hx, h⟩
        · subst hx; rw [hb] at h; cases h.1
        · exact ⟨x, hx, h⟩
    | true =>
      simp only [mpOf, hb, cond_true, bit_or, Bool.or_eq_true, List.mem_cons, ih]
      constructor
      · rintro (h | ⟨x, hx, h⟩)
        · exact ⟨e, .inl rfl, hb, h⟩
        · exact ⟨x, .inr hx, h⟩
      · rintro ⟨x, hx | hx, h⟩
        · subst hx; exact .inl h.2
        · exact .inr ⟨x, hx, h⟩
theorem some_of_lt {i j : Nat} {o : Oper} (ho : ops[i]? = some o) (hj : j < i) : ∃ x, ops[j]? = some x := by
  have := (Array.getElem?_eq_some_iff.1 ho).1
  exact ⟨ops[j], by simp⟩
variable {N : Nat}
theorem mp_pre (hok : OkR X Y ops N) : ∀ (i : Nat) (o : Oper), ops[i]? = some o → ∀ j, bitN (mpOf o.after.toList (ents T G Y ops s0 us i)) j = true → Pre ops j i := by
  intro i
  induction i using Nat.strongRecOn with
  | _ i ih =>
    intro o ho j hj
    obtain ⟨e, he, hbe, hj⟩ := mem_mpOf.1 hj
    have he : e ∈ o.after := by simpa using he
    have hb := hok.back i o e ho he hbe
    have hs : Pre ops e.on i := .single ⟨o, ho, e, he, hbe, rfl⟩
    obtain ⟨x, hx⟩ := some_of_lt ho hb
    rw [mpE_at hx hb] at hj
    rcases mem_consE hj with rfl | hj
    · exact hs
    · exact (ih e.on hb x hx j hj).trans hs
theorem mp_of_pre (hok : OkR X Y ops N) {j i : Nat} (hp : Pre ops j i) : ∀ {oj o : Oper}, ops[j]? = some oj → ops[i]? = some o → (en T G Y ops s0 us j oj).ups ≠ [] → bitN (mpOf o.after.toList (ents T G Y ops s0 us i)) j = true := by
  induction hp with
  | single hr =>
    intro oj o hj ho hne
    obtain ⟨o', ho', e, he, hbe, rfl⟩ := hr
    rw [ho] at ho'; cases ho'
    refine mem_mpOf.2 ⟨e, by simpa using he, hbe, ?_⟩
    rw [mpE_at hj (hok.back _ _ _ ho he hbe)]
    exact consE_self hne
  | tail hp hr ih =>
    intro oj o hj ho hne
    obtain ⟨o', ho', e, he, hbe, rfl⟩ := hr
    rw [ho] at ho'; cases ho'
    have hb := hok.back _ _ _ ho he hbe
    obtain ⟨x, hx⟩ := some_of_lt ho hb
    refine mem_mpOf.2 ⟨e, by simpa using he, hbe, ?_⟩
    rw [mpE_at hx hb]
    exact consE_mem (ih hj hx hne)
theorem mapS_congr {sl sl' : List (Nat × SV)} {l : List Operand} (h : ∀ t ∈ tmpsOf l, look sl t = look sl' t) : mapS sl l = mapS sl' l := by
  induction l with
  | nil => rfl
  | cons x l ih =>
    simp only [mapS]
    rw [ih fun t ht => h t (by cases x <;> simp [tmpsOf, ht])]
    congr 1
    cases x with
    | tmp t => exact h t (by simp [tmpsOf])
    | _ => rfl
theorem opR_congr {sl sl' : List (Nat × SV)} {all : List Oper} {H H' : Nat → Ch} {nx : Nat} {o : Oper} (hH : H = H') (h : ∀ t ∈ reads all o, look sl t = look sl' t) : opR T G all H nx sl o = opR T G all H' nx sl' o := by
  subst hH
  unfold opR
  rw [mapS_congr fun t ht => h t (by unfold reads; simp [ht])]
  congr 1
  cases hg : o.guard with
  | none => rfl
  | some q =>
    obtain ⟨j, want⟩ := q
    simp only [guardV]
    cases hd : dstAt all j with
    | none => rfl
    | some t => simp only [lookO]; rw [h t (by unfold reads; simp [hg, hd])]
theorem conf_r {all : List Oper} {x y : Oper} {t : Nat} (hd : x.dst = some t) (hr : t ∈ reads all y) : conf all x y = true := by
  unfold conf; simp [hd, hit, memN_iff.2 hr]
theorem conf_l {all : List Oper} {x y : Oper} {t : Nat} (hd : y.dst = some t) (hr : t ∈ reads all x) : conf all x y = true := by
  unfold conf; simp [hd, hit, memN_iff.2 hr]
theorem conf_d {all : List Oper} {x y : Oper} {t : Nat} (hx : x.dst = some t) (hy : y.dst = some t) : conf all x y = true := by
  unfold conf; simp [hx, hy, hit, memN]
theorem mayX_touch {xk : Option Nat} {op : Op} (h : mayX xk op = true) : touch op = true := by
  unfold mayX at h
  rw [Bool.or_eq_true, Bool.and_eq_true] at h
  rcases h with h | h
  rotate_left
  · exact h.1
  cases op <;> first | rfl | (cases h; done) | skip
  next c =>
    obtain ⟨f, xs, ts⟩ := c
    cases f <;> first | rfl | (cases h; done) | skip
    next b => cases b <;> first | rfl | cases h
theorem agree (hok : OkR X Y ops N) : ∀ (i : Nat) (o : Oper), ops[i]? = some o → (∀ j, Pre ops j i → us j = us' j) →
    rs T G Y ops s0 us i o = rs T G Y ops s0 us' i o ∧ mpOf o.after.toList (ents T G Y ops s0 us i) = mpOf o.after.toList (ents T G Y ops s0 us' i) := by
  intro i
  induction i using Nat.strongRecOn with
  | _ i ih =>
    intro o ho hu
    have ie : ∀ j oj, Pre ops j i → ops[j]? = some oj → en T G Y ops s0 us j oj = en T G Y ops s0 us' j oj := by
      intro j oj hp hj
      obtain ⟨h1, h2⟩ := ih j (hp.lt hok) oj hj fun k hk => hu k (hk.trans hp)
      simp only [en, entOf, hu j hp]
      simp only [rs] at h1
      rw [h1, h2]
    have hmp : mpOf o.after.toList (ents T G Y ops s0 us i) = mpOf o.after.toList (ents T G Y ops s0 us' i) := by
      have key : ∀ es : List Edge, (∀ e ∈ es, e ∈ o.after) → mpOf es (ents T G Y ops s0 us i) = mpOf es (ents T G Y ops s0 us' i) := by
        intro es
        induction es with
        | nil => intro _; rfl
        | cons e es ihe =>
          intro hm
          have he := hm e (by simp)
          simp only [mpOf]
          cases hbe : bnd e with
          | false => exact ihe fun e he => hm e (by simp [he])
          | true =>
            have hb := hok.back i o e ho he hbe
            obtain ⟨x, hx⟩ := some_of_lt ho hb
            simp only [cond_true]
            rw [mpE_at hx hb, mpE_at hx hb, ie e.on x (.single ⟨o, ho, e, he, hbe, rfl⟩) hx, ihe fun e he => hm e (by simp [he])]
      exact key _ fun e he => by simpa using he
    refine ⟨?_, hmp⟩
    unfold rs resOf
    refine opR_congr ?_ fun t ht => ?_
    · funext k
      rw [← hmp]
      unfold viewH
      cases touch o.op
      · rfl
      · simp only [cond_true]
        rw [vis_D, vis_D, lookH_hide, lookH_hide]
        congr 1
        refine hD_eq i fun j x hj hx _ => ⟨rfl, fun hm => ?_⟩
        rw [ie j x (mp_pre hok i o ho j hm) hx]
    · have := slD_eq (T := T) (G := G) (Y := Y) (ops := ops) (s0 := s0) (us := us) (us' := us') (D := fun _ => true) (D' := fun _ => true) (t := t) i fun j x hj hx hd => ⟨rfl, fun _ => ?_⟩
      · rwa [ents_D fun _ _ => rfl, ents_D fun _ _ => rfl] at this
      · rw [ie j x (hok.pre j i x o hj hx ho (conf_r hd ht)) hx]
def KeysOk (T : TypeId → TI) (G : Gam) (Y : YT) (ops : Array Oper) (s0 : SS) : Prop :=
  ∀ us i o, ops[i]? = some o → ∀ k, has (en T G Y ops s0 us i o).ups k = true → (s0.nx + 512 * i ≤ k ∧ k < s0.nx + 512 * i + 512) ∨ (rs T G Y ops s0 us i o).wr = some k
def WrOk (T : TypeId → TI) (G : Gam) (X : XT) (Y : YT) (ops : Array Oper) (s0 : SS) : Prop :=
  ∀ us i o, ops[i]? = some o → ∀ k, (rs T G Y ops s0 us i o).wr = some k → mayX (lookX X i) o.op = true ∧ (∀ k', lookX X i = some k' → k = k') ∧ lookH (viewH o.op (lookY Y i) (mpOf o.after.toList (ents T G Y ops s0 us i)) (ents T G Y ops s0 us i) s0.hp) k ≠ .no
def Free (s0 : SS) : Prop := ∀ k, s0.nx ≤ k → lookH s0.hp k = .no
theorem owner (hok : OkR X Y ops N) (hk : KeysOk T G Y ops s0) (hw : WrOk T G X Y ops s0) (hf : Free s0) : ∀ (i : Nat) (o : Oper), ops[i]? = some o → ∀ k j, lookH (viewH o.op (lookY Y i) (mpOf o.after.toList (ents T G Y ops s0 us i)) (ents T G Y ops s0 us i) s0.hp) k ≠ .no →
    s0.nx + 512 * j ≤ k → k < s0.nx + 512 * j + 512 → Pre ops j i := by
  intro i
  induction i using Nat.strongRecOn with
  | _ i ih =>
    intro o ho k j hv h1 h2
    unfold viewH at hv
    cases ht : touch o.op
    · rw [ht] at hv; exact absurd rfl hv
    · rw [ht, cond_true, vis_D, lookH_hide] at hv
      have hv : lookH (allH (entsD T G Y ops s0 (bitN (mpOf o.after.toList (ents T G Y ops s0 us i))) us i) s0.hp) k ≠ .no := by
        cases hm : memN (lookY Y i) k with
        | true => rw [hm] at hv; exact absurd rfl hv
        | false => rw [hm] at hv; exact hv
      rcases hD_src i hv with hv | ⟨m, x, hm, hx, hD, hh⟩
      · exact absurd (hf k (by omega)) hv
      · have hp := mp_pre hok i o ho m hD
        rcases hk us m x hx k hh with ⟨h3, h4⟩ | hwr
        · obtain rfl : m = j := by omega
          exact hp
        · obtain ⟨_, _, hn⟩ := hw us m x hx k hwr
          exact (ih m hm x hx k j hn h1 h2).trans hp
end
end En
end Go.Proofs.YtnpkmimbnjnicaaGreatDoor
/-
The engine: the law for a region that draws its order (for every seat).
-/
set_option linter.unusedSimpArgs false
set_option linter.unusedVariables false
namespace Go.Proofs.YtnpkmimbnjnicaaGreatDoor
namespace En
open Go Go.RowKit

theorem HH.sub {O : Nat → Prop} {w0 w : World} {hp hp' : Hp} (h : HH w0 O hp w) (e : ∀ k, lookH hp' k = .no ∨ lookH hp k = lookH hp' k) : HH w0 O hp' w := by
  refine ⟨h.below, fun k b hb => ?_, fun k => ?_, fun k j hne hm b hb hf => ?_⟩
  · rcases e k with e | e
    · rw [e] at hb; exact hb.elim
    · rw [← e] at hb; exact h.old k b hb
  · rcases e k with e | e
    · rw [e]; trivial
    · rw [← e]; exact h.hold k
  · rcases e k with ek | ek
    · rw [ek] at hm; cases hm
    rcases e j with ej | ej
    · rw [ej] at hf; exact hf
    rw [← ek] at hm hb; rw [← ej] at hf
    exact h.sep k j hne hm b hb hf
theorem HH.heap {O : Nat → Prop} {w0 w w' : World} {hp : Hp} (h : HH w0 O hp w) (hh : w'.heap = w.heap) (os : w'.os = w.os) (tape : w'.tape = w.tape) (output : w'.output = w.output) : HH w0 O hp w' :=
  ⟨⟨os.trans h.below.os, tape.trans h.below.tape, output.trans h.below.output, by rw [hh]; exact h.below.size, fun b hb => by rw [hh]; exact h.below.block b hb⟩,
   h.old, fun k => (h.hold k).kept (by rw [hh]; exact Nat.le_refl _) (fun i _ => by rw [hh]), h.sep⟩
theorem put_getD {a : Act} {dst : Option Tmp} {v : Value} {t : Nat} (h : dst ≠ some t) : (a.put dst v).tmps.getD t undef = a.tmps.getD t undef := by
  cases dst with
  | none => rfl
  | some d =>
    have hne : d ≠ t := fun e => h (by rw [e])
    simp [Act.put, Array.getD_eq_getD_getElem?, Array.getElem?_setIfInBounds, hne]
theorem put_getD_self {a : Act} {d : Nat} {v : Value} (h : d < a.tmps.size) : (a.put (some d) v).tmps.getD d undef = v := by
  simp [Act.put, Array.getD_eq_getD_getElem?, Array.getElem?_setIfInBounds, h]
theorem put_size {a : Act} {dst : Option Tmp} {v : Value} : (a.put dst v).tmps.size = a.tmps.size := by
  cases dst <;> simp [Act.put]
theorem put_defers {a : Act} {dst : Option Tmp} {v : Value} : (a.put dst v).defers = a.defers := by
  cases dst <;> simp [Act.put]
theorem getD_set_self {l : Array Bool} {i : Nat} (d : Bool) (h : i < l.size) : (l.setIfInBounds i true).getD i d = true := by
  simp [Array.getD, h]
theorem countP_less {l : List Nat} {p q : Nat → Bool} {i : Nat} (hi : i ∈ l) (hp : p i = true) (hq : q i = false) (h : ∀ k, q k = true → p k = true) : l.countP q < l.countP p := by
  induction l with
  | nil => cases hi
  | cons x l ih =>
    rw [List.countP_cons, List.countP_cons]
    have mono : l.countP q ≤ l.countP p := List.countP_mono_left fun k _ hk => h k hk
    rcases List.mem_cons.1 hi with e | e
    · subst e; simp [hp, hq]; omega
    · have := ih e
      cases hqx : q x
      · simp; omega
      · simp [h x hqx]; omega
section
variable {P : Program} {T : TypeId → TI} {G : Gam} {X : XT} {Y : YT} {ops : Array Oper} {s0 : SS} {O : Nat → Prop} {w0 : World} {Q : Exit → Act → World → Prop} {N : Nat}
theorem entsD_none {us : Nat → Out} {D : Nat → Bool} (h : ∀ i, D i = false) {n : Nat} : entsD T G Y ops s0 D us n = [] := by
  induction n with
  | zero => rfl
  | succ n ih =>
    simp only [entsD, h, cond_false, ih]
    cases ops[n]? <;> rfl
structure RInv (T : TypeId → TI) (G : Gam) (Y : YT) (ops : Array Oper) (s0 : SS) (w0 : World) (O : Nat → Prop) (N : Nat) (us : Nat → Out) (D : Nat → Bool) (a : Act) (w : World) : Prop where
  defers : a.defers = []
  size : a.tmps.size = N
  slots : ∀ t, look (slOf (entsD T G Y ops s0 D us ops.size) s0.sl) t ≠ .un → a.tmps.getD t undef = den (look (slOf (entsD T G Y ops s0 D us ops.size) s0.sl) t)
  hh : HH w0 O (allH (entsD T G Y ops s0 D us ops.size) s0.hp) w
  closed : ∀ i o, D i = true → ops[i]? = some o → ∀ e ∈ o.after, bnd e = true → D e.on = true
theorem closed_pre {D : Nat → Bool} (h : ∀ i o, D i = true → ops[i]? = some o → ∀ e ∈ o.after, bnd e = true → D e.on = true) {j i : Nat} (hp : Pre ops j i) : D i = true → D j = true := by
  induction hp with
  | single hr => intro hi; obtain ⟨o, ho, e, he, hb, rfl⟩ := hr; exact h _ o hi ho e he hb
  | tail hp hr ih => intro hi; obtain ⟨o, ho, e, he, hb, rfl⟩ := hr; exact ih (h _ o hi ho e he hb)
theorem ready_pre {D : Nat → Bool} (h : ∀ i o, D i = true → ops[i]? = some o → ∀ e ∈ o.after, bnd e = true → D e.on = true) {i : Nat} {o : Oper} (ho : ops[i]? = some o) (hr : ∀ e ∈ o.after, bnd e = true → D e.on = true) {j : Nat} (hp : Pre ops j i) : D j = true := by
  cases hp with
  | single hr' => obtain ⟨o', ho', e, he, hb, rfl⟩ := hr'; rw [ho] at ho'; cases ho'; exact hr e he hb
  | tail hp hr' => obtain ⟨o', ho', e, he, hb, rfl⟩ := hr'; rw [ho] at ho'; cases ho'; exact closed_pre h hp (hr e he hb)
variable {us : Nat → Out} {D : Nat → Bool}
theorem rinv_step (hT : TyAll P T) (hG : GOk P G) (hok : OkR X Y ops N) (hk : KeysOk T G Y ops s0) (hw : WrOk T G X Y ops s0) (hf : Free s0) (hvc : ∀ us i o, ops[i]? = some o → (rs T G Y ops s0 us i o).vc)
    {a : Act} {w : World} (I : RInv T G Y ops s0 w0 O N us D a w) {i : Nat} {o : Oper} (ho : ops[i]? = some o) (hi : D i = false) (hr : ∀ e ∈ o.after, bnd e = true → D e.on = true) :
    Done P ops o a w (fun a' w' => ∃ us', RInv T G Y ops s0 w0 O N us' (fun j => D j || j == i) a' w') Q := by
  have hin : i < ops.size := (Array.getElem?_eq_some_iff.1 ho).1
  have preD : ∀ {j}, Pre ops j i → D j = true := fun hp => ready_pre I.closed ho hr hp
  have notD : ∀ {j}, Pre ops i j → D j = false := by
    intro j hp
    cases hj : D j with
    | false => rfl
    | true => have := closed_pre I.closed hp hj; rw [hi] at this; cases this
  have eE : ents T G Y ops s0 us i = entsD T G Y ops s0 (fun j => decide (j < i)) us ops.size := (ents_lt (by omega)).symm
  have S1 : Slots (slOf (ents T G Y ops s0 us i) s0.sl) a (reads ops.toList o) := by
    intro t ht
    have : look (slOf (ents T G Y ops s0 us i) s0.sl) t = look (slOf (entsD T G Y ops s0 D us ops.size) s0.sl) t := by
      rw [eE]
      refine slD_eq _ fun j x hj hx hd => ⟨?_, fun _ => rfl⟩
      by_cases h1 : j < i
      · simp only [h1, decide_true]; exact (preD (hok.pre j i x o h1 hx ho (conf_r hd ht))).symm
      · simp only [h1, decide_false]
        by_cases e : j = i
        · subst e; exact hi.symm
        · exact (notD (hok.pre i j o x (by omega) ho hx (conf_l hd ht))).symm
    rw [this]; exact I.slots t
  -- what the operation sees of the memory is there
  have vi : ∀ k, lookH (viewH o.op (lookY Y i) (mpOf o.after.toList (ents T G Y ops s0 us i)) (ents T G Y ops s0 us i) s0.hp) k = .no ∨
      lookH (allH (entsD T G Y ops s0 D us ops.size) s0.hp) k = lookH (viewH o.op (lookY Y i) (mpOf o.after.toList (ents T G Y ops s0 us i)) (ents T G Y ops s0 us i) s0.hp) k := by
    intro k
    cases ht : touch o.op with
    | false => exact .inl (by unfold viewH; rw [ht]; rfl)
    | true =>
      have ev : viewH o.op (lookY Y i) (mpOf o.after.toList (ents T G Y ops s0 us i)) (ents T G Y ops s0 us i) s0.hp = hideH (lookY Y i) (allH (entsD T G Y ops s0 (fun j => bitN (mpOf o.after.toList (ents T G Y ops s0 us i)) j && decide (j < i)) us ops.size) s0.hp) := by
        unfold viewH; rw [ht, cond_true, vis_D, entsD_cut (by omega)]
      by_cases hhd : memN (lookY Y i) k = true
      · left; rw [ev, lookH_hide, hhd]; rfl
      by_cases hex : ∃ j x, ops[j]? = some x ∧ D j = true ∧ bitN (mpOf o.after.toList (ents T G Y ops s0 us i)) j = false ∧ has (en T G Y ops s0 us j x).ups k = true
      · obtain ⟨j, x, hx, hD, hm, hh⟩ := hex
        left
        have hne : (en T G Y ops s0 us j x).ups ≠ [] := by intro e; rw [e] at hh; cases hh
        have nope : ¬ Pre ops j i := fun hp => by rw [mp_of_pre hok hp hx ho hne] at hm; cases hm
        rcases hk us j x hx k hh with ⟨h1, h2⟩ | hwr
        · cases hv : lookH (viewH o.op (lookY Y i) (mpOf o.after.toList (ents T G Y ops s0 us i)) (ents T G Y ops s0 us i) s0.hp) k with
          | no => rfl
          | _ => exact absurd (owner hok hk hw hf i o ho k j (by rw [hv]; simp) h1 h2) nope
        · obtain ⟨hmw, hkk, _⟩ := hw us j x hx k hwr
          exfalso
          have hji : j ≠ i := by rintro rfl; rw [hi] at hD; cases hD
          rcases hok.wr hx ho hji hmw ht with h | h | ⟨k', h, hm'⟩
          · exact nope h
          · have := notD h; rw [hD] at this; cases this
          · have := hkk k' h; subst this; exact hhd hm'
      · right
        rw [ev, lookH_hide, Bool.eq_false_iff.2 hhd, cond_false]
        refine hD_eq _ fun j x hj hx hh => ⟨?_, fun _ => rfl⟩
        have hh : has (en T G Y ops s0 us j x).ups k = true := by rcases hh with h | h <;> exact h.2
        cases hm : bitN (mpOf o.after.toList (ents T G Y ops s0 us i)) j with
        | true =>
          have hp := mp_pre hok i o ho j hm
          simp [preD hp, hp.lt hok]
        | false =>
          cases hD : D j with
          | false => rfl
          | true => exact absurd ⟨j, x, hx, hD, hm, hh⟩ hex
  have S2 : HH w0 O (viewH o.op (lookY Y i) (mpOf o.after.toList (ents T G Y ops s0 us i)) (ents T G Y ops s0 us i) s0.hp) w := I.hh.sub vi
  have S3 := opR_sound (Q := Q) (o := o) (nx := s0.nx + 512 * i) (ops := ops) hT hG S2 S1 (hvc us i o ho)
  have fin : ∀ a' w', (∃ u, a' = a.put o.dst (den ((rs T G Y ops s0 us i o).out u).1) ∧ Stp w0 (viewH o.op (lookY Y i) (mpOf o.after.toList (ents T G Y ops s0 us i)) (ents T G Y ops s0 us i) s0.hp) w (rs T G Y ops s0 us i o).wr ((rs T G Y ops s0 us i o).out u).2 w') →
      ∃ us', RInv T G Y ops s0 w0 O N us' (fun j => D j || j == i) a' w' := by
    rintro a' w' ⟨u, rfl, hs⟩
    let us' : Nat → Out := fun j => if j = i then u else us j
    have uo : ∀ {j}, j ≠ i → us' j = us j := fun h => if_neg h
    have ui : us' i = u := if_pos rfl
    have ag : ∀ j x, ops[j]? = some x → ¬ Pre ops i j → rs T G Y ops s0 us' j x = rs T G Y ops s0 us j x ∧ mpOf x.after.toList (ents T G Y ops s0 us' j) = mpOf x.after.toList (ents T G Y ops s0 us j) := fun j x hx hn =>
      agree hok j x hx fun m hm => uo fun e => hn (e ▸ hm)
    have nii : ¬ Pre ops i i := fun h => absurd (h.lt hok) (Nat.lt_irrefl _)
    have nD : ∀ {j}, D j = true → ¬ Pre ops i j := fun hD hp => by have := notD hp; rw [hD] at this; cases this
    have ei : (en T G Y ops s0 us' i o).x = ((rs T G Y ops s0 us i o).out u).1 ∧ (en T G Y ops s0 us' i o).ups = ((rs T G Y ops s0 us i o).out u).2 := by
      have := (ag i o ho nii).1
      simp only [rs] at this
      simp only [en, entOf, this, ui, rs, and_self]
    have eD : ∀ j x, ops[j]? = some x → D j = true → (en T G Y ops s0 us' j x).x = (en T G Y ops s0 us j x).x ∧ (en T G Y ops s0 us' j x).ups = (en T G Y ops s0 us j x).ups := by
      intro j x hx hD
      have := (ag j x hx (nD hD)).1
      simp only [rs] at this
      have hji : j ≠ i := by rintro rfl; rw [hi] at hD; cases hD
      simp only [en, entOf, this, uo hji, and_self]
    refine ⟨us', put_defers.trans I.defers, put_size.trans I.size, fun t => ?_, ?_, fun j x hD hx e he hbe => ?_⟩
    · by_cases hd : o.dst = some t
      · have : look (slOf (entsD T G Y ops s0 (fun j => D j || j == i) us' ops.size) s0.sl) t = ((rs T G Y ops s0 us i o).out u).1 := by
          rw [slD_last ho hd (by simp) _ hin (fun j x hj hx hd' => by
            have := notD (hok.pre i j o x hj ho hx (conf_d hd hd'))
            simp [this]; omega), ei.1]
        rw [this, hd, put_getD_self (by rw [I.size]; exact hok.dst i o t ho hd)]
        exact fun _ => rfl
      · have : look (slOf (entsD T G Y ops s0 (fun j => D j || j == i) us' ops.size) s0.sl) t = look (slOf (entsD T G Y ops s0 D us ops.size) s0.sl) t := by
          refine slD_eq _ fun j x hj hx hd' => ?_
          have hji : j ≠ i := by rintro rfl; rw [ho] at hx; cases hx; exact hd hd'
          have : (D j || j == i) = D j := by simp [hji]
          refine ⟨this, fun h => ?_⟩
          rw [this] at h
          exact (eD j x hx h).1
        rw [this, put_getD hd]
        exact I.slots t
    · have hS := hs.wide vi
      refine (hS.hh I.hh).congr fun k => ?_
      rw [lookH_app]
      cases hu : has ((rs T G Y ops s0 us i o).out u).2 k with
      | true =>
        have hu' : has (en T G Y ops s0 us' i o).ups k = true := by rw [ei.2]; exact hu
        rw [hD_last (D := fun j => D j || j == i) (us := us') ho hu' (by simp) _ hin, ei.2]; · rfl
        intro j x hj hx hD
        have hD : D j = true := by
          have : (j == i) = false := by simp; omega
          simpa [this] using hD
        have nij : ¬ Pre ops i j := nD hD
        cases hh : has (en T G Y ops s0 us' j x).ups k with
        | false => rfl
        | true =>
          exfalso
          rcases hk us' j x hx k hh with ⟨h1, h2⟩ | hwj
          · rcases hk us' i o ho k hu' with ⟨h3, h4⟩ | hwi
            · omega
            · obtain ⟨_, _, hn⟩ := hw us' i o ho k hwi
              have := (owner hok hk hw hf i o ho k j hn h1 h2).lt hok
              omega
          · obtain ⟨hmj, _, hnj⟩ := hw us' j x hx k hwj
            rcases hk us' i o ho k hu' with ⟨h3, h4⟩ | hwi
            · exact nij (owner hok hk hw hf j x hx k i hnj h3 h4)
            · obtain ⟨hmi, hkk, _⟩ := hw us' i o ho k hwi
              rcases hok.wr ho hx (Nat.ne_of_lt hj) hmi (mayX_touch hmj) with h | h | ⟨k', h, hm'⟩
              · exact nij h
              · exact absurd (h.lt hok) (by omega)
              · have := hkk k' h
                subst this
                refine hnj ?_
                unfold viewH
                rw [mayX_touch hmj, cond_true, lookH_hide, hm']; rfl
      | false =>
        have hu' : has (en T G Y ops s0 us' i o).ups k = false := by rw [ei.2]; exact hu
        refine hD_eq _ fun j x hj hx hh => ?_
        by_cases e : j = i
        · subst e
          rw [ho] at hx; cases hx
          rcases hh with h | h
          · rw [hu'] at h; exact absurd h.2 (by simp)
          · rw [hi] at h; exact absurd h.1 (by simp)
        · have : (D j || j == i) = D j := by simp [e]
          refine ⟨this, fun h => ?_⟩
          rw [this] at h
          exact (eD j x hx h).2
    · have hor : D j = true ∨ j = i := by simpa using hD
      rcases hor with h | h
      · simp [I.closed j x h hx e he hbe]
      · subst h
        rw [ho] at hx; cases hx
        simp [hr e he hbe]
  unfold Done at S3 ⊢
  split
  · next hwd => rw [if_pos hwd] at S3; exact Oper.wp_mono fin S3
  · next hwd => rw [if_neg hwd] at S3; exact fin _ _ S3
theorem wpAny_of (hT : TyAll P T) (hG : GOk P G) (hok : OkR X Y ops N) (hk : KeysOk T G Y ops s0) (hw : WrOk T G X Y ops s0) (hf : Free s0) (hvc : ∀ us i o, ops[i]? = some o → (rs T G Y ops s0 us i o).vc)
    (hend : ∀ us a w, RInv T G Y ops s0 w0 O N us (fun i => decide (i < ops.size)) a w → Q .normal a w) :
    ∀ (fuel : Nat) (listed : Array Bool) (us : Nat → Out) (a : Act) (w : World), listed.size = ops.size → (List.range ops.size).countP (fun i => !listed.getD i true) ≤ fuel →
      RInv T G Y ops s0 w0 O N us (fun i => listed.getD i false) a w → wpAny P .any ops Q fuel listed a w := by
  have allDone : ∀ (listed : Array Bool) (us : Nat → Out) (a : Act) (w : World), listed.size = ops.size → Region.ready .any ops listed = [] → RInv T G Y ops s0 w0 O N us (fun i => listed.getD i false) a w → Q .normal a w := by
    intro listed us a w hs hr I
    have key : ∀ (k : Nat) (j : Nat), j < k → j < ops.size → listed.getD j true = true := by
      intro k
      induction k with
      | zero => intro j h; omega
      | succ k ih =>
        intro j hj hjs
        cases hl : listed.getD j true with
        | true => rfl
        | false =>
          exfalso
          have hm : j ∈ Region.ready .any ops listed := by
            rw [mem_ready]
            refine ⟨hl, ops[j], by simp [hjs], fun e he hbe => ?_⟩
            have hb := hok.back j ops[j] e (by simp [hjs]) he hbe
            have := ih e.on (by omega) (by omega)
            rw [Array.getD_eq_getD_getElem?] at this ⊢
            cases h2 : listed[e.on]? with
            | none => have := Array.getElem?_eq_none_iff.1 h2; omega
            | some b => rw [h2] at this; simpa using this
          rw [hr] at hm
          cases hm
    have e : ∀ i, i < ops.size → listed.getD i false = decide (i < ops.size) := by
      intro i hi
      have h1 := key (i + 1) i (by omega) hi
      simp only [hi, decide_true]
      rw [Array.getD_eq_getD_getElem?] at h1 ⊢
      cases h2 : listed[i]? with
      | none => have := Array.getElem?_eq_none_iff.1 h2; omega
      | some b => rw [h2] at h1; simpa using h1
    have ee : entsD T G Y ops s0 (fun i => listed.getD i false) us ops.size = entsD T G Y ops s0 (fun i => decide (i < ops.size)) us ops.size := entsD_congr e
    refine hend us a w ⟨I.defers, I.size, ?_, ?_, fun i o hi ho e he hbe => ?_⟩
    · rw [← ee]; exact I.slots
    · rw [← ee]; exact I.hh
    · have := hok.back i o e ho he hbe
      have hi : i < ops.size := by simpa using hi
      simp; omega
  intro fuel
  induction fuel with
  | zero =>
    intro listed us a w hs hc I
    have hr : Region.ready .any ops listed = [] := by
      cases hr : Region.ready .any ops listed with
      | nil => rfl
      | cons i l =>
        exfalso
        have hm : i ∈ Region.ready .any ops listed := by rw [hr]; simp
        rw [mem_ready] at hm
        obtain ⟨h1, o, ho, _⟩ := hm
        have hlt : i < ops.size := (Array.getElem?_eq_some_iff.1 ho).1
        have : 0 < (List.range ops.size).countP (fun i => !listed.getD i true) := List.countP_pos_iff.2 ⟨i, List.mem_range.2 hlt, by simp [h1]⟩
        omega
    exact ⟨hr, allDone listed us a w hs hr I⟩
  | succ fuel ih =>
    intro listed us a w hs hc I
    refine ⟨fun hr => allDone listed us a w hs hr I, fun i hi => ?_⟩
    obtain ⟨h1, o, ho, hafter⟩ := mem_ready.1 hi
    have hlt : i < ops.size := (Array.getElem?_eq_some_iff.1 ho).1
    have h1' : listed.getD i false = false := by
      rw [Array.getD_eq_getD_getElem?] at h1 ⊢
      cases h2 : listed[i]? with
      | none => rfl
      | some b => rw [h2] at h1; simpa using h1
    have H := rinv_step (Q := Q) hT hG hok hk hw hf hvc I ho h1' fun e he hbe => hafter e he hbe
    have K : ∀ a' w', (∃ us', RInv T G Y ops s0 w0 O N us' (fun j => listed.getD j false || j == i) a' w') → wpAny P .any ops Q fuel (listed.setIfInBounds i true) a' w' := by
      rintro a' w' ⟨us', I'⟩
      refine ih _ us' _ _ (by simp [hs]) ?_ ?_
      · have : (List.range ops.size).countP (fun k => !(listed.setIfInBounds i true).getD k true) < (List.range ops.size).countP (fun k => !listed.getD k true) :=
          countP_less (List.mem_range.2 hlt) (by simp [h1]) (by rw [getD_set_self true (by omega)]; rfl) (fun k hk => by
            by_cases e : i = k
            · subst e; simp [h1]
            · rw [Go.getD_set_ne true e] at hk; exact hk)
        omega
      · have : (fun j => (listed.setIfInBounds i true).getD j false) = fun j => listed.getD j false || j == i := by
          funext j
          by_cases e : i = j
          · subst e; rw [getD_set_self false (by omega)]; simp
          · rw [Go.getD_set_ne false e]
            have : (j == i) = false := by simp; omega
            simp [this]
        rw [this]; exact I'
    unfold wpOp
    simp only [ho]
    unfold Done at H
    split
    · next hwd => rw [if_pos hwd] at H; exact Or.inl (Oper.wp_mono K H)
    · next hwd => rw [if_neg hwd] at H; exact K _ _ H
theorem drawn_wp {id : Nat} {a : Act} {w : World} (hm : P.follows .mixedOrders = true) (hT : TyAll P T) (hG : GOk P G) (hok : OkR X Y ops N) (hk : KeysOk T G Y ops s0) (hw : WrOk T G X Y ops s0) (hf : Free s0)
    (hvc : ∀ us i o, ops[i]? = some o → (rs T G Y ops s0 us i o).vc)
    (hd : a.defers = []) (hs : a.tmps.size = N) (hsl : ∀ t, look s0.sl t ≠ .un → a.tmps.getD t undef = den (look s0.sl t)) (H : HH w0 O s0.hp w)
    (hend : ∀ us a w, a.defers = [] → a.tmps.size = N → (∀ t, look (slOf (ents T G Y ops s0 us ops.size) s0.sl) t ≠ .un → a.tmps.getD t undef = den (look (slOf (ents T G Y ops s0 us ops.size) s0.sl) t)) →
      HH w0 O (allH (ents T G Y ops s0 us ops.size) s0.hp) w → Q .normal a w) : (Code.region id ops true).wp P Q a w := by
  refine wp_region_any hm (wpAny_of (w0 := w0) (O := O) hT hG hok hk hw hf hvc (fun us a w I => ?_) ops.size _ (fun _ => ⟨0, none, 0, none, 0, mz⟩) a _ (by simp) ?_ ?_)
  · have e : entsD T G Y ops s0 (fun i => decide (i < ops.size)) us ops.size = ents T G Y ops s0 us ops.size := ents_D fun i hi => by simp [hi]
    refine hend us a w I.defers I.size ?_ ?_
    · rw [← e]; exact I.slots
    · rw [← e]; exact I.hh
  · exact Nat.le_trans (List.countP_le_length) (by simp)
  · have hD : ∀ i, (Array.replicate ops.size false).getD i false = false := by
      intro i
      rw [Array.getD_eq_getD_getElem?]
      by_cases h : i < ops.size
      · simp [h]
      · simp [h]
    have e : entsD T G Y ops s0 (fun i => (Array.replicate ops.size false).getD i false) (fun _ => ⟨0, none, 0, none, 0, mz⟩) ops.size = [] := by
      exact entsD_none hD
    refine ⟨hd, hs, ?_, ?_, fun i o hi => ?_⟩
    · rw [e]; exact hsl
    · rw [e]; exact H.heap rfl rfl rfl rfl
    · rw [hD] at hi; cases hi
end
end En
end Go.Proofs.YtnpkmimbnjnicaaGreatDoor
/-
The engine: code, run on states (for every seat).
-/
set_option linter.unusedSimpArgs false
set_option linter.unusedVariables false
namespace Go.Proofs.YtnpkmimbnjnicaaGreatDoor
namespace En
open Go Go.RowKit

inductive It where
  | code (c : Code)
  | blk (id : Nat)
  | ops (all l : List Oper)
  | cut (J : SS → Prop)
  | lp (n : Nat) (c : Code)
  | scp
structure Holds (w0 : World) (O : Nat → Prop) (N : Nat) (s : SS) (a : Act) (w : World) : Prop where
  defers : a.defers = []
  size : a.tmps.size = N
  slots : ∀ t, look s.sl t ≠ .un → a.tmps.getD t undef = den (look s.sl t)
  hh : HH w0 O s.hp w
  free : Free s
def allLt (n : Nat) : Hp → Prop
  | [] => True
  | (k, _) :: l => k < n ∧ allLt n l
def keysIn (lo : Nat) (wr : Option Nat) : Hp → Prop
  | [] => True
  | (k, _) :: l => (lo ≤ k ∧ k < lo + 512 ∨ wr = some k) ∧ keysIn lo wr l
def isNo : Ch → Bool
  | .no => true
  | _ => false
def fltS : Nat → List (Nat × SV) → List (Nat × SV)
  | 0, l => l
  | _ + 1, [] => []
  | n + 1, (t, x) :: l => bif decide (t ≤ n) then (t, x) :: fltS (n + 1) l else fltS (n + 1) l
def setH (k : Nat) (c : Ch) : Hp → Hp
  | [] => [(k, c)]
  | (t, d) :: l => bif t == k then (t, c) :: l else (t, d) :: setH k c l
def cutK : Nat := 1000000
def stR (R : List It → SS → Prop) (d : Option Tmp) (k : List It) (s : SS) : Res → Prop
  | .bad => False
  | .is vc x => vc ∧ R k ⟨consS d x s.sl, s.hp, s.nx⟩
  | .put vc i c => vc ∧ i < s.nx + 512 ∧ R k ⟨consS d .un s.sl, setH i c s.hp, s.nx + 512⟩
  | .new vc f => vc ∧ ∀ b, allLt (s.nx + 512) (f b).2 ∧ R k ⟨consS d (f b).1 s.sl, app (f b).2 s.hp, s.nx + 512⟩
  | .val vc f => vc ∧ ∀ A c, allLt (s.nx + 512) (f A c).2 ∧ R k ⟨consS d (f A c).1 s.sl, app (f A c).2 s.hp, s.nx + 512⟩
  | .val2 vc f => vc ∧ ∀ A c D e, allLt (s.nx + 512) (f A c D e).2 ∧ R k ⟨consS d (f A c D e).1 s.sl, app (f A c D e).2 s.hp, s.nx + 512⟩
  | .app vc i f => vc ∧ ∀ A c, allLt (s.nx + 512) (f A c).2 ∧ R k ⟨consS d (f A c).1 s.sl, app (f A c).2 s.hp, s.nx + 512⟩
  | .many vc f => vc ∧ ∀ M, allLt (s.nx + 512) (f M).2 ∧ R k ⟨consS d (f M).1 s.sl, app (f M).2 s.hp, s.nx + 512⟩
def okX : Option Nat → Nat → Prop
  | none, _ => True
  | some k', k => k = k'
def stD (F : List Ent → List (Nat × SV) → Prop) (i : Nat) (d : Option Tmp) (mp : Nat) (w : Bool) (xk : Option Nat) (lo : Nat) (H : Nat → Ch) (E : List Ent) (sl : List (Nat × SV)) : Res → Prop
  | .bad => False
  | .is vc x => vc ∧ F (⟨i, d, x, [], mp⟩ :: E) (consS d x sl)
  | .put vc k c => vc ∧ w = true ∧ okX xk k ∧ isNo (H k) = false ∧ F (⟨i, d, .un, [(k, c)], mp⟩ :: E) (consS d .un sl)
  | .new vc f => vc ∧ ∀ b, keysIn lo none (f b).2 ∧ F (⟨i, d, (f b).1, (f b).2, mp⟩ :: E) (consS d (f b).1 sl)
  | .val vc f => vc ∧ ∀ A c, keysIn lo none (f A c).2 ∧ F (⟨i, d, (f A c).1, (f A c).2, mp⟩ :: E) (consS d (f A c).1 sl)
  | .val2 vc f => vc ∧ ∀ A c D e, keysIn lo none (f A c D e).2 ∧ F (⟨i, d, (f A c D e).1, (f A c D e).2, mp⟩ :: E) (consS d (f A c D e).1 sl)
  | .app vc k f => vc ∧ w = true ∧ okX xk k ∧ isNo (H k) = false ∧ ∀ A c, keysIn lo (some k) (f A c).2 ∧ F (⟨i, d, (f A c).1, (f A c).2, mp⟩ :: E) (consS d (f A c).1 sl)
  | .many vc f => vc ∧ ∀ M, keysIn lo none (f M).2 ∧ F (⟨i, d, (f M).1, (f M).2, mp⟩ :: E) (consS d (f M).1 sl)
def stE (F : List Ent → List (Nat × SV) → Prop) (T : TypeId → TI) (G : Gam) (X : XT) (Y : YT) (all : List Oper) (s : SS) (i : Nat) (o : Oper) (E : List Ent) (sl : List (Nat × SV)) (mp : Nat) : Prop :=
  stD F i o.dst mp (mayX (lookX X i) o.op) (lookX X i) (s.nx + 512 * i) (lookH (viewH o.op (lookY Y i) mp E s.hp)) E sl (opR T G all (lookH (viewH o.op (lookY Y i) mp E s.hp)) (s.nx + 512 * i) sl o)
def rgn (R : List It → SS → Prop) (T : TypeId → TI) (G : Gam) (X : XT) (Y : YT) (all : List Oper) (s : SS) (k : List It) : List Oper → Nat → List Ent → List (Nat × SV) → Prop
  | [], i, E, sl => R k ⟨sl, allH E s.hp, s.nx + 512 * i⟩
  | o :: l, i, E, sl => stE (rgn R T G X Y all s k l (i + 1)) T G X Y all s i o E sl (mpOf o.after.toList E)
def stIf (R : List It → SS → Prop) (x y : Code) (k : List It) (s : SS) : SV → Prop
  | .v (.bool p) => (p = true → R (.code x :: k) s) ∧ (p = false → R (.code y :: k) s)
  | .c g (.v (.bool p)) => g = true ∧ (p = true → R (.code x :: k) s) ∧ (p = false → R (.code y :: k) s)
  | _ => False
def skipTo (id : Nat) : List It → List It
  | [] => [.cut fun _ => False]
  | .blk i :: k => bif i == id then k else skipTo id k
  | _ :: k => skipTo id k
def firstR : Code → Nat
  | .region id _ _ => id
  | .seq a _ => firstR a
  | .cond _ a _ => firstR a
  | .block _ c => firstR c
  | .scope c => firstR c
  | .loop c => firstR c
  | _ => 0
def lookN : List (Nat × Nat) → Nat → Nat
  | [], _ => 0
  | (t, x) :: l, u => bif t == u then x else lookN l u
abbrev VT := List (Nat × XT × YT)
def lookV : VT → Nat → XT × YT
  | [], _ => ([], [])
  | (t, x) :: l, u => bif t == u then x else lookV l u
def stG (R : List It → SS → Prop) (T : TypeId → TI) (G : Gam) (all : List Oper) (s : SS) (k : List It) : XT × YT → Prop
  | (X, Y) => rgn R T G X Y all s k all 0 [] s.sl
def stU (R L : List It → SS → Prop) (k : List It) (s : SS) (c : Code) : Nat → Prop
  | 0 => L (.code (.loop c) :: k) s
  | n + 1 => R (.lp (n + 1) c :: k) s
def stC (R : List It → SS → Prop) (L : List It → SS → Prop) (F : SS → Prop) (T : TypeId → TI) (G : Gam) (U : List (Nat × Nat)) (V : VT) (k : List It) (s : SS) : Code → Prop
  | .skip => R k s
  | .label _ => R k s
  | .region id ops draw => bif draw then stG R T G ops.toList ⟨fltS (lookN U cutK) s.sl, s.hp, s.nx⟩ k (lookV V id) else R (.ops ops.toList ops.toList :: k) ⟨fltS (lookN U cutK) s.sl, s.hp, s.nx⟩
  | .seq a b => R (.code a :: .code b :: k) s
  | .cond c x y => stIf R x y k s (evalS s.sl c)
  | .block id c => R (.code c :: .blk id :: k) s
  | .scope c => R (.code c :: .scp :: k) s
  | .exit id => R (skipTo id k) s
  | .ret => F s
  | .loop c => stU R L k s c (lookN U (firstR c))
  | _ => False
def stLp (R : List It → SS → Prop) (k : List It) (s : SS) (c : Code) : Nat → Prop
  | 0 => False
  | m + 1 => R (.code c :: .lp m c :: k) s
def run (L : List It → SS → Prop) (F : SS → Prop) (T : TypeId → TI) (G : Gam) (U : List (Nat × Nat)) (V : VT) : Nat → List It → SS → Prop
  | 0, _, _ => False
  | _ + 1, [], s => F s
  | n + 1, .code c :: k, s => stC (run L F T G U V n) L F T G U V k s c
  | n + 1, .blk _ :: k, s => run L F T G U V n k s
  | n + 1, .scp :: k, s => run L F T G U V n k s
  | n + 1, .ops _ [] :: k, s => run L F T G U V n k s
  | n + 1, .ops all (o :: l) :: k, s => stR (run L F T G U V n) o.dst (.ops all l :: k) s (opR T G all (lookH s.hp) s.nx s.sl o)
  | n + 1, .lp m c :: k, s => stLp (run L F T G U V n) k s c m
  | _ + 1, .cut J :: _, s => J s

def kpost (P : Program) (B : Exit → Act → World → Prop) (w0 : World) (O : Nat → Prop) (N : Nat) : List It → Exit → Act → World → Prop
  | [], e, a, w => B e a w
  | .code c :: k, .normal, a, w => c.wp P (kpost P B w0 O N k) a w
  | .ops all l :: k, .normal, a, w => wpList P all.toArray (kpost P B w0 O N k) l a w
  | .cut J :: k, .normal, a, w => ∃ s, J s ∧ Holds w0 O N s a w
  | .lp n c :: k, .normal, a, w => Code.rounds P c (kpost P B w0 O N k) n a w
  | .scp :: _, .goto _, _, _ => False
  | .blk id :: k, .exit id', a, w => if id' = id then kpost P B w0 O N k .normal a w else kpost P B w0 O N k (.exit id') a w
  | _ :: k, e, a, w => kpost P B w0 O N k e a w
def okSlots (N : Nat) : List Oper → Bool
  | [] => true
  | o :: l => (match o.dst with | some d => decide (d < N) | none => true) && okSlots N l
def okC (V : VT) (N : Nat) : Code → Bool
  | .region id ops draw => okSlots N ops.toList && (!draw || okR (lookV V id).1 (lookV V id).2 ops.toList N)
  | .seq a b => okC V N a && okC V N b
  | .cond _ a b => okC V N a && okC V N b
  | .block _ c => okC V N c
  | .scope c => okC V N c
  | .loop c => okC V N c
  | _ => true
def okK (V : VT) (N : Nat) : List It → Bool
  | [] => true
  | .code c :: k => okC V N c && okK V N k
  | .ops _ l :: k => okSlots N l && okK V N k
  | .lp _ c :: k => okC V N c && okK V N k
  | _ :: k => okK V N k
section
variable {P : Program} {B : Exit → Act → World → Prop} {O : Nat → Prop} {w0 : World} {N : Nat} {T : TypeId → TI} {G : Gam} {R : List It → SS → Prop} {F : SS → Prop} {U : List (Nat × Nat)} {V : VT} {X : XT} {Y : YT}
theorem kpost_seq {y : Code} {k : List It} : kpost P B w0 O N (.code y :: k) = Exit.then (y.wp P (kpost P B w0 O N k)) (kpost P B w0 O N k) := by
  funext e a w; cases e <;> rfl
theorem kpost_lp {n : Nat} {c : Code} {k : List It} : kpost P B w0 O N (.lp n c :: k) = Exit.then (Code.rounds P c (kpost P B w0 O N k) n) (kpost P B w0 O N k) := by
  funext e a w; cases e <;> rfl
theorem kpost_blk {id : Nat} {k : List It} : kpost P B w0 O N (.blk id :: k) = Exit.inBlock id (kpost P B w0 O N k) := by
  funext e a w; cases e <;> rfl
theorem kpost_scp {k : List It} : kpost P B w0 O N (.scp :: k) = Exit.noGoto (kpost P B w0 O N k) := by
  funext e a w; cases e <;> rfl
theorem kpost_ret {k : List It} {a : Act} {w : World} (h : B .ret a w) : kpost P B w0 O N k .ret a w := by
  induction k with
  | nil => exact h
  | cons it k ih => cases it <;> exact ih
theorem kpost_skip {id : Nat} {k : List It} {a : Act} {w : World} (h : kpost P B w0 O N (skipTo id k) .normal a w) : kpost P B w0 O N k (.exit id) a w := by
  induction k with
  | nil => obtain ⟨s, hf, _⟩ := h; exact hf.elim
  | cons it k ih =>
    cases it with
    | blk i =>
      simp only [skipTo] at h
      simp only [kpost]
      cases hi : (i == id)
      · rw [hi] at h
        rw [if_neg fun e => by subst e; simp at hi]
        exact ih h
      · rw [hi] at h
        rw [if_pos (eq_of_beq hi).symm]
        exact h
    | _ => exact ih h
theorem okK_skip {id : Nat} {k : List It} (h : okK V N k = true) : okK V N (skipTo id k) = true := by
  induction k with
  | nil => rfl
  | cons it k ih =>
    cases it with
    | blk i =>
      simp only [skipTo]
      cases (i == id)
      · exact ih h
      · exact h
    | code c => simp only [okK, Bool.and_eq_true] at h; exact ih h.2
    | ops all l => simp only [okK, Bool.and_eq_true] at h; exact ih h.2
    | lp n c => simp only [okK, Bool.and_eq_true] at h; exact ih h.2
    | cut J => exact ih h
    | scp => exact ih h
theorem lookH_big {n : Nat} {u : Hp} (h : allLt n u) {k : Nat} (hk : n ≤ k) : has u k = false := by
  induction u with
  | nil => rfl
  | cons x u ih =>
    obtain ⟨i, c⟩ := x
    have : (i == k) = false := by have := h.1; simp; omega
    simp only [has, this, cond_false]
    exact ih h.2
theorem holds_put {s : SS} {a : Act} {w w' : World} {d : Option Tmp} {x : SV} {wr : Option Nat} {ups : Hp} {nx' : Nat} (h : Holds w0 O N s a w) (hd : ∀ t, d = some t → t < N) (hs : Stp w0 s.hp w wr ups w') (hl : allLt nx' ups) (hn : s.nx ≤ nx') :
    Holds w0 O N ⟨consS d x s.sl, app ups s.hp, nx'⟩ (a.put d (den x)) w' := by
  refine ⟨put_defers.trans h.defers, put_size.trans h.size, fun t => ?_, hs.hh h.hh, fun k hk => ?_⟩
  · by_cases e : d = some t
    · subst e
      rw [put_getD_self (by rw [h.size]; exact hd t rfl)]
      exact fun _ => by simp only [look_cons_eq]
    · rw [put_getD e]
      simp only [look_cons_ne e]
      exact h.slots t
  · have hk : nx' ≤ k := hk
    show lookH (app ups s.hp) k = .no
    rw [lookH_app, lookH_big hl hk]
    exact h.free k (Nat.le_trans hn hk)
theorem fltS_zero {sl : List (Nat × SV)} : fltS 0 sl = sl := by cases sl <;> rfl
theorem look_flt {n : Nat} {sl : List (Nat × SV)} {t : Nat} (h : look (fltS n sl) t ≠ .un) : look (fltS n sl) t = look sl t := by
  cases n with
  | zero => rw [fltS_zero]
  | succ n =>
    induction sl with
    | nil => rfl
    | cons x l ih =>
      obtain ⟨i, x⟩ := x
      simp only [fltS] at h ⊢
      cases hi : decide (i ≤ n)
      · rw [hi] at h
        simp only [cond_false] at h ⊢
        by_cases e : i = t
        · subst e
          exfalso
          apply h
          have : ∀ l : List (Nat × SV), look (fltS (n + 1) l) i = .un := by
            intro l
            induction l with
            | nil => rfl
            | cons y l ihl =>
              obtain ⟨j, y⟩ := y
              simp only [fltS]
              cases hj : decide (j ≤ n)
              · exact ihl
              · have : (j == i) = false := by
                  have h1 := of_decide_eq_true hj
                  have h2 := of_decide_eq_false hi
                  simp; omega
                simp only [cond_true, look, this, cond_false]; exact ihl
          exact this l
        · have : (i == t) = false := by simpa using e
          simp only [look, this, cond_false]
          exact ih h
      · rw [hi] at h
        simp only [cond_true, look] at h ⊢
        cases e : (i == t)
        · rw [e] at h; exact ih h
        · rfl
theorem holds_flt {n : Nat} {s : SS} {a : Act} {w : World} (h : Holds w0 O N s a w) : Holds w0 O N ⟨fltS n s.sl, s.hp, s.nx⟩ a w :=
  ⟨h.defers, h.size, fun t ht => by rw [look_flt ht]; exact h.slots t (by rw [← look_flt ht]; exact ht), h.hh, h.free⟩
theorem lookH_set {k : Nat} {c : Ch} {hp : Hp} {j : Nat} : lookH (setH k c hp) j = lookH ((k, c) :: hp) j := by
  induction hp with
  | nil => rfl
  | cons x l ih =>
    obtain ⟨t, d⟩ := x
    simp only [setH]
    cases e : (t == k)
    · simp only [cond_false, lookH, ih]
      cases e2 : (t == j) <;> cases e3 : (k == j) <;> first | rfl | skip
      have h1 := eq_of_beq e2
      have h2 := eq_of_beq e3
      subst h1; subst h2
      simp at e
    · have := eq_of_beq e
      subst this
      simp only [cond_true, lookH]
      cases t == j <;> rfl
theorem stR_next {d : Option Tmp} {k : List It} {s : SS} {r : Res} (h : stR R d k s r) : r.vc ∧ ∀ u a w w', Holds w0 O N s a w → (∀ t, d = some t → t < N) → Stp w0 s.hp w r.wr (r.out u).2 w' →
    ∃ s', R k s' ∧ Holds w0 O N s' (a.put d (den (r.out u).1)) w' := by
  cases r with
  | bad => exact h.elim
  | is vc x => exact ⟨h.1, fun u a w w' H hd hs => ⟨_, h.2, holds_put H hd hs trivial (Nat.le_refl _)⟩⟩
  | put vc i c =>
    refine ⟨h.1, fun u a w w' H hd hs => ⟨_, h.2.2, ?_⟩⟩
    have Hp := holds_put (x := .un) H hd hs (nx' := s.nx + 512) ⟨h.2.1, trivial⟩ (by omega)
    exact ⟨Hp.defers, Hp.size, Hp.slots, Hp.hh.congr fun k => lookH_set, fun k hk => by rw [lookH_set]; exact Hp.free k hk⟩
  | new vc f => exact ⟨h.1, fun u a w w' H hd hs => ⟨_, (h.2 u.b).2, holds_put H hd hs (h.2 u.b).1 (by omega)⟩⟩
  | val vc f => exact ⟨h.1, fun u a w w' H hd hs => ⟨_, (h.2 u.A u.c).2, holds_put H hd hs (h.2 u.A u.c).1 (by omega)⟩⟩
  | val2 vc f => exact ⟨h.1, fun u a w w' H hd hs => ⟨_, (h.2 u.A u.c u.D u.d).2, holds_put H hd hs (h.2 u.A u.c u.D u.d).1 (by omega)⟩⟩
  | app vc i f => exact ⟨h.1, fun u a w w' H hd hs => ⟨_, (h.2 u.A u.c).2, holds_put H hd hs (h.2 u.A u.c).1 (by omega)⟩⟩
  | many vc f => exact ⟨h.1, fun u a w w' H hd hs => ⟨_, (h.2 u.M).2, holds_put H hd hs (h.2 u.M).1 (by omega)⟩⟩
theorem stD_spec {F : List Ent → List (Nat × SV) → Prop} {i : Nat} {d : Option Tmp} {mp : Nat} {m : Bool} {xk : Option Nat} {lo : Nat} {H : Nat → Ch} {E : List Ent} {sl : List (Nat × SV)} {r : Res} (h : stD F i d mp m xk lo H E sl r) :
    r.vc ∧ ∀ u, keysIn lo r.wr (r.out u).2 ∧ (∀ k, r.wr = some k → m = true ∧ (∀ k', xk = some k' → k = k') ∧ H k ≠ .no) ∧ F (⟨i, d, (r.out u).1, (r.out u).2, mp⟩ :: E) (consS d (r.out u).1 sl) := by
  have no : ∀ k, (none : Option Nat) = some k → m = true ∧ (∀ k', xk = some k' → k = k') ∧ H k ≠ .no := fun k e => by cases e
  cases r with
  | bad => exact h.elim
  | is vc x => exact ⟨h.1, fun u => ⟨trivial, no, h.2⟩⟩
  | put vc k c =>
    refine ⟨h.1, fun u => ⟨⟨.inr rfl, trivial⟩, fun j e => ?_, h.2.2.2.2⟩⟩
    cases e
    refine ⟨h.2.1, fun k' e => by have := h.2.2.1; rw [e] at this; exact this, fun e => ?_⟩
    have := h.2.2.2.1
    rw [e] at this; cases this
  | new vc f => exact ⟨h.1, fun u => ⟨(h.2 u.b).1, no, (h.2 u.b).2⟩⟩
  | val vc f => exact ⟨h.1, fun u => ⟨(h.2 u.A u.c).1, no, (h.2 u.A u.c).2⟩⟩
  | val2 vc f => exact ⟨h.1, fun u => ⟨(h.2 u.A u.c u.D u.d).1, no, (h.2 u.A u.c u.D u.d).2⟩⟩
  | many vc f => exact ⟨h.1, fun u => ⟨(h.2 u.M).1, no, (h.2 u.M).2⟩⟩
  | app vc k f =>
    refine ⟨h.1, fun u => ⟨(h.2.2.2.2 u.A u.c).1, fun j e => ?_, (h.2.2.2.2 u.A u.c).2⟩⟩
    cases e
    refine ⟨h.2.1, fun k' e => by have := h.2.2.1; rw [e] at this; exact this, fun e => ?_⟩
    have := h.2.2.2.1
    rw [e] at this; cases this
theorem keysIn_has {lo : Nat} {wr : Option Nat} {u : Hp} (h : keysIn lo wr u) {k : Nat} (hk : has u k = true) : (lo ≤ k ∧ k < lo + 512) ∨ wr = some k := by
  induction u with
  | nil => cases hk
  | cons x u ih =>
    obtain ⟨i, c⟩ := x
    simp only [has] at hk
    cases e : (i == k)
    · rw [e] at hk; exact ih h.2 hk
    · have := eq_of_beq e; subst this; exact h.1
theorem rgn_spec {ops : Array Oper} {s : SS} {k : List It} {us : Nat → Out} : ∀ (l : List Oper) (i : Nat), (∀ j, ops[i + j]? = l[j]?) →
    rgn R T G X Y ops.toList s k l i (ents T G Y ops s us i) (slOf (ents T G Y ops s us i) s.sl) →
    (∀ j o, i ≤ j → ops[j]? = some o → (rs T G Y ops s us j o).vc ∧ keysIn (s.nx + 512 * j) (rs T G Y ops s us j o).wr (en T G Y ops s us j o).ups ∧
      ∀ k, (rs T G Y ops s us j o).wr = some k → mayX (lookX X j) o.op = true ∧ (∀ k', lookX X j = some k' → k = k') ∧ lookH (viewH o.op (lookY Y j) (mpOf o.after.toList (ents T G Y ops s us j)) (ents T G Y ops s us j) s.hp) k ≠ .no) ∧
    R k ⟨slOf (ents T G Y ops s us (i + l.length)) s.sl, allH (ents T G Y ops s us (i + l.length)) s.hp, s.nx + 512 * (i + l.length)⟩ := by
  intro l
  induction l with
  | nil =>
    intro i hl h
    refine ⟨fun j o hj ho => ?_, h⟩
    have := hl (j - i)
    rw [show i + (j - i) = j by omega, ho] at this
    simp at this
  | cons o l ih =>
    intro i hl h
    have ho : ops[i]? = some o := by simpa using hl 0
    simp only [rgn, stE] at h
    obtain ⟨hv, h⟩ := stD_spec h
    obtain ⟨h1, h2, h3⟩ := h (us i)
    have ee : ents T G Y ops s us (i + 1) = en T G Y ops s us i o :: ents T G Y ops s us i := by simp only [ents, ho]
    have h3' : rgn R T G X Y ops.toList s k l (i + 1) (ents T G Y ops s us (i + 1)) (slOf (ents T G Y ops s us (i + 1)) s.sl) := by rw [ee]; exact h3
    obtain ⟨h4, h5⟩ := ih (i + 1) (fun j => by have := hl (j + 1); simp only [List.getElem?_cons_succ] at this; rw [← this]; congr 1; omega) h3'
    refine ⟨fun j x hj hx => ?_, ?_⟩
    · by_cases e : j = i
      · subst e
        rw [ho] at hx; cases hx
        exact ⟨hv, h1, h2⟩
      · exact h4 j x (by omega) hx
    · rw [show i + (o :: l).length = i + 1 + l.length by simp only [List.length_cons]; omega]
      exact h5
def Leaf (P : Program) (B : Exit → Act → World → Prop) (w0 : World) (O : Nat → Prop) (N : Nat) (V : VT) (k : List It) (s : SS) : Prop :=
  okK V N k = true → ∀ a w, Holds w0 O N s a w → kpost P B w0 O N k .normal a w
theorem run_sound (hm : P.follows .mixedOrders = true) (hT : TyAll P T) (hG : GOk P G) (hF : ∀ s a w, F s → Holds w0 O N s a w → B .ret a w ∧ B .normal a w) :
    ∀ (n : Nat) (k : List It) (s : SS), okK V N k = true → run (Leaf P B w0 O N V) F T G U V n k s → ∀ a w, Holds w0 O N s a w → kpost P B w0 O N k .normal a w := by
  intro n
  induction n with
  | zero => intro k s _ h; exact h.elim
  | succ n ih =>
    intro k s hk h a w H
    cases k with
    | nil => exact (hF s a w h H).2
    | cons it k =>
      cases it with
      | cut J => exact ⟨s, h, H⟩
      | blk id => exact ih k s hk h a w H
      | scp => exact ih k s hk h a w H
      | lp m c =>
        cases m with
        | zero => exact h.elim
        | succ m =>
          show c.wp P (Exit.then (Code.rounds P c (kpost P B w0 O N k) m) (kpost P B w0 O N k)) a w
          rw [← kpost_lp]
          exact ih (.code c :: .lp m c :: k) s (by simp only [okK, Bool.and_eq_true] at hk ⊢; exact ⟨hk.1, hk.1, hk.2⟩) h a w H
      | code c =>
        simp only [okK, Bool.and_eq_true] at hk
        show c.wp P (kpost P B w0 O N k) a w
        simp only [run] at h
        cases c with
        | skip => exact wp_skip (ih k s hk.2 h a w H)
        | label l => exact wp_label (ih k s hk.2 h a w H)
        | region id ops draw =>
          simp only [okC, Bool.and_eq_true] at hk
          cases draw with
          | false =>
            refine wp_region_list ?_
            have := ih (.ops ops.toList ops.toList :: k) _ (by simp [okK, hk]) h a w (holds_flt H)
            exact this
          | true =>
            have hr : okR (lookV V id).1 (lookV V id).2 ops.toList N = true := by simpa using hk.1.2
            simp only [stC, cond_true] at h
            generalize lookV V id = XY at hr h
            obtain ⟨X, Y⟩ := XY
            have hok := okR_spec hr
            have H := holds_flt (n := lookN U cutK) H
            generalize (⟨fltS (lookN U cutK) s.sl, s.hp, s.nx⟩ : SS) = s at h H
            have h : rgn (run (Leaf P B w0 O N V) F T G U V n) T G X Y ops.toList s k ops.toList 0 [] s.sl := h
            have sp := fun us => rgn_spec (us := us) ops.toList 0 (fun j => by simp) h
            refine drawn_wp (w0 := w0) (O := O) (s0 := s) hm hT hG hok (fun us i o ho k hk => keysIn_has ((sp us).1 i o (Nat.zero_le _) ho).2.1 hk) (fun us i o ho k hk => ((sp us).1 i o (Nat.zero_le _) ho).2.2 k hk) H.free
              (fun us i o ho => ((sp us).1 i o (Nat.zero_le _) ho).1) H.defers H.size H.slots H.hh (fun us a w hd hs hsl hh => ?_)
            have hfin := (sp us).2
            simp only [Nat.zero_add, Array.length_toList] at hfin
            refine ih k _ hk.2 hfin a w ⟨hd, hs, hsl, hh, fun q hq => ?_⟩
            have hq : s.nx + 512 * ops.size ≤ q := hq
            show lookH (allH (ents T G Y ops s us ops.size) s.hp) q = .no
            cases hn : lookH (allH (ents T G Y ops s us ops.size) s.hp) q with
            | no => rfl
            | _ =>
              exfalso
              rw [← ents_D (D := fun _ => true) (fun _ _ => rfl)] at hn
              have := hD_src (k := q) ops.size (D := fun _ => true) (us := us) (T := T) (G := G) (Y := Y) (s0 := s) (by rw [hn]; simp)
              rcases this with h1 | ⟨j, o, hj, ho, _, hh⟩
              · exact h1 (H.free q (by omega))
              · rcases keysIn_has ((sp us).1 j o (Nat.zero_le _) ho).2.1 hh with ⟨_, h2⟩ | hw
                · omega
                · have hn := (((sp us).1 j o (Nat.zero_le _) ho).2.2 q hw).2.2
                  have := owner hok (fun us i o ho k hk => keysIn_has ((sp us).1 i o (Nat.zero_le _) ho).2.1 hk) (fun us i o ho k hk => ((sp us).1 i o (Nat.zero_le _) ho).2.2 k hk) H.free j o ho q ((q - s.nx) / 512) hn (by omega) (by omega)
                  have := this.lt hok
                  omega
        | seq x y =>
          simp only [okC, Bool.and_eq_true] at hk
          refine wp_seq ?_
          rw [← kpost_seq]
          exact ih (.code x :: .code y :: k) s (by simp [okK, hk]) h a w H
        | cond c x y =>
          simp only [okC, Bool.and_eq_true] at hk
          have go : ∀ p : Bool, a.eval c = .bool p → ((p = true → run (Leaf P B w0 O N V) F T G U V n (.code x :: k) s) ∧ (p = false → run (Leaf P B w0 O N V) F T G U V n (.code y :: k) s)) → (Code.cond c x y).wp P (kpost P B w0 O N k) a w := by
            intro p hc hp
            refine wp_cond_split hc (fun e => ?_) (fun e => ?_)
            · exact ih (.code x :: k) s (by simp [okK, hk]) (hp.1 e) a w H
            · exact ih (.code y :: k) s (by simp [okK, hk]) (hp.2 e) a w H
          have ev : evalS s.sl c ≠ .un → a.eval c = den (evalS s.sl c) := fun hu => evalS_den (ts := match c with | .tmp t => [t] | _ => []) (fun t _ => H.slots t) (fun t e => by subst e; simp) hu
          simp only [stC, stIf] at h
          split at h
          · next p e => exact go p (by rw [ev (by rw [e]; simp), e]; rfl) h
          · next g p e =>
            obtain ⟨rfl, h⟩ := h
            exact go p (by rw [ev (by rw [e]; simp), e]; rfl) h
          · exact h.elim
        | scope c =>
          simp only [okC] at hk
          refine wp_scope_straight ?_
          rw [← kpost_scp]
          exact ih (.code c :: .scp :: k) s (by simp [okK, hk]) h a w H
        | block id c =>
          simp only [okC] at hk
          refine wp_block ?_
          rw [← kpost_blk]
          exact ih (.code c :: .blk id :: k) s (by simp [okK, hk]) h a w H
        | exit id => exact wp_exit (kpost_skip (ih (skipTo id k) s (okK_skip hk.2) h a w H))
        | ret => exact wp_ret (kpost_ret (hF s a w h H).1)
        | loop c =>
          simp only [stC] at h
          simp only [okC] at hk
          cases hu : lookN U (firstR c) with
          | zero => rw [hu] at h; exact h (by simp [okK, okC, hk]) a w H
          | succ m =>
            rw [hu] at h
            refine wp_loop_rounds (m + 1) ?_
            exact ih (.lp (m + 1) c :: k) s (by simp [okK, hk]) h a w H
        | _ => exact h.elim
      | ops all l =>
        simp only [okK, Bool.and_eq_true] at hk
        cases l with
        | nil => exact ih k s hk.2 h a w H
        | cons o l =>
          simp only [okSlots, Bool.and_eq_true] at hk
          simp only [run] at h
          obtain ⟨hv, hn⟩ := stR_next (w0 := w0) (O := O) (N := N) h
          have hd : ∀ t, o.dst = some t → t < N := fun t e => by have := hk.1.1; rw [e] at this; simpa using this
          have hD := opR_sound (P := P) (o := o) (a := a) (w := w) (Q := kpost P B w0 O N k) (ops := all.toArray) hT hG H.hh (fun t _ => H.slots t) hv
          have K : ∀ a' w', (∃ u, a' = a.put o.dst (den ((opR T G all (lookH s.hp) s.nx s.sl o).out u).1) ∧ Stp w0 s.hp w (opR T G all (lookH s.hp) s.nx s.sl o).wr ((opR T G all (lookH s.hp) s.nx s.sl o).out u).2 w') →
              wpList P all.toArray (kpost P B w0 O N k) l a' w' := by
            rintro a' w' ⟨u, rfl, hs⟩
            obtain ⟨s', hr, H'⟩ := hn u a w w' H hd hs
            exact ih (.ops all l :: k) s' (by simp [okK, hk]) hr _ _ H'
          show wpList P all.toArray (kpost P B w0 O N k) (o :: l) a w
          unfold Done at hD
          simp only [wpList]
          split
          · next hw => rw [if_pos hw] at hD; exact Or.inl (Oper.wp_mono K hD)
          · next hw => rw [if_neg hw] at hD; exact K _ _ hD
end
end En
end Go.Proofs.YtnpkmimbnjnicaaGreatDoor
/-
The engine: functions, from their entry to their return (for every seat).
-/
set_option linter.unusedSimpArgs false
set_option linter.unusedVariables false
namespace Go.Proofs.YtnpkmimbnjnicaaGreatDoor
namespace En
open Go Go.RowKit

def retT : SV → Res
  | .un => .bad
  | .c g x => .is (g = true) x
  | x => .is True x
def retR (T : TypeId → TI) (s : SS) : ResultVar → Res
  | .tmp t => retT (look s.sl t)
  | .cell t ty => isLit (T ty) (loadR (T ty) (lookH s.hp) (look s.sl t))
def retStep (K : List SV → Prop) (acc : List SV) : Res → Prop
  | .is vc x => vc ∧ K (x :: acc)
  | _ => False
def revS : List SV → List SV → List SV
  | [], acc => acc
  | x :: l, acc => revS l (x :: acc)
def retL (T : TypeId → TI) (s : SS) (post : SS → List SV → Prop) : List ResultVar → List SV → Prop
  | [], acc => post s (revS acc [])
  | r :: l, acc => retStep (retL T s post l) acc (retR T s r)
def oneV : List SV → Value
  | [x] => den x
  | l => .tuple (dens l).toArray
def slots : Nat → List SV → List (Nat × SV)
  | _, [] => []
  | i, x :: l => (i, x) :: slots (i + 1) l
def noTI : TI := ⟨false, false, 0, [], [], 0, 0, 0, 0, 0⟩
def lookT : List (TypeId × TI) → TypeId → TI
  | [], _ => noTI
  | (t, x) :: l, u => bif t == u then x else lookT l u
abbrev Spc := List SV → (Nat → Ch) → Nat → Res
def gcons (f : FuncId) (sp : Spc) (G : Gam) : Gam := fun g args H nx => bif f == g then sp args H nx else G g args H nx
def gnil : Gam := fun _ _ _ _ => .bad
section
variable {P : Program} {T : TypeId → TI} {G : Gam} {O : Nat → Prop} {w0 w : World} {N : Nat}
theorem tyAll_of {l : List (TypeId × TI)} (h : ∀ p ∈ l, TyOk P p.1 p.2) : TyAll P (lookT l) := by
  intro t ht
  induction l with
  | nil => cases ht
  | cons x l ih =>
    obtain ⟨i, x⟩ := x
    simp only [lookT] at ht ⊢
    cases e : (i == t)
    · rw [e] at ht
      exact ih (fun p hp => h p (by simp [hp])) ht
    · have := eq_of_beq e; subst this
      exact h (i, x) (by simp)
theorem tyAll_nil : TyAll P (lookT []) := fun t h => by cases h
theorem tyAll_cons {l : List (TypeId × TI)} {t : TypeId} {ti : TI} (h : TyOk P t ti) (hl : TyAll P (lookT l)) : TyAll P (lookT ((t, ti) :: l)) := by
  intro u hu
  simp only [lookT] at hu ⊢
  cases e : (t == u)
  · rw [e] at hu; exact hl u hu
  · have := eq_of_beq e; subst this; exact h
def SpecOk (P : Program) (f : FuncId) (sp : Spc) : Prop :=
  ∀ args hp nx w0 O w, HH w0 O hp w → (sp args (lookH hp) nx).vc →
    Calls P f (dens args).toArray w (fun e w' => ∃ u, e = .returned (den ((sp args (lookH hp) nx).out u).1) ∧ Stp w0 hp w (sp args (lookH hp) nx).wr ((sp args (lookH hp) nx).out u).2 w')
def isGo (P : Program) (f : FuncId) : Bool :=
  match P.funcs[f]? with
  | some fn => !(fn.name == "runtime.NumGoroutine") && fn.body.isSome
  | none => false
theorem run_enter {f : FuncId} (h : isGo P f = true) (args : Array Value) (w : World) : (callFunc f args).run P w = .ok (.enter f args) w := by
  unfold isGo at h
  cases hf : P.funcs[f]? with
  | none => rw [hf] at h; cases h
  | some fn =>
    rw [hf] at h
    simp only [Bool.and_eq_true, Bool.not_eq_true'] at h
    obtain ⟨h1, h2⟩ := h
    have h3 : fn.name ≠ "runtime.NumGoroutine" := by simpa using h1
    cases hb : fn.body with
    | none => rw [hb] at h2; cases h2
    | some c => simp [callFunc, hf, h3, hb]
theorem gOk_nil : GOk P gnil := fun _ _ _ _ _ _ _ _ h => h.elim
theorem gOk_cons {f : FuncId} {sp : Spc} (hg : isGo P f = true) (hs : SpecOk P f sp) (hG : GOk P G) : GOk P (gcons f sp G) := by
  intro g args hp nx w0 O w H hv
  unfold gcons at hv ⊢
  cases e : (f == g)
  · rw [e] at hv; exact hG g args hp nx w0 O w H hv
  · have := eq_of_beq e; subst this
    rw [e] at hv
    exact ⟨run_enter hg _, hs args hp nx w0 O w H hv⟩
theorem slots_at {args : List SV} : ∀ (i t : Nat), look (slots i args) t = if i ≤ t ∧ t < i + args.length then nth args (t - i) else .un := by
  induction args with
  | nil => intro i t; simp [slots, look]; omega
  | cons x l ih =>
    intro i t
    simp only [slots, look]
    cases e : (i == t)
    · have hne : i ≠ t := by simpa using e
      simp only [cond_false, ih]
      by_cases h : i + 1 ≤ t ∧ t < i + 1 + l.length
      · rw [if_pos h, if_pos (by simp; omega)]
        obtain ⟨d, hd⟩ : ∃ d, t - i = d + 1 := ⟨t - i - 1, by omega⟩
        rw [hd, show t - (i + 1) = d by omega]; rfl
      · rw [if_neg h, if_neg (by simp; omega)]
    · have := eq_of_beq e; subst this
      simp [nth]
theorem revS_eq (l acc : List SV) : revS l acc = l.reverse ++ acc := by
  induction l generalizing acc with
  | nil => rfl
  | cons x l ih => simp [revS, ih]
theorem dens_append (l m : List SV) : dens (l ++ m) = dens l ++ dens m := by simp [dens_eq]
def resF (tmps : Array Value) : ResultVar → Sem Value
  | .tmp t => pure (tmps.getD t undef)
  | .cell t ty => do loadVar ty (← asAddr (tmps.getD t undef))
theorem results_eq (fn : Func) (tmps : Array Value) : results fn tmps = (do let vs ← fn.results.mapM (resF tmps); pure (if h : vs.size = 1 then vs[0] else .tuple vs)) := by
  unfold results
  congr 2
theorem retR_run {s : SS} {a : Act} {r : ResultVar} (hT : TyAll P T) (H : Holds w0 O N s a w) : Runs P w (resF a.tmps r) (retR T s r) := by
  cases r with
  | tmp t =>
    simp only [retR]
    have hs := H.slots t
    cases hl : look s.sl t <;> rw [hl] at hs <;> first | trivial | skip
    all_goals
      simp only [retT, Runs]
      intro hv
      have := hs (by simp)
      show Sem.run P (pure (a.tmps.getD t undef)) w = _
      rw [this]
    case c g x => subst hv; rfl
    all_goals rfl
  | cell t ty =>
    simp only [retR, isLit]
    cases ht : (T ty).ok with
    | false => trivial
    | true =>
      have hs := H.slots t
      have key := loadR_runs (hT ty ht) H.hh (look s.sl t)
      simp only [cond_true]
      generalize hr : loadR (T ty) (lookH s.hp) (look s.sl t) = r at key
      cases r with
      | bad => trivial
      | is vc x =>
        intro hv
        have hne : look s.sl t ≠ .un := by intro e; rw [e] at hr; cases hr
        have hk := key hv
        rw [← hs hne] at hk
        revert hk
        show _ → Sem.run P (do loadVar ty (← asAddr (a.tmps.getD t undef))) w = _
        generalize a.tmps.getD t undef = v
        intro hk
        cases v <;> try (simp [Instr.loadAt, Instr.sureAddr, Sem.run_bind, stuck] at hk; done)
        case pointer p =>
          cases p with
          | none => simp [Instr.loadAt, Instr.sureAddr, Sem.run_bind, stuck] at hk
          | some q => simpa [Instr.loadAt, Instr.sureAddr, asAddr, Sem.run_bind, Sem.run_pure] using hk
      | _ => exact key
theorem retL_run {s : SS} {a : Act} {post : SS → List SV → Prop} (hT : TyAll P T) (H : Holds w0 O N s a w) : ∀ (rv : List ResultVar) (acc : List SV), retL T s post rv acc →
    ∃ xs, (rv.mapM (resF a.tmps)).run P w = .ok (dens xs) w ∧ post s (acc.reverse ++ xs) := by
  intro rv
  induction rv with
  | nil =>
    intro acc h
    refine ⟨[], rfl, ?_⟩
    simp only [retL, revS_eq, List.append_nil] at h
    simpa using h
  | cons r rv ih =>
    intro acc h
    simp only [retL] at h
    have hr := retR_run (r := r) hT H
    generalize retR T s r = q at h hr
    cases q with
    | is vc x =>
      obtain ⟨hv, h⟩ := h
      obtain ⟨xs, h1, h2⟩ := ih (x :: acc) h
      refine ⟨x :: xs, ?_, by simpa using h2⟩
      simp only [List.mapM_cons, Sem.run_bind, hr hv, Result.andThen_ok, h1, Sem.run_pure, dens]
    | _ => exact h.elim
theorem results_run {fn : Func} {s : SS} {a : Act} {post : SS → List SV → Prop} (hT : TyAll P T) (H : Holds w0 O N s a w) (h : retL T s post fn.results.toList []) :
    ∃ xs, (results fn a.tmps).run P w = .ok (oneV xs) w ∧ post s xs := by
  obtain ⟨xs, h1, h2⟩ := retL_run hT H _ _ h
  refine ⟨xs, ?_, by simpa using h2⟩
  have : (fn.results.mapM (resF a.tmps)).run P w = .ok (dens xs).toArray w := by
    rw [Array.mapM_eq_mapM_toList]
    simp only [bind_pure_comp, Sem.run_map, h1]
    rfl
  rw [results_eq]
  simp only [Sem.run_bind, this, Result.andThen_ok, Sem.run_pure]
  cases xs with
  | nil => rfl
  | cons x xs =>
    cases xs with
    | nil => rfl
    | cons y ys => simp [oneV, dens]
def keyed : Nat → List Ch → Hp
  | _, [] => []
  | i, c :: l => (i, c) :: keyed (i + 1) l
theorem keyed_mem {l : List Ch} : ∀ {i k : Nat}, lookH (keyed i l) k = .no ∨ lookH (keyed i l) k ∈ l := by
  induction l with
  | nil => intro i k; exact .inl rfl
  | cons c l ih =>
    intro i k
    simp only [keyed, lookH]
    cases i == k
    · exact (ih (i := i + 1) (k := k)).imp id (List.mem_cons_of_mem _)
    · exact .inr (List.mem_cons_self)
theorem keyed_free {l : List Ch} : ∀ {i k : Nat}, i + l.length ≤ k → lookH (keyed i l) k = .no := by
  induction l with
  | nil => intro i k _; rfl
  | cons c l ih =>
    intro i k h
    simp only [List.length_cons] at h
    have : (i == k) = false := by simp; omega
    simp only [keyed, lookH, this, cond_false]
    exact ih (by omega)
def oldOf (hp : Hp) : Nat → Prop := fun b => ∃ k, foot (lookH hp k) b
theorem hh_args (l : List Ch) (i : Nat) (h : ∀ c ∈ l, Hold w.heap.size w c) (hm : ∀ c ∈ l, mutb c = false) : HH w (oldOf (keyed i l)) (keyed i l) w := by
  refine ⟨Below.refl _ _, fun k b hb => .inr ⟨k, hb⟩, fun k => ?_, fun k j _ hk => ?_⟩
  · rcases keyed_mem (l := l) (i := i) (k := k) with e | e
    · rw [e]; trivial
    · exact h _ e
  · rcases keyed_mem (l := l) (i := i) (k := k) with e | e
    · rw [e] at hk; cases hk
    · rw [hm _ e] at hk; cases hk
theorem free_args (l : List Ch) : ∀ k, l.length ≤ k → lookH (keyed 0 l) k = .no := fun k hk => keyed_free (by omega)
theorem calls_run_at {w0 : World} {f : FuncId} {fn : Func} {c : Code} {args : List SV} {hp : Hp} {nx n : Nat} {U : List (Nat × Nat)} {V : VT} {R : Ending → World → Prop} {post : SS → List SV → Prop}
    (hm : P.follows .mixedOrders = true) (hT : TyAll P T) (hG : GOk P G) (hf : P.funcs[f]? = some fn) (hb : fn.body = some c) (hok : okC V fn.ntmps c = true) (hn : args.length ≤ fn.ntmps)
    (H : HH w0 O hp w) (hfree : ∀ k, nx ≤ k → lookH hp k = .no)
    (hpost : ∀ s xs w', post s xs → HH w0 O s.hp w' → R (.returned (oneV xs)) w')
    (h : run (Leaf P (bodyPost P fn R) w0 O fn.ntmps V) (fun s => retL T s post fn.results.toList []) T G U V n [.code c] ⟨slots 0 args, hp, nx⟩) : Calls P f (dens args).toArray w R := by
  refine calls_of_wp hf hb ?_
  have hlen : (dens args).toArray.size = args.length := by simp [dens_len]
  have := run_sound (P := P) (B := bodyPost P fn R) (w0 := w0) (O := O) (N := fn.ntmps) hm hT hG (F := fun s => retL T s post fn.results.toList []) (fun s a w' hF HS => by
    obtain ⟨xs, h1, h2⟩ := results_run hT HS hF
    exact ⟨⟨HS.defers, _, h1, hpost s xs w' h2 HS.hh⟩, ⟨HS.defers, _, h1, hpost s xs w' h2 HS.hh⟩⟩) n [.code c] ⟨slots 0 args, hp, nx⟩ (by simp [okK, hok]) h
    { tmps := (dens args).toArray ++ Array.replicate (fn.ntmps - (dens args).toArray.size) undef, defers := [] } w ?_
  · exact wp_mono this (fun e a w h => h)
  · refine ⟨rfl, by simp [dens_len]; omega, fun t ht => ?_, H, hfree⟩
    simp only [slots_at, Nat.zero_add, Nat.zero_le, true_and, Nat.sub_zero] at ht ⊢
    by_cases hlt : t < args.length
    · rw [if_pos hlt]
      have := den_nth args t hlt
      rw [Array.getD_eq_getD_getElem?, Array.getElem?_append, hlen, if_pos hlt]
      simp [this]
    · rw [if_neg hlt] at ht; exact absurd rfl ht
theorem calls_run {f : FuncId} {fn : Func} {c : Code} {args : List SV} {hp : Hp} {nx n : Nat} {U : List (Nat × Nat)} {V : VT} {R : Ending → World → Prop} {post : SS → List SV → Prop}
    (hm : P.follows .mixedOrders = true) (hT : TyAll P T) (hG : GOk P G) (hf : P.funcs[f]? = some fn) (hb : fn.body = some c) (hok : okC V fn.ntmps c = true) (hn : args.length ≤ fn.ntmps)
    (H : HH w O hp w) (hfree : ∀ k, nx ≤ k → lookH hp k = .no)
    (hpost : ∀ s xs w', post s xs → HH w O s.hp w' → R (.returned (oneV xs)) w')
    (h : run (Leaf P (bodyPost P fn R) w O fn.ntmps V) (fun s => retL T s post fn.results.toList []) T G U V n [.code c] ⟨slots 0 args, hp, nx⟩) : Calls P f (dens args).toArray w R :=
  calls_run_at hm hT hG hf hb hok hn H hfree hpost h
theorem hh_pin {w : World} {b : Nat} {cs : List SV} {ty : TypeId} {k kp : Nat} {rs : Hp} (hb : w.heap[b]? = some (.cells (dens cs).toArray ty (0, 0))) (hr : ∀ j, Hold 0 w (lookH rs j) ∧ mutb (lookH rs j) = false ∧ ¬ foot (lookH rs j) b) (hk : lookH rs k = .no) (hkp : lookH rs kp = .no) (hne : k ≠ kp) :
    HH { w with heap := #[] } (fun _ => True) ((k, .blk b cs ty) :: (kp, .pin w.heap (fun i => i ≠ b)) :: rs) w := by
  have lk : ∀ j, lookH ((k, Ch.blk b cs ty) :: (kp, .pin w.heap (fun i => i ≠ b)) :: rs) j = if k = j then .blk b cs ty else if kp = j then .pin w.heap (fun i => i ≠ b) else lookH rs j := by
    intro j
    simp only [lookH]
    by_cases h1 : k = j
    · simp [h1]
    · have e1 : (k == j) = false := by simpa using h1
      by_cases h2 : kp = j
      · have e2 : (kp == j) = true := by simpa using h2
        rw [e1, e2, if_neg h1, if_pos h2]; rfl
      · have e2 : (kp == j) = false := by simpa using h2
        rw [e1, e2, if_neg h1, if_neg h2]; rfl
  refine ⟨⟨rfl, rfl, rfl, Nat.zero_le _, fun i hi => absurd hi (Nat.not_lt_zero i)⟩, fun _ _ _ => .inr trivial, fun j => ?_, fun i j hij hm q hq => ?_⟩
  · rw [lk]
    split
    · exact ⟨Nat.zero_le _, hb⟩
    · split
      · exact ⟨Nat.le_refl _, fun _ _ _ => rfl⟩
      · exact (hr j).1
  · rw [lk] at hm hq ⊢
    by_cases h1 : k = i
    · subst h1
      rw [if_pos rfl] at hq
      obtain rfl : q = b := hq
      rw [if_neg hij]
      split
      · exact fun h => h.2 rfl
      · exact (hr j).2.2
    · rw [if_neg h1] at hm
      split at hm
      · cases hm
      · rw [(hr i).2.1] at hm; cases hm
theorem stp_pin {w0 w w' : World} {O O' : Nat → Prop} {hp hp' : Hp} {b : Nat} {cs cs' : List SV} {ty : TypeId} {k j kp : Nat} (H : HH w0 O hp w) (hc : lookH hp k = .blk b cs ty) (H' : HH { w with heap := #[] } O' hp' w')
    (h1 : lookH hp' j = .blk b cs' ty) (h2 : lookH hp' kp = .pin w.heap (fun i => i ≠ b)) : Stp w0 hp w (some k) [(k, .blk b cs' ty)] w' := by
  have hk := H.hold k
  rw [hc] at hk
  have hj := H'.hold j
  rw [h1] at hj
  have hp := H'.hold kp
  rw [h2] at hp
  have lk : ∀ i, has [(k, Ch.blk b cs' ty)] i = true → i = k := by
    intro i hi
    simp only [has] at hi
    cases e : (k == i)
    · rw [e] at hi; cases hi
    · exact (eq_of_beq e).symm
  have ll : lookH [(k, Ch.blk b cs' ty)] k = .blk b cs' ty := by simp [lookH]
  refine ⟨H'.below.os, H'.below.tape, H'.below.output, hp.1, fun i hi hni => hp.2 i hi fun e => ?_, fun q e => ?_, fun i hi => ?_, fun i hi q hq => ?_, fun i i' hne hi hi' => absurd ((lk i hi).trans (lk i' hi').symm) hne⟩
  · subst e
    exact hni k rfl (by rw [hc]; rfl)
  · cases e
    exact ⟨by rw [hc]; rfl, by simp [has]⟩
  · rw [lk i hi, ll]
    exact ⟨hk.1, hj.2⟩
  · rw [lk i hi, ll] at hq
    rw [lk i hi, ll]
    refine .inr ⟨k, by rw [hc]; exact hq, .inl ⟨by rw [hc]; rfl, by simp [has]⟩⟩
end
end En
end Go.Proofs.YtnpkmimbnjnicaaGreatDoor
