/-
The plain mathematics of expressions (chapter 15): subtrees in a list of nodes of which only the number of operands (M) and of skipped numbers (K) counts; with no program in sight.
-/
import Derived.Test.YtpkldfkmokeamaaGreatDoorBa1
set_option linter.unusedSimpArgs false
set_option linter.unusedVariables false
namespace Go.Proofs.YtpkldfkmokeamaaGreatDoor
namespace Ex
section
variable (n : Nat) (M K : Nat → Nat)
def ends : Nat → Nat → Option Nat
  | 0, at_ => some at_
  | k + 1, at_ => if h : at_ < n then ends (k + M at_) (at_ + 1 + K at_) else none
termination_by _ at_ => n - at_
theorem ends_zero (a : Nat) : ends n M K 0 a = some a := by rw [ends]
theorem ends_in {k a : Nat} (h : a < n) : ends n M K (k + 1) a = ends n M K (k + M a) (a + 1 + K a) := by rw [ends, dif_pos h]
theorem ends_out {k a : Nat} (h : n ≤ a) : ends n M K (k + 1) a = none := by rw [ends, dif_neg (by omega)]
theorem ends_add (k : Nat) : ∀ (d j a : Nat), n - a ≤ d → ends n M K (j + k) a = (ends n M K j a).bind (ends n M K k) := by
  intro d
  induction d with
  | zero =>
    intro j a h
    cases j with
    | zero => rw [ends_zero, Nat.zero_add]; rfl
    | succ j => rw [show j + 1 + k = (j + k) + 1 by omega, ends_out n M K (by omega), ends_out n M K (by omega)]; rfl
  | succ d ih =>
    intro j a h
    cases j with
    | zero => rw [ends_zero, Nat.zero_add]; rfl
    | succ j =>
      rw [show j + 1 + k = (j + k) + 1 by omega]
      by_cases ha : a < n
      · rw [ends_in n M K ha, ends_in n M K ha, show j + k + M a = (j + M a) + k by omega]
        exact ih _ _ (by omega)
      · rw [ends_out n M K (by omega), ends_out n M K (by omega)]; rfl
theorem ends_plus (j k a : Nat) : ends n M K (j + k) a = (ends n M K j a).bind (ends n M K k) := ends_add n M K k (n - a) j a (Nat.le_refl _)
theorem ends_succ (k a : Nat) : ends n M K (k + 1) a = (ends n M K 1 a).bind (ends n M K k) := by rw [Nat.add_comm, ends_plus]
theorem ends_one {a : Nat} (h : a < n) : ends n M K 1 a = ends n M K (M a) (a + 1 + K a) := by rw [show (1 : Nat) = 0 + 1 from rfl, ends_in n M K h, Nat.zero_add]
def Fine : Prop := ∀ i, i < n → i + 1 + K i ≤ n
variable {n M K}
theorem ends_le (hK : Fine n K) : ∀ (d k a e : Nat), n - a ≤ d → a ≤ n → ends n M K k a = some e → a + k ≤ e ∧ e ≤ n := by
  intro d
  induction d with
  | zero =>
    intro k a e h ha he
    cases k with
    | zero => rw [ends_zero] at he; cases he; omega
    | succ k => rw [ends_out n M K (by omega)] at he; cases he
  | succ d ih =>
    intro k a e h ha he
    cases k with
    | zero => rw [ends_zero] at he; cases he; omega
    | succ k =>
      by_cases hn : a < n
      · rw [ends_in n M K hn] at he
        have h1 := hK a hn
        have := ih _ _ _ (by omega) h1 he
        omega
      · rw [ends_out n M K (by omega)] at he; cases he
theorem ends_bound (hK : Fine n K) {k a e : Nat} (ha : a ≤ n) (he : ends n M K k a = some e) : a + k ≤ e ∧ e ≤ n := ends_le hK _ k a e (Nat.le_refl _) ha he
def EndP (n : Nat) (M K : Nat → Nat) (i : Nat) : Nat := (ends n M K 1 i).getD n
def EndR (n : Nat) (M K : Nat → Nat) (i : Nat) : Nat := (ends n M K 1 i).getD (n + 1)
def wkP (n : Nat) (M K : Nat → Nat) : Nat → Nat → Nat
  | 0, a => a
  | m + 1, a => if n ≤ a then a else wkP n M K m (EndP n M K a)
theorem wkP_eq (hK : Fine n K) : ∀ (m a : Nat), a ≤ n → wkP n M K m a = (ends n M K m a).getD n
  | 0, a, _ => by rw [ends_zero]; rfl
  | m + 1, a, ha => by
    rw [wkP]
    by_cases h : a < n
    · rw [if_neg (by omega), ends_succ]
      cases he : ends n M K 1 a with
      | none =>
        rw [EndP, he]
        show wkP n M K m n = n
        cases m with
        | zero => rfl
        | succ m => rw [wkP, if_pos (Nat.le_refl _)]
      | some e =>
        rw [EndP, he]
        exact wkP_eq hK m e (ends_bound hK ha he).2
    · rw [if_pos (by omega), ends_out n M K (by omega)]
      show a = n
      omega
theorem EndP_rec (hK : Fine n K) {i : Nat} (h : i < n) : EndP n M K i = wkP n M K (M i) (i + 1 + K i) := by
  rw [wkP_eq hK _ _ (hK i h), EndP, ends_one n M K h]
theorem EndP_gt (hK : Fine n K) {i : Nat} (h : i < n) : i < EndP n M K i ∧ EndP n M K i ≤ n := by
  rw [EndP]
  cases he : ends n M K 1 i with
  | none => exact ⟨h, Nat.le_refl _⟩
  | some e =>
    have := ends_bound hK (Nat.le_of_lt h) he
    exact ⟨by show i < e; omega, this.2⟩
def Whole (n : Nat) (M K : Nat → Nat) (i : Nat) : Prop := (ends n M K 1 i).isSome = true
theorem Whole.lt {i : Nat} (h : Whole n M K i) : i < n := by
  rcases Nat.lt_or_ge i n with h1 | h1
  · exact h1
  · rw [Whole, show (1 : Nat) = 0 + 1 from rfl, ends_out n M K h1] at h; cases h
theorem Whole.same {i : Nat} (h : Whole n M K i) : EndP n M K i = EndR n M K i := by
  rw [Whole] at h
  rw [EndP, EndR]
  cases he : ends n M K 1 i with
  | none => rw [he] at h; cases h
  | some e => rfl
theorem whole_iff (hK : Fine n K) {i : Nat} (hi : i < n) : Whole n M K i ↔ EndR n M K i ≤ n := by
  rw [Whole, EndR]
  cases he : ends n M K 1 i with
  | none => simp
  | some e => simp; exact (ends_bound hK (Nat.le_of_lt hi) he).2
def plcP (n : Nat) (M K : Nat → Nat) : Nat → Nat → List Nat
  | 0, _ => []
  | m + 1, a => if n ≤ a then [] else a :: plcP n M K m (EndP n M K a)
def plcR (n : Nat) (M K : Nat → Nat) : Nat → Nat → List Nat
  | 0, _ => []
  | m + 1, a => a :: plcR n M K m (EndR n M K a)
theorem plc_same (hK : Fine n K) : ∀ (m a e : Nat), a ≤ n → ends n M K m a = some e → plcP n M K m a = plcR n M K m a ∧ (∀ p ∈ plcP n M K m a, Whole n M K p ∧ a ≤ p) ∧ (plcP n M K m a).length = m
  | 0, a, e, _, _ => ⟨rfl, fun p hp => (by cases hp), rfl⟩
  | m + 1, a, e, ha, he => by
    rw [ends_succ] at he
    cases h1 : ends n M K 1 a with
    | none => rw [h1] at he; cases he
    | some e1 =>
      rw [h1] at he
      have hw : Whole n M K a := by rw [Whole, h1]; rfl
      have hb := ends_bound hK ha h1
      obtain ⟨i1, i2, i3⟩ := plc_same hK m e1 e hb.2 he
      have hp : EndP n M K a = e1 := by rw [EndP, h1]; rfl
      have hr : EndR n M K a = e1 := by rw [EndR, h1]; rfl
      rw [plcP, plcR, if_neg (by have := hw.lt; omega), hp, hr]
      refine ⟨by rw [i1], fun p hm => ?_, by rw [List.length_cons, i3]⟩
      rcases List.mem_cons.1 hm with rfl | hm
      · exact ⟨hw, Nat.le_refl _⟩
      · have := i2 p hm
        exact ⟨this.1, by omega⟩
theorem plcP_in (hK : Fine n K) : ∀ (m a : Nat), ∀ p ∈ plcP n M K m a, a ≤ p ∧ p < n
  | 0, a, p, hp => by cases hp
  | m + 1, a, p, hp => by
    rw [plcP] at hp
    by_cases h : n ≤ a
    · rw [if_pos h] at hp; cases hp
    · rw [if_neg h] at hp
      rcases List.mem_cons.1 hp with rfl | hp
      · omega
      · have := plcP_in hK m _ p hp
        have := EndP_gt (M := M) hK (i := a) (by omega)
        omega
def kidsP (n : Nat) (M K : Nat → Nat) (i : Nat) : List Nat := plcP n M K (M i) (i + 1 + K i)
def kidsR (n : Nat) (M K : Nat → Nat) (i : Nat) : List Nat := plcR n M K (M i) (i + 1 + K i)
theorem kidsP_in (hK : Fine n K) {i p : Nat} (hp : p ∈ kidsP n M K i) : i < p ∧ p < n := by
  have := plcP_in hK _ _ p hp
  omega
theorem Whole.kids (hK : Fine n K) {i : Nat} (h : Whole n M K i) : kidsP n M K i = kidsR n M K i ∧ (∀ p ∈ kidsP n M K i, Whole n M K p) ∧ (kidsP n M K i).length = M i := by
  have hi := h.lt
  rw [Whole, ends_one n M K hi] at h
  obtain ⟨e, he⟩ := Option.isSome_iff_exists.1 h
  have := plc_same hK _ _ e (hK i hi) he
  exact ⟨this.1, fun p hp => (this.2.1 p hp).1, this.2.2⟩
def most (l : List Nat) : Nat := l.foldl max 0
def depF (n : Nat) (M K : Nat → Nat) : Nat → Nat → Nat
  | 0, _ => 0
  | f + 1, i => most ((kidsP n M K i).map (depF n M K f)) + 1
def Dep (n : Nat) (M K : Nat → Nat) (i : Nat) : Nat := depF n M K (n - i) i
theorem depF_same (hK : Fine n K) : ∀ (f g i : Nat), n - i ≤ f → n - i ≤ g → i < n → depF n M K f i = depF n M K g i
  | 0, g, i, h, _, hi => by omega
  | f + 1, 0, i, _, h, hi => by omega
  | f + 1, g + 1, i, hf, hg, hi => by
    rw [depF, depF]
    congr 2
    refine List.map_congr_left fun p hp => ?_
    have := kidsP_in hK hp
    exact depF_same hK f g p (by omega) (by omega) this.2
theorem Dep_rec (hK : Fine n K) {i : Nat} (hi : i < n) : Dep n M K i = most ((kidsP n M K i).map (Dep n M K)) + 1 := by
  rw [Dep, show n - i = (n - i - 1) + 1 by omega, depF]
  congr 2
  refine List.map_congr_left fun p hp => ?_
  have := kidsP_in hK hp
  exact depF_same hK _ _ p (by omega) (by omega) this.2
theorem Dep_le (hK : Fine n K) : ∀ (d i : Nat), n - i ≤ d → i < n → 1 ≤ Dep n M K i ∧ Dep n M K i ≤ n - i := by
  intro d
  induction d with
  | zero => intro i h hi; omega
  | succ d ih =>
    intro i h hi
    rw [Dep_rec hK hi]
    have : ∀ (l : List Nat) (z : Nat), z < n - i → (∀ p ∈ l, i < p ∧ p < n) → l.foldl (fun a p => max a (Dep n M K p)) z < n - i := by
      intro l
      induction l with
      | nil => intro z hz _; exact hz
      | cons p l ihl =>
        intro z hz hp
        rw [List.foldl_cons]
        have h1 := hp p (List.mem_cons_self ..)
        have h2 := ih p (by omega) h1.2
        exact ihl _ (by rw [Nat.max_def]; split <;> omega) fun q hq => hp q (List.mem_cons_of_mem _ hq)
    have h1 := this (kidsP n M K i) 0 (by omega) fun p hp => kidsP_in hK hp
    rw [most, List.foldl_map]
    omega
def scan (n : Nat) (M K : Nat → Nat) : Nat → Nat → Nat × Nat
  | 0, a => (0, a)
  | k + 1, a => if h : a < n then scan n M K (k + M a) (a + 1 + K a) else (k + 1, a)
termination_by _ a => n - a
theorem scan_zero (a : Nat) : scan n M K 0 a = (0, a) := by rw [scan]
theorem scan_lt {k a : Nat} (h : a < n) : scan n M K (k + 1) a = scan n M K (k + M a) (a + 1 + K a) := by rw [scan, dif_pos h]
theorem scan_out {k a : Nat} (h : n ≤ a) : scan n M K (k + 1) a = (k + 1, a) := by rw [scan, dif_neg (by omega)]
theorem scan_ends : ∀ (d k a : Nat), n - a ≤ d → (∀ e, ends n M K k a = some e → scan n M K k a = (0, e)) ∧ (ends n M K k a = none → 0 < (scan n M K k a).1) := by
  intro d
  induction d with
  | zero =>
    intro k a h
    cases k with
    | zero => rw [ends_zero, scan_zero]; exact ⟨fun e he => by cases he; rfl, fun he => by cases he⟩
    | succ k => rw [ends_out n M K (by omega), scan_out (by omega)]; exact ⟨fun e he => (by cases he), fun _ => Nat.succ_pos _⟩
  | succ d ih =>
    intro k a h
    cases k with
    | zero => rw [ends_zero, scan_zero]; exact ⟨fun e he => by cases he; rfl, fun he => by cases he⟩
    | succ k =>
      by_cases ha : a < n
      · rw [ends_in n M K ha, scan_lt ha]; exact ih _ _ (by omega)
      · rw [ends_out n M K (by omega), scan_out (by omega)]; exact ⟨fun e he => (by cases he), fun _ => Nat.succ_pos _⟩
def lastP (n : Nat) (M K : Nat → Nat) (long : Nat) : Nat × Nat :=
  if 0 < (scan n M K 1 0).1 then (n, 1) else if (scan n M K 1 0).2 < n then ((scan n M K 1 0).2, 1) else if long < Dep n M K 0 then (0, 2) else (0, 0)
def lastR (n : Nat) (M K : Nat → Nat) (long : Nat) : Nat × Nat :=
  if n < EndR n M K 0 then (n, 1) else if EndR n M K 0 < n then (EndR n M K 0, 1) else if long < Dep n M K 0 then (0, 2) else (0, 0)
theorem last_same (hK : Fine n K) (hn : 0 < n) (long : Nat) : lastP n M K long = lastR n M K long := by
  have h := scan_ends (n := n) (M := M) (K := K) _ 1 0 (Nat.le_refl _)
  rw [lastP, lastR, EndR]
  cases he : ends n M K 1 0 with
  | none => rw [if_pos (h.2 he), if_pos (by show n < n + 1; omega)]
  | some e =>
    have hb := ends_bound hK (Nat.zero_le _) he
    rw [h.1 e he, if_neg (by show ¬ (0 < 0); omega), if_neg (c := n < (some e).getD (n + 1)) (by show ¬ (n < e); omega)]
    rfl
theorem last_whole (hK : Fine n K) (hn : 0 < n) {long : Nat} (h : lastR n M K long = (0, 0)) : Whole n M K 0 ∧ EndR n M K 0 = n ∧ Dep n M K 0 ≤ long := by
  rw [lastR] at h
  split at h
  · exact absurd (congrArg Prod.snd h) (by simp)
  · split at h
    · exact absurd (congrArg Prod.snd h) (by simp)
    · split at h
      · exact absurd (congrArg Prod.snd h) (by simp)
      · exact ⟨(whole_iff hK hn).2 (by omega), by omega, by omega⟩
def ordF (n : Nat) (M K : Nat → Nat) : Nat → Nat → List Nat
  | 0, _ => []
  | f + 1, i => ((kidsP n M K i).reverse.flatMap (ordF n M K f)) ++ [i]
def Ord (n : Nat) (M K : Nat → Nat) (i : Nat) : List Nat := ordF n M K (n - i) i
theorem ordF_same (hK : Fine n K) : ∀ (f g i : Nat), n - i ≤ f → n - i ≤ g → i < n → ordF n M K f i = ordF n M K g i
  | 0, g, i, h, _, hi => by omega
  | f + 1, 0, i, _, h, hi => by omega
  | f + 1, g + 1, i, hf, hg, hi => by
    rw [ordF, ordF]
    congr 1
    rw [List.flatMap_def, List.flatMap_def]
    congr 1
    refine List.map_congr_left fun p hp => ?_
    have := kidsP_in hK (List.mem_reverse.1 hp)
    exact ordF_same hK f g p (by omega) (by omega) this.2
theorem Ord_rec (hK : Fine n K) {i : Nat} (hi : i < n) : Ord n M K i = ((kidsP n M K i).reverse.flatMap (Ord n M K)) ++ [i] := by
  rw [Ord, show n - i = (n - i - 1) + 1 by omega, ordF]
  congr 1
  rw [List.flatMap_def, List.flatMap_def]
  congr 1
  refine List.map_congr_left fun p hp => ?_
  have := kidsP_in hK (List.mem_reverse.1 hp)
  exact ordF_same hK _ _ p (by omega) (by omega) this.2
end
end Ex
end Go.Proofs.YtpkldfkmokeamaaGreatDoor
/-
The order of evaluation (chapter 15), plainly: it is the list of the nodes that are no numbers of lists, from the last one to the first.
-/
set_option linter.unusedSimpArgs false
set_option linter.unusedVariables false
namespace Go.Proofs.YtpkldfkmokeamaaGreatDoor
namespace Ex
section
variable {n : Nat} {M K : Nat → Nat}
def nodes (n : Nat) (M K : Nat → Nat) : Nat → Nat → List Nat
  | 0, _ => []
  | k + 1, a => if h : a < n then a :: nodes n M K (k + M a) (a + 1 + K a) else []
termination_by _ a => n - a
theorem nodes_zero (a : Nat) : nodes n M K 0 a = [] := by rw [nodes]
theorem nodes_in {k a : Nat} (h : a < n) : nodes n M K (k + 1) a = a :: nodes n M K (k + M a) (a + 1 + K a) := by rw [nodes, dif_pos h]
theorem nodes_out {k a : Nat} (h : n ≤ a) : nodes n M K (k + 1) a = [] := by rw [nodes, dif_neg (by omega)]
theorem nodes_one {a : Nat} (h : a < n) : nodes n M K 1 a = a :: nodes n M K (M a) (a + 1 + K a) := by rw [show (1 : Nat) = 0 + 1 from rfl, nodes_in h, Nat.zero_add]
theorem nodes_add (k : Nat) : ∀ (d j a e : Nat), n - a ≤ d → ends n M K j a = some e → nodes n M K (j + k) a = nodes n M K j a ++ nodes n M K k e := by
  intro d
  induction d with
  | zero =>
    intro j a e h he
    cases j with
    | zero => rw [ends_zero] at he; cases he; rw [nodes_zero, Nat.zero_add]; rfl
    | succ j => rw [ends_out n M K (by omega)] at he; cases he
  | succ d ih =>
    intro j a e h he
    cases j with
    | zero => rw [ends_zero] at he; cases he; rw [nodes_zero, Nat.zero_add]; rfl
    | succ j =>
      by_cases ha : a < n
      · rw [ends_in n M K ha] at he
        rw [show j + 1 + k = (j + k) + 1 by omega, nodes_in ha, nodes_in ha, show j + k + M a = (j + M a) + k by omega, ih _ _ _ (by omega) he]
        rfl
      · rw [ends_out n M K (by omega)] at he; cases he
theorem nodes_plc (hK : Fine n K) : ∀ (m a e : Nat), a ≤ n → ends n M K m a = some e → nodes n M K m a = (plcP n M K m a).flatMap (nodes n M K 1)
  | 0, a, e, _, _ => by rw [nodes_zero]; rfl
  | m + 1, a, e, ha, he => by
    rw [ends_succ] at he
    cases h1 : ends n M K 1 a with
    | none => rw [h1] at he; cases he
    | some e1 =>
      rw [h1] at he
      have hw : Whole n M K a := by rw [Whole, h1]; rfl
      have hb := ends_bound hK ha h1
      have hp : EndP n M K a = e1 := by rw [EndP, h1]; rfl
      rw [Nat.add_comm, nodes_add m _ 1 a e1 (Nat.le_refl _) h1, nodes_plc hK m e1 e hb.2 he, Nat.add_comm, plcP, if_neg (by have := hw.lt; omega), hp, List.flatMap_cons]
theorem rev_flat {α β : Type} (f : α → List β) : ∀ l : List α, (l.flatMap f).reverse = l.reverse.flatMap fun x => (f x).reverse
  | [] => rfl
  | x :: l => by rw [List.flatMap_cons, List.reverse_append, rev_flat f l, List.reverse_cons, List.flatMap_append, List.flatMap_singleton]
theorem Ord_nodes (hK : Fine n K) : ∀ (d i : Nat), n - i ≤ d → Whole n M K i → Ord n M K i = (nodes n M K 1 i).reverse := by
  intro d
  induction d with
  | zero => intro i h hw; have := hw.lt; omega
  | succ d ih =>
    intro i h hw
    have hi := hw.lt
    have he := hw
    rw [Whole, ends_one n M K hi] at he
    obtain ⟨e, he⟩ := Option.isSome_iff_exists.1 he
    rw [Ord_rec hK hi, nodes_one hi, List.reverse_cons, nodes_plc hK _ _ e (hK i hi) he, rev_flat]
    congr 1
    show (kidsP n M K i).reverse.flatMap _ = (kidsP n M K i).reverse.flatMap _
    rw [List.flatMap_def, List.flatMap_def]
    congr 1
    refine List.map_congr_left fun p hp => ?_
    have hm := List.mem_reverse.1 hp
    exact ih p (by have := kidsP_in hK hm; omega) ((hw.kids hK).2.1 p hm)
def numb (K : Nat → Nat) (p : Nat) : Bool := (List.range p).any fun j => decide (p ≤ j + K j)
theorem numb_iff {p : Nat} : numb K p = true ↔ ∃ j, j < p ∧ p ≤ j + K j := by simp [numb]
def Plain (n : Nat) (M K : Nat → Nat) : Prop := ∀ j, j < n → 0 < K j → M j = 0 ∧ ∀ q, j < q → q ≤ j + K j → M q = 0 ∧ K q = 0
def Clean (K : Nat → Nat) (a : Nat) : Prop := ∀ j, j < a → j + K j < a
theorem Clean.numb {a : Nat} (h : Clean K a) : numb K a = false := by
  rw [Bool.eq_false_iff]
  intro hc
  obtain ⟨j, h1, h2⟩ := numb_iff.1 hc
  have := h j h1
  omega
theorem Clean.next {a : Nat} (hP : Plain n M K) (ha : a < n) (h : Clean K a) : Clean K (a + 1 + K a) := by
  intro j hj
  rcases Nat.lt_trichotomy j a with h1 | h1 | h1
  · have := h j h1; omega
  · subst h1; omega
  · have := ((hP a ha (by omega)).2 j h1 (by omega)).2
    omega
theorem numb_mid {a p : Nat} (h1 : a < p) (h2 : p ≤ a + K a) : numb K p = true := numb_iff.2 ⟨a, h1, h2⟩
theorem filter_mid {a : Nat} : (List.range' (a + 1) (K a)).filter (fun p => !numb K p) = [] := by
  rw [List.filter_eq_nil_iff]
  intro p hp
  rw [List.mem_range'_1] at hp
  rw [numb_mid (a := a) (by omega) (by omega)]
  simp
theorem nodes_filter (hK : Fine n K) (hP : Plain n M K) : ∀ (d k a e : Nat), n - a ≤ d → a ≤ n → Clean K a → ends n M K k a = some e →
    nodes n M K k a = (List.range' a (e - a)).filter (fun p => !numb K p) ∧ Clean K e := by
  intro d
  induction d with
  | zero =>
    intro k a e h ha hc he
    cases k with
    | zero => rw [ends_zero] at he; cases he; rw [nodes_zero, Nat.sub_self]; exact ⟨rfl, hc⟩
    | succ k => rw [ends_out n M K (by omega)] at he; cases he
  | succ d ih =>
    intro k a e h ha hc he
    cases k with
    | zero => rw [ends_zero] at he; cases he; rw [nodes_zero, Nat.sub_self]; exact ⟨rfl, hc⟩
    | succ k =>
      by_cases hn : a < n
      · rw [ends_in n M K hn] at he
        have h1 := hK a hn
        obtain ⟨i1, i2⟩ := ih _ _ _ (by omega) h1 (hc.next hP hn) he
        have hb := ends_bound hK h1 he
        refine ⟨?_, i2⟩
        rw [nodes_in hn, i1, show e - a = (1 + K a) + (e - (a + 1 + K a)) by omega, ← List.range'_append_1, List.filter_append, Nat.add_comm 1 (K a), List.range'_succ, List.filter_cons, hc.numb, filter_mid]
        rw [show a + (K a + 1) = a + 1 + K a by omega]
        rfl
      · rw [ends_out n M K (by omega)] at he; cases he
theorem Clean.zero : Clean K 0 := fun j hj => absurd hj (Nat.not_lt_zero j)
theorem nodes_whole (hK : Fine n K) : ∀ (d k a e : Nat), n - a ≤ d → a ≤ n → ends n M K k a = some e → ∀ p ∈ nodes n M K k a, Whole n M K p ∧ EndR n M K p ≤ e := by
  intro d
  induction d with
  | zero =>
    intro k a e h ha he p hp
    cases k with
    | zero => rw [nodes_zero] at hp; cases hp
    | succ k => rw [ends_out n M K (by omega)] at he; cases he
  | succ d ih =>
    intro k a e h ha he p hp
    cases k with
    | zero => rw [nodes_zero] at hp; cases hp
    | succ k =>
      by_cases hn : a < n
      · have he2 := he
        rw [ends_in n M K hn] at he
        rw [nodes_in hn] at hp
        rcases List.mem_cons.1 hp with rfl | hp
        · rw [ends_succ] at he2
          cases h1 : ends n M K 1 p with
          | none => rw [h1] at he2; cases he2
          | some e1 =>
            rw [h1] at he2
            have hb := ends_bound hK ha h1
            have hb2 := ends_bound hK hb.2 he2
            exact ⟨by rw [Whole, h1]; rfl, by rw [EndR, h1]; show e1 ≤ e; omega⟩
        · exact ih _ _ _ (by omega) (hK a hn) he p hp
      · rw [ends_out n M K (by omega)] at he; cases he
theorem all_whole (hK : Fine n K) (hP : Plain n M K) (hw : Whole n M K 0) (he : EndR n M K 0 = n) {p : Nat} (hp : p < n) (hn : numb K p = false) : Whole n M K p := by
  have h := hw
  rw [Whole] at h
  obtain ⟨e, h1⟩ := Option.isSome_iff_exists.1 h
  have h2 : e = n := by rw [EndR, h1] at he; exact he
  subst h2
  have hm : p ∈ nodes e M K 1 0 := by
    rw [(nodes_filter hK hP _ 1 0 e (Nat.le_refl _) (Nat.zero_le _) Clean.zero h1).1, List.mem_filter, List.mem_range'_1, hn]
    exact ⟨⟨Nat.zero_le _, by omega⟩, rfl⟩
  exact (nodes_whole hK _ 1 0 e (Nat.le_refl _) (Nat.zero_le _) h1 p hm).1
end
end Ex
end Go.Proofs.YtpkldfkmokeamaaGreatDoor
