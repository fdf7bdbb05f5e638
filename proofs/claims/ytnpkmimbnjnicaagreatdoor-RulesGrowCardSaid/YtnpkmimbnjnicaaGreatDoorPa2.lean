/-
prims.table (chapter 12), run.
-/
import Derived.Test.YtnpkmimbnjnicaaGreatDoorPa1
set_option linter.unusedSimpArgs false
set_option linter.unusedVariables false
namespace Go.Proofs.YtnpkmimbnjnicaaGreatDoor
namespace Pr
open Go Go.RowKit En
def tiT : List (TypeId × TI) := (141, ⟨true, false, 1, [.v (.slice none 0 0)], [], 108, 0, 80, 1, 5⟩) :: tiP
theorem tiT_ok : TyAll Tryz.prog (lookT tiT) := tyAll_cons (.mk' (by kernel_rfl) (by kernel_rfl) (by decide) (by decide) (by kernel_rfl) (by kernel_rfl)) tiP_ok
def rowOk (H : Nat → Ch) (i : Nat) : List SV → Prop
  | [.v (.string nm), L, E, .v f, .v g] => nm = pNames.getD i ByteArray.empty ∧ getS H L = some (pLines.getD i []) ∧ (keyS L = 2 ∨ keyS L = 3 ∨ ownS H L = true) ∧ getN H E = some (pErrs.getD i []) ∧ ownS H E = true ∧ f = pOne.getD i .nilFunc ∧ g = pTwo.getD i .nilFunc
  | _ => False
def rowsOk (H : Nat → Ch) : Nat → List SV → Prop
  | i, a :: b :: c :: d :: e :: l => rowOk H i [a, b, c, d, e] ∧ rowsOk H (i + 1) l
  | i, [] => i = 41
  | _, _ => False
def tblPost (bn on ba oa : Nat) (s : SS) (xs : List SV) : Prop := ∃ k b t cells, xs = [.gp k b 0 41 41] ∧ lookH s.hp k = .blk b cells t ∧ lookH s.hp 2 = .cst bn on numsL ∧ lookH s.hp 3 = .cst ba oa alikeL ∧ rowsOk (lookH s.hp) 0 cells
set_option maxRecDepth 100000 in
set_option maxHeartbeats 8000000 in
theorem table_run (bn on cn ba oa ca : Nat) (h4 : 4 ≤ cn) (h3 : 3 ≤ ca) (w : World) (hg : allRd w.heap.size w (gHp bn on cn ba oa ca)) :
    Calls Tryz.prog 109 #[] w fun e w' => ∃ s xs, e = .returned (oneV xs) ∧ tblPost bn on ba oa s xs ∧ HH w (oldOf (gHp bn on cn ba oa ca)) s.hp w' := by
  have h4' : (4 : Int) ≤ cn := by omega
  have h3' : (3 : Int) ≤ ca := by omega
  have h1' : (1 : Int) ≤ cn := by omega
  have hc0 : (0 == cn) = false := by simp; omega
  refine calls_run (args := []) (hp := gHp bn on cn ba oa ca) (nx := 1000) (n := 400) (U := []) (V := []) (T := lookT tiT) (G := gamTable) (post := tblPost bn on ba oa)
    followP tiT_ok gamTable_ok Tryz.func109 rfl (by kernel_rfl) (by show 0 ≤ 102; decide) (hh_list hg) (free_list (by simp [allLt, gHp])) ?_ ?_
  · exact fun s xs w' hp H => ⟨s, xs, rfl, hp, H⟩
  rw [Tryz.results109]
  repeat (
    simp (maxSteps := 1000000) only [En.ES, En.evsC, List.map_cons, List.map_nil, ne_eq, En.bitN, Nat.testBit, seval, tiT, tiP, gamTable, spErrs_q, spPair_q0, spPair_q1, pairB_q1, pairB_q2, pairRes_q, globR_q, cellsI_nil, cellsI_cons, lenI_nil, lenI_cons, gHp, hc0, h4', h4, h3, h3', h1']
    first
    | with_reducible refine stD_new (by simp) fun b => ?_
    | with_reducible refine stD_val (by simp) fun A c => ?_
    | with_reducible refine stR_new (by simp) fun b => ?_
    | with_reducible refine stR_val (by simp) fun A c => ?_)
  simp (maxSteps := 1000000) only [En.ES, En.evsC, List.map_cons, List.map_nil, ne_eq, En.bitN, Nat.testBit, seval, tiT, tiP, gamTable, spErrs_q, spPair_q0, spPair_q1, pairB_q1, pairB_q2, pairRes_q, globR_q, cellsI_nil, cellsI_cons, lenI_nil, lenI_cons, gHp, hc0, h4', h4, h3, h3', h1']
  have n1 : 1 ≤ cn := by omega
  have n3 : 3 ≤ cn - 1 := by omega
  refine ⟨_, _, _, _, rfl, rfl, rfl, rfl, ?_⟩
  simp only [rowsOk, rowOk, Nat.zero_add, Nat.reduceAdd, and_true]
  repeat' refine And.intro ?_ ?_
  all_goals first
    | rfl
    | (simp [getS, getN, keyS, ownS, lookH, showC, lenS, cut, strsOf, intsOf, numsL, alikeL, mutb, n1, n3, h3]; done)
    | (simp [getS, getN, keyS, ownS, lookH, showC, lenS, cut, strsOf, intsOf, numsL, alikeL, mutb, n1, n3, h3]; rfl)
end Pr
end Go.Proofs.YtnpkmimbnjnicaaGreatDoor
/-
prims.table (chapter 12): its contract.
-/
set_option linter.unusedSimpArgs false
set_option linter.unusedVariables false
namespace Go.Proofs.YtnpkmimbnjnicaaGreatDoor
namespace Pr
open Go Go.RowKit En
abbrev linesL (i : Nat) : List ByteArray := pLines.getD i []
abbrev errsL (i : Nat) : List Int := pErrs.getD i []
def rowV (f g : Nat → Option Addr × Nat) (i : Nat) : List Value :=
  [.string (pNames.getD i ByteArray.empty), .slice (f i).1 (linesL i).length (f i).2, .slice (g i).1 (errsL i).length (g i).2, pOne.getD i .nilFunc, pTwo.getD i .nilFunc]
theorem rows_le {H : Nat → Ch} : ∀ (n i : Nat) (cells : List SV), cells.length ≤ n → rowsOk H i cells → i ≤ 41 := by
  intro n
  induction n with
  | zero =>
    intro i cells hl h
    have : cells = [] := List.eq_nil_of_length_eq_zero (by omega)
    subst this
    have : i = 41 := h
    omega
  | succ n ih =>
    intro i cells hl h
    match cells, hl, h with
    | [], _, h => have : i = 41 := h; omega
    | a :: b :: c :: d :: e :: l, hl, h =>
      have := ih (i + 1) l (by simp only [List.length_cons] at hl; omega) h.2
      omega
    | [_], _, h => exact h.elim
    | [_, _], _, h => exact h.elim
    | [_, _, _], _, h => exact h.elim
    | [_, _, _, _], _, h => exact h.elim
def RowAt (w0 w : World) (hp : Hp) (f g : Nat → Option Addr × Nat) (j : Nat) : Prop :=
  (SlOk w (f j).1 (f j).2 1 (linesL j).length (fS (linesL j)) ∧ (linesL j ≠ [] → ∀ q, (∃ a, (f j).1 = some a ∧ a.block = q) → w0.heap.size ≤ q ∨ foot (lookH hp 2) q ∨ foot (lookH hp 3) q)) ∧
  (SlOk w (g j).1 (g j).2 1 (errsL j).length (fI .i64 (errsL j)) ∧ (errsL j ≠ [] → ∀ q, (∃ a, (g j).1 = some a ∧ a.block = q) → w0.heap.size ≤ q))
theorem own_mut {H : Nat → Ch} {x : SV} (h : ownS H x = true) : mutb (H (keyS x)) = true ∨ x = .v (.slice none 0 0) := by
  unfold ownS at h
  split at h
  · exact .inl h
  · exact .inl h
  · exact .inr rfl
  · cases h
theorem row_spec {O : Nat → Prop} {w0 w : World} {hp : Hp} (H : HH w0 O hp w) {i : Nat} {r : List SV} (h : rowOk (lookH hp) i r) : ∃ F G : Option Addr × Nat, ∀ f g : Nat → Option Addr × Nat, f i = F → g i = G → dens r = rowV f g i ∧ RowAt w0 w hp f g i := by
  unfold rowOk at h
  split at h
  · next nm L E f0 g0 =>
    obtain ⟨rfl, hL, hk, hE, ho, rfl, rfl⟩ := h
    obtain ⟨A, c, e1, s1, f1⟩ := getS_ok H hL
    obtain ⟨B, d, e2, s2, f2⟩ := getN_ok H hE
    refine ⟨(A, c), (B, d), fun f g hf hg => ⟨by simp only [dens, rowV, hf, hg, den, e1, e2], ?_⟩⟩
    unfold RowAt
    rw [hf, hg]
    refine ⟨⟨s1, fun hne q hq => ?_⟩, s2, fun hne q hq => ?_⟩
    · have := f1 hne q hq
      rcases hk with k2 | k3 | ho'
      · rw [k2] at this; exact .inr (.inl this)
      · rw [k3] at this; exact .inr (.inr this)
      · rcases own_mut ho' with hm | e
        · exact .inl ((H.hold _).ge hm q this)
        · subst e
          obtain ⟨a, ha, _⟩ := hq
          have : A = none := by
            have e1 : Value.slice none 0 0 = .slice A (linesL i).length c := e1
            injection e1 with q1; exact q1.symm
          rw [this] at ha; cases ha
    · have := f2 hne q hq
      rcases own_mut ho with hm | e
      · exact (H.hold _).ge hm q this
      · subst e
        obtain ⟨a, ha, _⟩ := hq
        have : B = none := by
          have e2 : Value.slice none 0 0 = .slice B (errsL i).length d := e2
          injection e2 with q1; exact q1.symm
        rw [this] at ha; cases ha
  · exact h.elim
theorem rows_spec {O : Nat → Prop} {w0 w : World} {hp : Hp} (H : HH w0 O hp w) : ∀ (m i : Nat) (cells : List SV), rowsOk (lookH hp) i cells → i + m = 41 →
    ∃ f g : Nat → Option Addr × Nat, dens cells = (List.range' i m).flatMap (rowV f g) ∧ ∀ j, i ≤ j → j < 41 → RowAt w0 w hp f g j := by
  intro m
  induction m with
  | zero =>
    intro i cells h hi
    match cells, h with
    | [], _ => exact ⟨fun _ => (none, 0), fun _ => (none, 0), rfl, fun j h1 h2 => by omega⟩
    | a :: b :: c :: d :: e :: l, h => have := rows_le l.length (i + 1) l (Nat.le_refl _) h.2; omega
    | [_], h => exact h.elim
    | [_, _], h => exact h.elim
    | [_, _, _], h => exact h.elim
    | [_, _, _, _], h => exact h.elim
  | succ m ih =>
    intro i cells h hi
    match cells, h with
    | [], h => have : i = 41 := h; omega
    | [_], h => exact h.elim
    | [_, _], h => exact h.elim
    | [_, _, _], h => exact h.elim
    | [_, _, _, _], h => exact h.elim
    | a :: b :: c :: d :: e :: l, h =>
      obtain ⟨f, g, e1, r1⟩ := ih (i + 1) l h.2 (by omega)
      obtain ⟨F, G, hr⟩ := row_spec H h.1
      let f' : Nat → Option Addr × Nat := fun j => if j = i then F else f j
      let g' : Nat → Option Addr × Nat := fun j => if j = i then G else g j
      obtain ⟨e2, r2⟩ := hr f' g' (if_pos rfl) (if_pos rfl)
      have hf : ∀ j, i < j → f' j = f j ∧ g' j = g j := fun j hj => ⟨if_neg (by omega), if_neg (by omega)⟩
      refine ⟨f', g', ?_, fun j h1 h2 => ?_⟩
      · have e3 : dens (a :: b :: c :: d :: e :: l) = dens [a, b, c, d, e] ++ dens l := rfl
        have e4 : (List.range' (i + 1) m).flatMap (rowV f' g') = (List.range' (i + 1) m).flatMap (rowV f g) := by
          rw [List.flatMap_def, List.flatMap_def]
          congr 1
          refine List.map_congr_left fun j hj => ?_
          have : i + 1 ≤ j := by
            rw [List.mem_range'] at hj
            obtain ⟨q, _, rfl⟩ := hj; omega
          obtain ⟨q1, q2⟩ := hf j (by omega)
          simp only [rowV, q1, q2]
        rw [e3, e2, List.range'_succ, List.flatMap_cons, e4, ← e1]
      · by_cases ej : j = i
        · subst ej; exact r2
        · obtain ⟨q1, q2⟩ := hf j (by omega)
          have := r1 j (by omega) h2
          unfold RowAt at this ⊢
          rw [q1, q2]; exact this
def tblRow (nx : Nat) (M : Nat → Option Addr × Nat) (i : Nat) : List SV :=
  [.v (.string (pNames.getD i ByteArray.empty)), .g (nx + 1 + 2 * i) (M (2 * i)).1 (linesL i).length (M (2 * i)).2, .g (nx + 2 + 2 * i) (M (2 * i + 1)).1 (errsL i).length (M (2 * i + 1)).2, .v (pOne.getD i .nilFunc), .v (pTwo.getD i .nilFunc)]
def tblCells (nx : Nat) (M : Nat → Option Addr × Nat) : List SV := (List.range' 0 41).flatMap (tblRow nx M)
def tblRows (nx : Nat) (M : Nat → Option Addr × Nat) (i : Nat) : Hp := [(nx + 1 + 2 * i, .strs (M (2 * i)).1 (M (2 * i)).2 (linesL i)), (nx + 2 + 2 * i, .ints (M (2 * i + 1)).1 (M (2 * i + 1)).2 .i64 (errsL i))]
def tblUps (nx : Nat) (M : Nat → Option Addr × Nat) : Hp := (nx, .rawV (M 100).1 (M 100).2 5 41 (tblCells nx M)) :: (List.range' 0 41).flatMap (tblRows nx M)
def spTable : Spc
  | [], H, nx => .many (globR (H 0) (H 1) (H 2) (H 3)) fun M => (.g nx (M 100).1 41 (M 100).2, tblUps nx M)
  | _, _, _ => .bad
theorem spTable_q {H : Nat → Ch} {nx : Nat} : spTable [] H nx = .many (globR (H 0) (H 1) (H 2) (H 3)) fun M => (.g nx (M 100).1 41 (M 100).2, tblUps nx M) := rfl
def allP (Q : Ch → Prop) : Hp → Prop
  | [] => True
  | (_, c) :: l => Q c ∧ allP Q l
theorem allP_look {Q : Ch → Prop} {l : Hp} (h : allP Q l) (k : Nat) : lookH l k = .no ∨ Q (lookH l k) := by
  induction l with
  | nil => exact .inl rfl
  | cons x l ih =>
    obtain ⟨i, c⟩ := x
    simp only [lookH]
    cases i == k
    · exact ih h.2
    · exact .inr h.1
theorem allP_app {Q : Ch → Prop} {l m : Hp} (h1 : allP Q l) (h2 : allP Q m) : allP Q (l ++ m) := by
  induction l with
  | nil => exact h2
  | cons x l ih => exact ⟨h1.1, ih h1.2⟩
theorem allP_flat {Q : Ch → Prop} {F : Nat → Hp} {l : List Nat} (h : ∀ i ∈ l, allP Q (F i)) : allP Q (l.flatMap F) := by
  induction l with
  | nil => exact trivial
  | cons x l ih => rw [List.flatMap_cons]; exact allP_app (h x (by simp)) (ih fun i hi => h i (by simp [hi]))
theorem allP_rd {B : Nat} {w : World} {Q : Ch → Prop} (hq : ∀ c, Q c → Hold B w c ∧ mutb c = false) : ∀ {l : Hp}, allP Q l → allRd B w l := by
  intro l
  induction l with
  | nil => intro _; trivial
  | cons x l ih => intro h; exact ⟨hq _ h.1, ih h.2⟩
theorem spTable_ok : SpecOk Tryz.prog 109 spTable := by
  intro args hp nx w0 O w H hv
  match args, hv with
  | [], hv =>
    obtain ⟨bn, on, cn, ba, oa, ca, hr, h4, h3, hk⟩ := globR_ok H hv
    refine (table_run bn on cn ba oa ca h4 h3 w hr).mono ?_
    rintro e w' ⟨s, xs, rfl, ⟨k, b, t, cells, rfl, hb, hg2, hg3, hrows⟩, HS⟩
    obtain ⟨f, g, hd, hat⟩ := rows_spec HS 41 0 cells hrows rfl
    let M : Nat → Option Addr × Nat := fun j => if j = 100 then (some ⟨b, 0, none⟩, 41) else if j % 2 = 0 then f (j / 2) else g (j / 2)
    have M0 : ∀ i, i < 41 → M (2 * i) = f i := fun i hi => by
      show (if 2 * i = 100 then _ else _) = _
      rw [if_neg (by omega), if_pos (by omega), show 2 * i / 2 = i by omega]
    have M1 : ∀ i, i < 41 → M (2 * i + 1) = g i := fun i hi => by
      show (if 2 * i + 1 = 100 then _ else _) = _
      rw [if_neg (by omega), if_neg (by omega), show (2 * i + 1) / 2 = i by omega]
    have M2 : M 100 = (some ⟨b, 0, none⟩, 41) := if_pos rfl
    have hcells : dens (tblCells nx M) = dens cells := by
      rw [hd]
      have key : ∀ l : List Nat, (∀ i ∈ l, i < 41) → dens (l.flatMap (tblRow nx M)) = l.flatMap (rowV f g) := by
        intro l
        induction l with
        | nil => intro _; rfl
        | cons x l ih =>
          intro hl
          rw [List.flatMap_cons, List.flatMap_cons, dens_append, ih fun i hi => hl i (by simp [hi])]
          congr 1
          have hx := hl x (by simp)
          simp only [tblRow, rowV, dens, den, M0 x hx, M1 x hx]
      exact key _ fun i hi => by
        rw [List.mem_range'] at hi
        obtain ⟨q, hq, rfl⟩ := hi; omega
    have hlen : (dens cells).length = 205 := by
      rw [hd, List.length_flatMap]
      have : (List.map (fun x => (rowV f g x).length) (List.range' 0 41)) = List.replicate 41 5 := by rfl
      rw [this]; rfl
    have hblk := HS.hold k
    rw [hb] at hblk
    have hc := blk_cells hblk
    have hB : w.heap.size ≤ b := hblk.1
    refine ⟨⟨0, none, 0, none, 0, M⟩, ?_, ?_⟩
    · show Ending.returned (den (.gp k b 0 41 41)) = .returned (den (.g nx (M 100).1 41 (M 100).2))
      rw [M2]; rfl
    · have Q : allP (fun c => (Hold w0.heap.size w' c ∧ mutb c = false) ∧ ∀ q, foot c q → w.heap.size ≤ q ∨ foot (lookH s.hp 2) q ∨ foot (lookH s.hp 3) q) (tblUps nx M) := by
        refine ⟨⟨⟨?_, rfl⟩, fun q hq => ?_⟩, allP_flat fun i hi => ?_⟩
        · show SlOk w' (M 100).1 (M 100).2 5 41 (fun i j => (dens (tblCells nx M)).getD (i * 5 + j) undef)
          rw [M2, hcells]
          refine ⟨Nat.le_refl _, fun _ => ⟨b, 0, rfl, hc.1, fun i hi j hj => ?_⟩⟩
          refine hc.2 _ _ ?_
          have : i * 5 + j < (dens cells).length := by omega
          simp [List.getD, this]
        · obtain ⟨_, a, ha, rfl⟩ := hq
          rw [M2] at ha
          cases ha
          exact .inl hB
        · have hi : i < 41 := by
            rw [List.mem_range'] at hi
            obtain ⟨q, hq, rfl⟩ := hi; omega
          obtain ⟨⟨s1, f1⟩, s2, f2⟩ := hat i (by omega) hi
          refine ⟨⟨⟨?_, rfl⟩, fun q hq => ?_⟩, ⟨⟨?_, rfl⟩, fun q hq => ?_⟩, trivial⟩
          · show SlOk w' (M (2 * i)).1 (M (2 * i)).2 1 (linesL i).length (fS (linesL i))
            rw [M0 i hi]; exact s1
          · obtain ⟨hne, hq⟩ := hq
            rw [M0 i hi] at hq
            exact f1 hne q hq
          · show SlOk w' (M (2 * i + 1)).1 (M (2 * i + 1)).2 1 (errsL i).length (fI .i64 (errsL i))
            rw [M1 i hi]; exact s2
          · obtain ⟨hne, hq⟩ := hq
            rw [M1 i hi] at hq
            exact .inl (f2 hne q hq)
      refine Stp.rd HS.below (allP_rd (fun c h => h.1) Q) fun j q hq => ?_
      rcases allP_look Q j with e | h
      · change lookH (tblUps nx M) j = .no at e
        rw [show lookH (((spTable [] (lookH hp) nx).out ⟨0, none, 0, none, 0, M⟩).2) j = .no from e] at hq
        exact hq.elim
      · rcases h.2 q hq with h1 | h2 | h3
        · exact .inl h1
        · refine .inr ⟨2, ?_, ?_⟩
          · rw [hk 2 (by decide)]; rw [hg2] at h2; exact h2
          · rw [hk 2 (by decide)]; rfl
        · refine .inr ⟨3, ?_, ?_⟩
          · rw [hk 3 (by decide)]; rw [hg3] at h3; exact h3
          · rw [hk 3 (by decide)]; rfl
end Pr
end Go.Proofs.YtnpkmimbnjnicaaGreatDoor
