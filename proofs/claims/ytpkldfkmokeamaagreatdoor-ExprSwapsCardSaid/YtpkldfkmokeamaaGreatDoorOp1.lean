/-
Arguments, opened: an array of two ints; what a number's kind says of it (chapter 25).
-/
import Derived.Test.YtpkldfkmokeamaaGreatDoorLwA
import Derived.Test.YtpkldfkmokeamaaGreatDoorNb1
import Derived.SizedLaws
set_option linter.unusedSimpArgs false
set_option linter.unusedVariables false
namespace Go.Proofs.YtpkldfkmokeamaaGreatDoor
namespace Pr
open Go Go.RowKit En
open Go.ChangeShapes Go.WideShapes Go.ChangeAt Lw
end Pr
end Go.Proofs.YtpkldfkmokeamaaGreatDoor
/-
Arguments, opened: lists of structs; lists of nodes (chapters 15, 16, 25).
-/
set_option linter.unusedSimpArgs false
set_option linter.unusedVariables false
namespace Go.Proofs.YtpkldfkmokeamaaGreatDoor
namespace Pr
open Go Go.RowKit En
open Go.ChangeShapes Go.WideShapes Go.ChangeAt Lw
theorem mapM_get {α β : Type} {f : α → Option β} : ∀ {l : List α} {cs : List β}, l.mapM f = some cs → cs.length = l.length ∧ ∀ i (h : i < l.length), f l[i] = cs[i]?
  | [], cs, h => by
    simp at h; subst h; exact ⟨rfl, fun i h => absurd h (Nat.not_lt_zero i)⟩
  | a :: l, cs, h => by
    rw [List.mapM_cons] at h
    cases ha : f a with
    | none => rw [ha] at h; cases h
    | some b =>
      rw [ha] at h
      cases hl : l.mapM f with
      | none => rw [hl] at h; cases h
      | some bs =>
        rw [hl] at h
        cases h
        obtain ⟨h1, h2⟩ := mapM_get hl
        refine ⟨by simp [h1], fun i hi => ?_⟩
        cases i with
        | zero => simpa using ha
        | succ i => simpa using h2 i (by simpa using hi)
theorem cells_get {w : World} {base n : Nat} {a : Addr} {cs : List Value} (h : w.cells? base a n = some cs) : cs.length = n ∧ ∀ i, i < n → w.cell? (a.add i) = cs[i]? := by
  unfold World.cells? at h
  split at h
  · obtain ⟨h1, h2⟩ := mapM_get h
    simp only [List.length_range] at h1 h2
    refine ⟨h1, fun i hi => ?_⟩
    have := h2 i hi
    rwa [List.getElem_range] at this
  · cases h
section
variable {H : Type} {enc : TypeId × Value → H} {P : Program} {w : World} {base : Nat} {sp : Nat → Bool} {held : Bool}
theorem open_recs {t e : TypeId} {z fuel : Nat} {cs : List Value} {x : DataW H × List MemPlace} (ht : P.underlying t = some (.slice e)) (hc : P.cellsOf e = z) (hz : 0 < z) (h : DataW.trod enc P w base sp held fuel t cs = some x) :
    ∃ (A : Option Addr) (c n : Nat) (g : Nat → List Value), cs = [.slice A n c] ∧ n ≤ maxLen ∧ (∀ i, i < n → (g i).length = z ∧ ∃ m y, DataW.trod enc P w base sp held m e (g i) = some y) ∧ SlOk w A c z n (fun i j => (g i).getD j undef) := by
  rcases DataW.trod_slice ht h with ⟨rfl, _⟩ | ⟨a, n, c, elems, rest, m, _, rfl, _, _, hlc, hcm, hel, hcell, _⟩
  · exact ⟨none, 0, 0, fun _ => [], rfl, Nat.zero_le _, fun i hi => absurd hi (Nat.not_lt_zero i), Nat.le_refl 0, fun h => absurd rfl h⟩
  · rw [hc] at hcell
    have key : ∀ i, ∃ cs : List Value, i < n → (cs.length = z ∧ (∀ j, j < z → w.cell? ((a.add (i * z)).add j) = cs[j]?) ∧ ∃ y, DataW.trod enc P w base sp held m e cs = some y) := by
      intro i
      by_cases hi : i < n
      · have h1 := hcell i hi
        have h2 : elems[i]? = some elems[i] := List.getElem?_eq_getElem (by omega)
        rw [h2] at h1
        cases hcs : w.cells? base (a.add (i * z)) z with
        | none => rw [hcs] at h1; cases h1
        | some cs =>
          rw [hcs] at h1
          obtain ⟨k1, k2⟩ := cells_get hcs
          exact ⟨cs, fun _ => ⟨k1, k2, _, h1⟩⟩
      · exact ⟨[], fun h => absurd h hi⟩
    obtain ⟨g, hg⟩ : ∃ g : Nat → List Value, ∀ i, i < n → ((g i).length = z ∧ (∀ j, j < z → w.cell? ((a.add (i * z)).add j) = (g i)[j]?) ∧ ∃ y, DataW.trod enc P w base sp held m e (g i) = some y) := ⟨fun i => (key i).choose, fun i hi => (key i).choose_spec hi⟩
    refine ⟨some a, c, n, g, rfl, by omega, fun i hi => ⟨(hg i hi).1, m, (hg i hi).2.2⟩, hlc, fun hn => ?_⟩
    have c0 := (hg 0 (by omega)).2.1 0 hz
    have e0 : (a.add (0 * z)).add 0 = a := by cases a; simp [Addr.add]
    have l0 := (hg 0 (by omega)).1
    rw [e0, List.getElem?_eq_getElem (by rw [l0]; exact hz)] at c0
    obtain ⟨b, o, idx⟩ := a
    cases idx with
    | some q =>
      exfalso
      simp only [World.cell?] at c0
      split at c0
      · simp at c0
      · cases c0
    | none =>
      have e1 : ∀ i j, ((⟨b, o, none⟩ : Addr).add i).add j = ⟨b, o + (i + j), none⟩ := fun i j => by rw [addr_add, addr_add, Nat.add_assoc]
      refine ⟨b, o, rfl, block_lt_of_cell c0, fun i hi j hj => ?_⟩
      have h1 := (hg i hi).2.1 j hj
      have l1 := (hg i hi).1
      rw [e1] at h1
      rw [h1]
      show (g i)[j]? = some ((g i).getD j undef)
      rw [List.getD_eq_getElem?_getD, List.getElem?_eq_getElem (by rw [l1]; exact hj)]
      rfl
end
set_option maxRecDepth 100000 in
theorem trod_node {H : Type} {enc : TypeId × Value → H} {w : World} {base : Nat} {sp : Nat → Bool} {held : Bool} {m : Nat} {cs : List Value} {y : DataW H × List MemPlace} (h : DataW.trod enc Tryz.prog w base sp held m 38 cs = some y) :
    ∃ d : Nd, cs = dens (ndC d) ∧ d.nm.size ≤ maxLen ∧ d.tx.size ≤ maxLen := by
  have c7 : Tryz.prog.cellsOf 38 = 7 := by kernel_rfl
  obtain ⟨xs, n, _, hx, hl, hlen, hg⟩ := DataW.trod_struct Tryz.underlying38 h
  rw [c7] at hl
  match cs, hl with
  | [v0, v1, v2, v3, v4, v5, v6], _ =>
    match xs, hlen with
    | [y0, y1, y2, y3, y4, y5, y6], _ =>
      have cc : Tryz.prog.cellsOf 3 = 1 := by kernel_rfl
      have c2 : Tryz.prog.cellsOf 9 = 1 := by kernel_rfl
      have c3 : Tryz.prog.cellsOf 2 = 1 := by kernel_rfl
      have g0 : DataW.trod enc Tryz.prog w base sp held n 3 (([v0, v1, v2, v3, v4, v5, v6].drop 0).take (Tryz.prog.cellsOf 3)) = some y0 := hg 0 _ rfl
      have g1 : DataW.trod enc Tryz.prog w base sp held n 3 (([v0, v1, v2, v3, v4, v5, v6].drop 1).take (Tryz.prog.cellsOf 3)) = some y1 := hg 1 _ rfl
      have g2 : DataW.trod enc Tryz.prog w base sp held n 3 (([v0, v1, v2, v3, v4, v5, v6].drop 2).take (Tryz.prog.cellsOf 3)) = some y2 := hg 2 _ rfl
      have g3 : DataW.trod enc Tryz.prog w base sp held n 9 (([v0, v1, v2, v3, v4, v5, v6].drop 3).take (Tryz.prog.cellsOf 9)) = some y3 := hg 3 _ rfl
      have g4 : DataW.trod enc Tryz.prog w base sp held n 9 (([v0, v1, v2, v3, v4, v5, v6].drop 4).take (Tryz.prog.cellsOf 9)) = some y4 := hg 4 _ rfl
      have g5 : DataW.trod enc Tryz.prog w base sp held n 2 (([v0, v1, v2, v3, v4, v5, v6].drop 5).take (Tryz.prog.cellsOf 2)) = some y5 := hg 5 _ rfl
      have g6 : DataW.trod enc Tryz.prog w base sp held n 3 (([v0, v1, v2, v3, v4, v5, v6].drop 6).take (Tryz.prog.cellsOf 3)) = some y6 := hg 6 _ rfl
      rw [cc] at g0 g1 g2 g6
      rw [c2] at g3 g4
      rw [c3] at g5
      obtain ⟨k, e0, _, _⟩ := DataW.trod_int Tryz.underlying3 g0
      obtain ⟨p, e1, _, _⟩ := DataW.trod_int Tryz.underlying3 g1
      obtain ⟨c, e2, _, _⟩ := DataW.trod_int Tryz.underlying3 g2
      obtain ⟨nm, e3, _, s3⟩ := DataW.trod_string Tryz.underlying9 g3
      obtain ⟨tx, e4, _, s4⟩ := DataW.trod_string Tryz.underlying9 g4
      obtain ⟨q, e5, _, _⟩ := DataW.trod_int Tryz.underlying2 g5
      obtain ⟨s, e6, _, _⟩ := DataW.trod_int Tryz.underlying3 g6
      simp at e0 e1 e2 e3 e4 e5 e6
      subst e0; subst e1; subst e2; subst e3; subst e4; subst e5; subst e6
      exact ⟨⟨k, p, c, nm, tx, q, s⟩, rfl, s3, s4⟩
def zsM (l : List Nd) : Prop := ∀ i, i < l.length → (ndAt l i).nm.size ≤ 9223372036854775807 ∧ (ndAt l i).tx.size ≤ 9223372036854775807
theorem trod_nodes {H : Type} {enc : TypeId × Value → H} {w : World} {base : Nat} {sp : Nat → Bool} {held : Bool} {m : Nat} {cs : List Value} {y : DataW H × List MemPlace} (h : DataW.trod enc Tryz.prog w base sp held m 22 cs = some y) :
    ∃ (A : Option Addr) (c : Nat) (l : List Nd), cs = [.slice A l.length c] ∧ l.length ≤ 9223372036854775807 ∧ zsM l ∧ ∀ B, Hold B w (.recs A c 7 l.length fun i => ndC (ndAt l i)) := by
  obtain ⟨A, c, n, g, rfl, hn, hg, hs⟩ := open_recs Tryz.underlying22 (z := 7) (by kernel_rfl) (by decide) h
  have hd : ∀ i, ∃ d : Nd, i < n → g i = dens (ndC d) ∧ d.nm.size ≤ maxLen ∧ d.tx.size ≤ maxLen := fun i => by
    by_cases hi : i < n
    · obtain ⟨_, m, y, hy⟩ := hg i hi
      obtain ⟨d, h1, h2⟩ := trod_node hy
      exact ⟨d, fun _ => ⟨h1, h2⟩⟩
    · exact ⟨ndZ, fun h => absurd h hi⟩
  obtain ⟨f, hf⟩ : ∃ f : Nat → Nd, ∀ i, i < n → (g i = dens (ndC (f i)) ∧ (f i).nm.size ≤ maxLen ∧ (f i).tx.size ≤ maxLen) := ⟨fun i => (hd i).choose, fun i hi => (hd i).choose_spec hi⟩
  have hl : ((List.range n).map f).length = n := by simp
  have hat : ∀ i, i < n → ndAt ((List.range n).map f) i = f i := fun i hi => by
    simp [ndAt, List.getD_eq_getElem?_getD, hi]
  have hm : maxLen = 9223372036854775807 := by decide
  refine ⟨A, c, (List.range n).map f, by rw [hl], by rw [hl, ← hm]; exact hn, fun i hi => ?_, fun B => ?_⟩
  · rw [hl] at hi
    rw [hat i hi, ← hm]
    exact (hf i hi).2
  · rw [hl]
    refine ⟨hs.congr fun i hi j hj => ?_, fun i hi => rfl⟩
    simp only [hat i hi, (hf i hi).1]
set_option maxRecDepth 100000 in
theorem open_nodes {H : Type} {enc : TypeId × Value → H} {w : World} {r : Reach} {b0 : Nat} {v : Value} {d : DataW H} {p : List MemPlace} (hv : Value.okWide Tryz.prog w r b0 22 v) (h : DataW.Trod enc Tryz.prog w 0 (fun _ => true) true 22 v d p) :
    ∃ (A : Option Addr) (c : Nat) (l : List Nd), v = .slice A l.length c ∧ l.length ≤ 9223372036854775807 ∧ zsM l ∧ ∀ B, Hold B w (.recs A c 7 l.length fun i => ndC (ndAt l i)) := by
  obtain ⟨a, n, c, rfl⟩ := okWide_slice Tryz.underlying22 hv
  obtain ⟨fuel, hf⟩ := h
  have hf : DataW.trod enc Tryz.prog w 0 (fun _ => true) true fuel 22 [.slice a n c] = some (d, p) := hf
  obtain ⟨A, c', l, e, h1, h2, h3⟩ := trod_nodes hf
  simp only [List.cons.injEq, and_true] at e
  exact ⟨A, c', l, e, h1, h2, h3⟩
end Pr
end Go.Proofs.YtpkldfkmokeamaaGreatDoor
/-
Lists of nodes as arguments, with what the reach of a machine says of their strings.
-/
set_option linter.unusedSimpArgs false
set_option linter.unusedVariables false
namespace Go.Proofs.YtpkldfkmokeamaaGreatDoor
namespace Pr
open Go Go.RowKit En
open Go.ChangeShapes Go.WideShapes Go.ChangeAt Lw
set_option maxRecDepth 100000 in
theorem trod_nodeW {H : Type} {enc : TypeId × Value → H} {w : World} {base : Nat} {sp : Nat → Bool} {held : Bool} {m : Nat} {cs : List Value} {y : DataW H × List MemPlace} (h : DataW.trod enc Tryz.prog w base sp held m 38 cs = some y) :
    ∃ d : Nd, cs = dens (ndC d) ∧ d.nm.size ∈ y.1.weights Tryz.prog 38 ∧ d.tx.size ∈ y.1.weights Tryz.prog 38 := by
  have c7 : Tryz.prog.cellsOf 38 = 7 := by kernel_rfl
  obtain ⟨xs, n, _, hx, hl, hlen, hg⟩ := DataW.trod_struct Tryz.underlying38 h
  rw [c7] at hl
  match cs, hl with
  | [v0, v1, v2, v3, v4, v5, v6], _ =>
    match xs, hlen with
    | [y0, y1, y2, y3, y4, y5, y6], _ =>
      have cc : Tryz.prog.cellsOf 3 = 1 := by kernel_rfl
      have c2 : Tryz.prog.cellsOf 9 = 1 := by kernel_rfl
      have c3 : Tryz.prog.cellsOf 2 = 1 := by kernel_rfl
      have g0 : DataW.trod enc Tryz.prog w base sp held n 3 (([v0, v1, v2, v3, v4, v5, v6].drop 0).take (Tryz.prog.cellsOf 3)) = some y0 := hg 0 _ rfl
      have g1 : DataW.trod enc Tryz.prog w base sp held n 3 (([v0, v1, v2, v3, v4, v5, v6].drop 1).take (Tryz.prog.cellsOf 3)) = some y1 := hg 1 _ rfl
      have g2 : DataW.trod enc Tryz.prog w base sp held n 3 (([v0, v1, v2, v3, v4, v5, v6].drop 2).take (Tryz.prog.cellsOf 3)) = some y2 := hg 2 _ rfl
      have g3 : DataW.trod enc Tryz.prog w base sp held n 9 (([v0, v1, v2, v3, v4, v5, v6].drop 3).take (Tryz.prog.cellsOf 9)) = some y3 := hg 3 _ rfl
      have g4 : DataW.trod enc Tryz.prog w base sp held n 9 (([v0, v1, v2, v3, v4, v5, v6].drop 4).take (Tryz.prog.cellsOf 9)) = some y4 := hg 4 _ rfl
      have g5 : DataW.trod enc Tryz.prog w base sp held n 2 (([v0, v1, v2, v3, v4, v5, v6].drop 5).take (Tryz.prog.cellsOf 2)) = some y5 := hg 5 _ rfl
      have g6 : DataW.trod enc Tryz.prog w base sp held n 3 (([v0, v1, v2, v3, v4, v5, v6].drop 6).take (Tryz.prog.cellsOf 3)) = some y6 := hg 6 _ rfl
      rw [cc] at g0 g1 g2 g6
      rw [c2] at g3 g4
      rw [c3] at g5
      obtain ⟨k, e0, _, _⟩ := DataW.trod_int Tryz.underlying3 g0
      obtain ⟨p, e1, _, _⟩ := DataW.trod_int Tryz.underlying3 g1
      obtain ⟨c, e2, _, _⟩ := DataW.trod_int Tryz.underlying3 g2
      obtain ⟨nm, e3, rfl, s3⟩ := DataW.trod_string Tryz.underlying9 g3
      obtain ⟨tx, e4, rfl, s4⟩ := DataW.trod_string Tryz.underlying9 g4
      obtain ⟨q, e5, _, _⟩ := DataW.trod_int Tryz.underlying2 g5
      obtain ⟨s, e6, _, _⟩ := DataW.trod_int Tryz.underlying3 g6
      simp at e0 e1 e2 e3 e4 e5 e6
      subst e0; subst e1; subst e2; subst e3; subst e4; subst e5; subst e6
      refine ⟨⟨k, p, c, nm, tx, q, s⟩, rfl, ?_, ?_⟩
      · rw [hx]
        simp only [DataW.weights, Tryz.underlying38]
        refine DataW.weights_mem_each (j := 3) (t := 9) (d := .lit (.string nm.data.toList)) rfl rfl _ ?_
        exact List.mem_singleton.2 (show nm.data.size = nm.data.toList.length from (Array.length_toList ..).symm)
      · rw [hx]
        simp only [DataW.weights, Tryz.underlying38]
        refine DataW.weights_mem_each (j := 4) (t := 9) (d := .lit (.string tx.data.toList)) rfl rfl _ ?_
        exact List.mem_singleton.2 (show tx.data.size = tx.data.toList.length from (Array.length_toList ..).symm)
theorem weightsAll_mem {H : Type} {P : Program} {e : TypeId} : ∀ {l : List (DataW H)} {d : DataW H}, d ∈ l → ∀ n ∈ d.weights P e, n ∈ DataW.weightsAll P e l
  | x :: l, d, hd, n, hn => by
    rw [DataW.weightsAll, List.mem_append]
    rcases List.mem_cons.1 hd with rfl | hd
    · exact .inl hn
    · exact .inr (weightsAll_mem hd n hn)
theorem nodes_reach {H : Type} {enc : TypeId × Value → H} {w : World} {base : Nat} {sp : Nat → Bool} {held : Bool} {m : Nat} {A : Option Addr} {c : Nat} {l : List Nd} {y : DataW H × List MemPlace} (h : DataW.trod enc Tryz.prog w base sp held m 22 [.slice A l.length c] = some y)
    (hh : Hold w.heap.size w (.recs A c 7 l.length fun i => ndC (ndAt l i))) {R : Nat} (hw : ∀ n ∈ y.1.weights Tryz.prog 22, n ≤ R) : ∀ i, i < l.length → (ndAt l i).nm.size ≤ R ∧ (ndAt l i).tx.size ≤ R := by
  intro i hi
  have c7 : Tryz.prog.cellsOf 38 = 7 := by kernel_rfl
  rcases DataW.trod_slice Tryz.underlying22 h with ⟨e, _⟩ | ⟨a, n, c', elems, rest, f, _, e, hx, _, _, _, hel, hcell, _⟩
  · simp only [List.cons.injEq, Value.slice.injEq, and_true] at e; omega
  · simp only [List.cons.injEq, Value.slice.injEq, and_true] at e
    obtain ⟨rfl, rfl, rfl⟩ := e
    obtain ⟨b, o, ha, hb, hc⟩ := hh.1.2 (by omega)
    cases ha
    have h1 := hcell i hi
    rw [c7, List.getElem?_eq_getElem (by omega)] at h1
    cases hcs : w.cells? base ((⟨b, o, none⟩ : Addr).add (i * 7)) 7 with
    | none => rw [hcs] at h1; cases h1
    | some cs =>
      rw [hcs] at h1
      obtain ⟨k1, k2⟩ := cells_get hcs
      obtain ⟨d, hd, w1, w2⟩ := trod_nodeW h1
      have hmem : elems[i].1 ∈ elems.map (·.1) := List.mem_map_of_mem (List.getElem_mem _)
      have hall : ∀ n ∈ elems[i].1.weights Tryz.prog 38, n ≤ R := fun n hn => hw n (by
        rw [hx]
        simp only [DataW.weights, Tryz.underlying22, List.mem_cons, List.mem_append]
        exact .inr (.inl (weightsAll_mem hmem n hn)))
      have same : ∀ j, j < 7 → (dens (ndC (ndAt l i))).getD j undef = (dens (ndC d)).getD j undef := fun j hj => by
        have q1 := hc i hi j hj
        have q2 := k2 j hj
        rw [addr_add, addr_add] at q2
        rw [show o + i * 7 + j = o + (i * 7 + j) by omega, q1] at q2
        rw [hd] at q2
        rw [List.getD_eq_getElem?_getD (l := dens (ndC d)), ← q2]
        rfl
      have e3 := same 3 (by decide)
      have e4 := same 4 (by decide)
      have e3 : Value.string (ndAt l i).nm = .string d.nm := e3
      have e4 : Value.string (ndAt l i).tx = .string d.tx := e4
      rw [Value.string.inj e3, Value.string.inj e4]
      exact ⟨hall _ w1, hall _ w2⟩
set_option maxRecDepth 100000 in
theorem open_nodesW {H : Type} {enc : TypeId × Value → H} {w : World} {r : Reach} {b0 : Nat} {v : Value} {d : DataW H} {p : List MemPlace} (hv : Value.okWide Tryz.prog w r b0 22 v) (h : DataW.Trod enc Tryz.prog w 0 (fun _ => true) true 22 v d p)
    (hw : ∀ n ∈ d.weights Tryz.prog 22, n ≤ reachBytes) :
    ∃ (A : Option Addr) (c : Nat) (l : List Nd), v = .slice A l.length c ∧ l.length ≤ 9223372036854775807 ∧ (∀ i, i < l.length → (ndAt l i).nm.size ≤ 140737488351232 ∧ (ndAt l i).tx.size ≤ 140737488351232) ∧ ∀ B, Hold B w (.recs A c 7 l.length fun i => ndC (ndAt l i)) := by
  obtain ⟨A, c, l, rfl, h1, _, h3⟩ := open_nodes hv h
  obtain ⟨fuel, hf⟩ := h
  have hf : DataW.trod enc Tryz.prog w 0 (fun _ => true) true fuel 22 [.slice A l.length c] = some (d, p) := hf
  exact ⟨A, c, l, rfl, h1, nodes_reach hf (h3 _) hw, h3⟩
theorem weights_of {H : Type} {P : Program} {ts : List TypeId} {ds : List (DataW H)} (h : (DataW.weightsEach P ts ds).all (· ≤ reachBytes) = true) {j : Nat} {t : TypeId} {d : DataW H} (ht : ts[j]? = some t) (hd : ds[j]? = some d) : ∀ n ∈ d.weights P t, n ≤ reachBytes := fun n hn => by
  have := List.all_eq_true.1 h n (DataW.weights_mem_each ht hd n hn)
  simpa using this
end Pr
end Go.Proofs.YtpkldfkmokeamaaGreatDoor
