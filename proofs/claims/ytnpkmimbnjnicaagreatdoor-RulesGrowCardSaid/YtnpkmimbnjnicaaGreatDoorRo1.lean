/-
Arguments, opened: lattices, types, rules, primitives with types (chapter 21).
-/
import Derived.Test.YtnpkmimbnjnicaaGreatDoorOp1
import Derived.Test.YtnpkmimbnjnicaaGreatDoorRl2
import Derived.Test.YtnpkmimbnjnicaaGreatDoorRr1
set_option linter.unusedSimpArgs false
set_option linter.unusedVariables false
namespace Go.Proofs.YtnpkmimbnjnicaaGreatDoor
namespace Pr
open Go Go.RowKit En
open Lt
open Go.ChangeShapes Go.WideShapes Go.ChangeAt Lw
theorem wf8 {x : Int} (h : (Lit.int .u8 x).wf = true) : 0 ≤ x ∧ x ≤ 255 := by
  simp [Lit.wf, IntKind.min, IntKind.max, IntKind.bits, IntKind.signed] at h
  omega
set_option maxRecDepth 100000 in
theorem trod_strs {H : Type} {enc : TypeId × Value → H} {w : World} {base : Nat} {sp : Nat → Bool} {held : Bool} {m : Nat} {cs : List Value} {y : DataW H × List MemPlace} (h : DataW.trod enc Tryz.prog w base sp held m 30 cs = some y) :
    ∃ (A : Option Addr) (c : Nat) (l : List ByteArray), cs = [.slice A l.length c] ∧ ∀ B, Hold B w (.strs A c l) := by
  obtain ⟨A, c, n, g, rfl, hn, hg, hs⟩ := open_recs Tryz.underlying30 (z := 1) (by kernel_rfl) (by decide) h
  have hd : ∀ i, ∃ d : ByteArray, i < n → g i = [.string d] := fun i => by
    by_cases hi : i < n
    · obtain ⟨_, m, y, hy⟩ := hg i hi
      obtain ⟨d, h1, _⟩ := DataW.trod_string Tryz.underlying9 hy
      exact ⟨d, fun _ => h1⟩
    · exact ⟨ByteArray.empty, fun h => absurd h hi⟩
  obtain ⟨f, hf⟩ : ∃ f : Nat → ByteArray, ∀ i, i < n → g i = [.string (f i)] := ⟨fun i => (hd i).choose, fun i hi => (hd i).choose_spec hi⟩
  have hl : ((List.range n).map f).length = n := by simp
  refine ⟨A, c, (List.range n).map f, by rw [hl], fun B => ?_⟩
  show SlOk w A c 1 _ (fS _)
  rw [hl]
  refine hs.congr fun i hi j hj => ?_
  obtain rfl : j = 0 := by omega
  simp [hf i hi, fS, List.getD_eq_getElem?_getD, hi]
set_option maxRecDepth 100000 in
theorem trod_bytes {H : Type} {enc : TypeId × Value → H} {w : World} {base : Nat} {sp : Nat → Bool} {held : Bool} {m : Nat} {cs : List Value} {y : DataW H × List MemPlace} (h : DataW.trod enc Tryz.prog w base sp held m 31 cs = some y) :
    ∃ (A : Option Addr) (c : Nat) (l : List Int), cs = [.slice A l.length c] ∧ Bytes l ∧ ∀ B, Hold B w (.ints A c .u8 l) := by
  obtain ⟨A, c, n, g, rfl, hn, hg, hs⟩ := open_recs Tryz.underlying31 (z := 1) (by kernel_rfl) (by decide) h
  have hd : ∀ i, ∃ d : Int, i < n → g i = [.int .u8 d] ∧ 0 ≤ d ∧ d ≤ 255 := fun i => by
    by_cases hi : i < n
    · obtain ⟨_, m, y, hy⟩ := hg i hi
      obtain ⟨d, h1, _, h2⟩ := DataW.trod_int Tryz.underlying5 hy
      exact ⟨d, fun _ => ⟨h1, wf8 h2⟩⟩
    · exact ⟨0, fun h => absurd h hi⟩
  obtain ⟨f, hf⟩ : ∃ f : Nat → Int, ∀ i, i < n → (g i = [.int .u8 (f i)] ∧ 0 ≤ f i ∧ f i ≤ 255) := ⟨fun i => (hd i).choose, fun i hi => (hd i).choose_spec hi⟩
  have hl : ((List.range n).map f).length = n := by simp
  refine ⟨A, c, (List.range n).map f, by rw [hl], fun a => ?_, fun B => ?_⟩
  · by_cases ha : a < n
    · have := (hf a ha).2
      simpa [List.getD_eq_getElem?_getD, ha] using this
    · simp [List.getD_eq_getElem?_getD, ha]
  · show SlOk w A c 1 _ (fI .u8 _)
    rw [hl]
    refine hs.congr fun i hi j hj => ?_
    obtain rfl : j = 0 := by omega
    simp [(hf i hi).1, fI, List.getD_eq_getElem?_getD, hi]
set_option maxRecDepth 100000 in
theorem open_lat {H : Type} {enc : TypeId × Value → H} {w : World} {r : Reach} {b0 : Nat} {v : Value} {d : DataW H} {p : List MemPlace} (hv : Value.okWide Tryz.prog w r b0 33 v) (h : DataW.Trod enc Tryz.prog w 0 (fun _ => true) true 33 v d p) :
    ∃ (A : Option Addr) (c : Nat) (ns : List ByteArray) (B : Option Addr) (e : Nat) (us : List Int), v = .agg #[.slice A ns.length c, .slice B us.length e] ∧ Bytes us ∧ (∀ C, Hold C w (.strs A c ns)) ∧ ∀ C, Hold C w (.ints B e .u8 us) := by
  obtain ⟨cs, rfl, hsz⟩ := okWide_struct Tryz.underlying33 hv
  have c2 : Tryz.prog.cellsOf 33 = 2 := by kernel_rfl
  have hsz2 : cs.size = 2 := hsz.trans c2
  obtain ⟨l⟩ := cs
  match l, hsz2 with
  | [v0, v1], _ =>
    obtain ⟨fuel, hf⟩ := h
    obtain ⟨xs, n, _, hx, _, hlen, hg⟩ := DataW.trod_struct Tryz.underlying33 hf
    match xs, hlen with
    | [y0, y1], _ =>
      have cs1 : Tryz.prog.cellsOf 30 = 1 := by kernel_rfl
      have cb1 : Tryz.prog.cellsOf 31 = 1 := by kernel_rfl
      have g0 : DataW.trod enc Tryz.prog w 0 (fun _ => true) true n 30 (([v0, v1].drop 0).take (Tryz.prog.cellsOf 30)) = some y0 := hg 0 _ rfl
      have g1 : DataW.trod enc Tryz.prog w 0 (fun _ => true) true n 31 (([v0, v1].drop 1).take (Tryz.prog.cellsOf 31)) = some y1 := hg 1 _ rfl
      rw [cs1] at g0
      rw [cb1] at g1
      obtain ⟨A, c, ns, e0, h0⟩ := trod_strs g0
      obtain ⟨B, e, us, e1, hB, h1⟩ := trod_bytes g1
      simp at e0 e1
      subst e0; subst e1
      exact ⟨A, c, ns, B, e, us, rfl, hB, h0, h1⟩
set_option maxRecDepth 100000 in
theorem trod_ty {H : Type} {enc : TypeId × Value → H} {w : World} {base : Nat} {sp : Nat → Bool} {held : Bool} {m : Nat} {cs : List Value} {y : DataW H × List MemPlace} (h : DataW.trod enc Tryz.prog w base sp held m 36 cs = some y) :
    ∃ t : Ty, cs = dens (tyC t) := by
  have c5 : Tryz.prog.cellsOf 36 = 5 := by kernel_rfl
  obtain ⟨xs, n, _, hx, hl, hlen, hg⟩ := DataW.trod_struct Tryz.underlying36 h
  rw [c5] at hl
  match cs, hl with
  | [v0, v1, v2, v3, v4], _ =>
    match xs, hlen with
    | [y0, y1, y2, y3], _ =>
      have cc : Tryz.prog.cellsOf 3 = 1 := by kernel_rfl
      have c2 : Tryz.prog.cellsOf 34 = 2 := by kernel_rfl
      have g0 : DataW.trod enc Tryz.prog w base sp held n 3 (([v0, v1, v2, v3, v4].drop 0).take (Tryz.prog.cellsOf 3)) = some y0 := hg 0 _ rfl
      have g1 : DataW.trod enc Tryz.prog w base sp held n 3 (([v0, v1, v2, v3, v4].drop 1).take (Tryz.prog.cellsOf 3)) = some y1 := hg 1 _ rfl
      have g2 : DataW.trod enc Tryz.prog w base sp held n 34 (([v0, v1, v2, v3, v4].drop 2).take (Tryz.prog.cellsOf 34)) = some y2 := hg 2 _ rfl
      have g3 : DataW.trod enc Tryz.prog w base sp held n 3 (([v0, v1, v2, v3, v4].drop 4).take (Tryz.prog.cellsOf 3)) = some y3 := hg 3 _ rfl
      rw [cc] at g0 g1 g3
      rw [c2] at g2
      obtain ⟨k, e0, _, f0⟩ := DataW.trod_int Tryz.underlying3 g0
      obtain ⟨r', e1, _, f1⟩ := DataW.trod_int Tryz.underlying3 g1
      obtain ⟨q, e4, _, f4⟩ := DataW.trod_int Tryz.underlying3 g3
      obtain ⟨zs, m, _, hz, _, hzl, hze⟩ := DataW.trod_array Tryz.underlying34 g2
      have z0 := hze 0 (by omega)
      have z1 := hze 1 (by omega)
      rw [cc] at z0 z1
      match zs, hzl with
      | [u0, u1], _ =>
        obtain ⟨l0, e2, _, f2⟩ := DataW.trod_int Tryz.underlying3 z0
        obtain ⟨l1, e3, _, f3⟩ := DataW.trod_int Tryz.underlying3 z1
        simp at e0 e1 e2 e3 e4
        subst e0; subst e1; subst e2; subst e3; subst e4
        exact ⟨⟨k, r', l0, l1, q⟩, rfl⟩
set_option maxRecDepth 100000 in
theorem open_rule {H : Type} {enc : TypeId × Value → H} {w : World} {r : Reach} {b0 : Nat} {v : Value} {d : DataW H} {p : List MemPlace} (hv : Value.okWide Tryz.prog w r b0 38 v) (h : DataW.Trod enc Tryz.prog w 0 (fun _ => true) true 38 v d p) :
    ∃ k r a0 a1 d' er co : Int, v = den (.agg (ruS k r a0 a1 d' er co)) := by
  obtain ⟨cs, rfl, hsz⟩ := okWide_struct Tryz.underlying38 hv
  have c7 : Tryz.prog.cellsOf 38 = 7 := by kernel_rfl
  have hsz7 : cs.size = 7 := hsz.trans c7
  obtain ⟨l⟩ := cs
  match l, hsz7 with
  | [v0, v1, v2, v3, v4, v5, v6], _ =>
    obtain ⟨fuel, hf⟩ := h
    obtain ⟨xs, n, _, hx, _, hlen, hg⟩ := DataW.trod_struct Tryz.underlying38 hf
    match xs, hlen with
    | [y0, y1, y2], _ =>
      have c5 : Tryz.prog.cellsOf 36 = 5 := by kernel_rfl
      have cc : Tryz.prog.cellsOf 3 = 1 := by kernel_rfl
      have g0 : DataW.trod enc Tryz.prog w 0 (fun _ => true) true n 36 (([v0, v1, v2, v3, v4, v5, v6].drop 0).take (Tryz.prog.cellsOf 36)) = some y0 := hg 0 _ rfl
      have g1 : DataW.trod enc Tryz.prog w 0 (fun _ => true) true n 3 (([v0, v1, v2, v3, v4, v5, v6].drop 5).take (Tryz.prog.cellsOf 3)) = some y1 := hg 1 _ rfl
      have g2 : DataW.trod enc Tryz.prog w 0 (fun _ => true) true n 3 (([v0, v1, v2, v3, v4, v5, v6].drop 6).take (Tryz.prog.cellsOf 3)) = some y2 := hg 2 _ rfl
      rw [c5] at g0
      rw [cc] at g1 g2
      obtain ⟨t, e0⟩ := trod_ty g0
      obtain ⟨x, e1, _, f1⟩ := DataW.trod_int Tryz.underlying3 g1
      obtain ⟨y, e2, _, f2⟩ := DataW.trod_int Tryz.underlying3 g2
      simp [tyC, dens] at e0 e1 e2
      obtain ⟨rfl, rfl, rfl, rfl, rfl⟩ := e0
      subst e1; subst e2
      exact ⟨t.k, t.r, t.a0, t.a1, t.d, x, y, rfl⟩
set_option maxRecDepth 100000 in
theorem open_applied {H : Type} {enc : TypeId × Value → H} {w : World} {r : Reach} {b0 : Nat} {v : Value} {d : DataW H} {p : List MemPlace} (hv : Value.okWide Tryz.prog w r b0 45 v) (h : DataW.Trod enc Tryz.prog w 0 (fun _ => true) true 45 v d p) :
    ∃ (q : Int) (D : Option Addr) (n g : Nat) (t : Nat → Ty), v = .agg #[.int .i64 q, .slice D n g] ∧ ∀ C, Hold C w (.recs D g 5 n fun i => tyC (t i)) := by
  obtain ⟨cs, rfl, hsz⟩ := okWide_struct Tryz.underlying45 hv
  have c2 : Tryz.prog.cellsOf 45 = 2 := by kernel_rfl
  have hsz2 : cs.size = 2 := hsz.trans c2
  obtain ⟨l⟩ := cs
  match l, hsz2 with
  | [v0, v1], _ =>
    obtain ⟨fuel, hf⟩ := h
    obtain ⟨xs, n, _, hx, _, hlen, hg⟩ := DataW.trod_struct Tryz.underlying45 hf
    match xs, hlen with
    | [y0, y1], _ =>
      have cs1 : Tryz.prog.cellsOf 3 = 1 := by kernel_rfl
      have cb1 : Tryz.prog.cellsOf 43 = 1 := by kernel_rfl
      have g0 : DataW.trod enc Tryz.prog w 0 (fun _ => true) true n 3 (([v0, v1].drop 0).take (Tryz.prog.cellsOf 3)) = some y0 := hg 0 _ rfl
      have g1 : DataW.trod enc Tryz.prog w 0 (fun _ => true) true n 43 (([v0, v1].drop 1).take (Tryz.prog.cellsOf 43)) = some y1 := hg 1 _ rfl
      rw [cs1] at g0
      rw [cb1] at g1
      obtain ⟨q, e0, _, _⟩ := DataW.trod_int Tryz.underlying3 g0
      obtain ⟨D, g, k, f, e1, _, hgt, hs⟩ := open_recs Tryz.underlying43 (z := 5) (by kernel_rfl) (by decide) g1
      simp at e0 e1
      subst e0; subst e1
      have hd : ∀ i, ∃ t : Ty, i < k → f i = dens (tyC t) := fun i => by
        by_cases hi : i < k
        · obtain ⟨_, m, y, hy⟩ := hgt i hi
          obtain ⟨d, h1⟩ := trod_ty hy
          exact ⟨d, fun _ => h1⟩
        · exact ⟨⟨0, 0, 0, 0, 0⟩, fun h => absurd h hi⟩
      refine ⟨q, D, k, g, fun i => (hd i).choose, rfl, fun C => ⟨hs.congr fun i hi j hj => ?_, fun i hi => rfl⟩⟩
      rw [(hd i).choose_spec hi]
set_option maxRecDepth 100000 in
theorem open_u2 {H : Type} {enc : TypeId × Value → H} {w : World} {r : Reach} {b0 : Nat} {v : Value} {d : DataW H} {p : List MemPlace} (hv : Value.okWide Tryz.prog w r b0 50 v) (h : DataW.Trod enc Tryz.prog w 0 (fun _ => true) true 50 v d p) :
    ∃ x0 x1 : Int, v = .agg #[.int .u8 x0, .int .u8 x1] ∧ (0 ≤ x0 ∧ x0 ≤ 255) ∧ (0 ≤ x1 ∧ x1 ≤ 255) := by
  obtain ⟨cs, rfl, hsz⟩ := okWide_arr Tryz.underlying50 hv
  have c4 : Tryz.prog.cellsOf 50 = 2 := by kernel_rfl
  have c1 : Tryz.prog.cellsOf 5 = 1 := by kernel_rfl
  have hsz4 : cs.size = 2 := hsz.trans c4
  obtain ⟨l⟩ := cs
  match l, hsz4 with
  | [v0, v1], _ =>
    obtain ⟨fuel, hf⟩ := h
    obtain ⟨zs, m, _, hz, _, hzl, hze⟩ := DataW.trod_array Tryz.underlying50 hf
    have z0 := hze 0 (by omega)
    have z1 := hze 1 (by omega)
    rw [c1] at z0 z1
    match zs, hzl with
    | [u0, u1], _ =>
      obtain ⟨x0, e0, _, f0⟩ := DataW.trod_int Tryz.underlying5 z0
      obtain ⟨x1, e1, _, f1⟩ := DataW.trod_int Tryz.underlying5 z1
      simp [Value.cells] at e0 e1
      subst e0; subst e1
      exact ⟨x0, x1, rfl, wf8 f0, wf8 f1⟩
end Pr
end Go.Proofs.YtnpkmimbnjnicaaGreatDoor
/-
The walk of RulesBehind (chapter 21).
-/
set_option linter.unusedSimpArgs false
set_option linter.unusedVariables false
namespace Go.Proofs.YtnpkmimbnjnicaaGreatDoor
namespace Pr
open Go Go.RowKit En
open Lt
def lwHp (bn on cn ba oa ca : Nat) (A B : Option Addr) (c e : Nat) (ns : List ByteArray) (us : List Int) : Hp := (1001, .strs A c ns) :: (1002, .ints B e .u8 us) :: gHp bn on cn ba oa ca
def glBw : List (FuncId × Spc) := [(13, spLrg), (12, spTrue), (14, spAft), (15, spAft)]
theorem glBw_ok : GOk Tryz.prog (lookG glBw) := lG_cons (by kernel_rfl) spLrg_ok <| lG_cons (by kernel_rfl) spShown21_ok <| lG_cons (by kernel_rfl) spAft_ok <| lG_cons (by kernel_rfl) spRAft_ok lG_nil
set_option maxRecDepth 100000 in
set_option maxHeartbeats 8000000 in
theorem behind_walk (ns : List ByteArray) (us : List Int) (A B : Option Addr) (c e : Nat) (ec k r a0 a1 d er co : Int) (hB : Bytes us) (bn on cn ba oa ca : Nat) (h4 : 4 ≤ cn) (h3 : 3 ≤ ca) (w : World) (hg : allRd w.heap.size w (lwHp bn on cn ba oa ca A B c e ns us)) :
    Calls Tryz.prog 5 (dens [.agg [.g 1001 A ns.length c, .g 1002 B us.length e], .v (.int .i64 ec), .agg (ruS k r a0 a1 d er co)]).toArray w fun e' w' => e' = .returned (.bool true) ∧ Below w.heap.size w w' := by
  refine calls_go (args := [.agg [.g 1001 A ns.length c, .g 1002 B us.length e], .v (.int .i64 ec), .agg (ruS k r a0 a1 d er co)]) (hp := lwHp bn on cn ba oa ca A B c e ns us) (nx := 2000) (n := 900) (U := [(1000000, 11)]) (V := []) (tl := tlSw) (gl := glBw) (post := fun s' ys => ys = [.v (.bool true)])
    followP tlSw_ok glBw_ok Tryz.func5 rfl (by kernel_rfl) (Nat.le_of_ble_eq_true (by kernel_rfl)) (by kernel_rfl) (by kernel_rfl) (hh_list hg) (free_list (by simp [allLt, lwHp, gHp])) ?_ ?_
  · rintro s ys w' rfl H
    exact ⟨rfl, H.below⟩
  intro L F T G nd va hE
  obtain ⟨hL, hF, hs, hv, hT, hG, hR, hI, hJ, hW⟩ := hE
  rw [Tryz.results5] at hF
  simp (maxSteps := 1000000) only [En.nN, En.E, En.evsC, List.map_cons, List.map_nil, Nat.reduceBEq, Nat.reduceAdd, Nat.reduceMul, Nat.reduceEqDiff, Nat.reduceLeDiff, Nat.reduceLT, ne_eq, reduceCtorEq, Int.reduceBEq, Int.reduceBNe, Int.reduceAdd, Int.reduceSub, Int.reduceMul, Int.reduceTDiv, Int.reduceTMod, Int.reduceNeg, En.bitN, Nat.testBit, Nat.reduceShiftRight, Nat.reduceShiftLeft, Nat.reduceAnd, Nat.reduceOr, Nat.reduceBNe, Int.reduceToNat, Nat.reduceSub, Int.reduceLE, Int.reduceLT] at hv
  simp only [En.at_nil, En.at_cons, En.ag_nil, En.ag_cons, and_true, tlSw, glBw, tyInt, tyU8, tyBool, tyStr, tyErr, tyStrs, tyBytes, tyInts, tyLat, tyI2, tyTy, tyTys, tyRule] at hT hG
  cases hl : lrgV ns us
  · simp (maxSteps := 10000000) only [En.E, En.evsC, List.map_cons, List.map_nil, Nat.reduceBEq, Nat.reduceAdd, Nat.reduceMul, Nat.reduceEqDiff, Nat.reduceLeDiff, Nat.reduceLT, ne_eq, reduceCtorEq, Int.reduceBEq, Int.reduceBNe, Int.reduceAdd, Int.reduceSub, Int.reduceMul, Int.reduceTDiv, Int.reduceTMod, Int.reduceNeg, En.bitN, Nat.testBit, Nat.reduceShiftRight, Nat.reduceShiftLeft, Nat.reduceAnd, Nat.reduceOr, Nat.reduceBNe, Int.reduceToNat, Nat.reduceSub, Int.reduceLE, Int.reduceLT, En.vV, hs, hv, hT, hG, hF, lwHp, gHp, h4, h3, globR_q, latR_q, latN_q, latU_q, hB, spLrg_q, hl, spTrue_q, ruS, spAft_q]
  · simp (maxSteps := 10000000) only [En.E, En.evsC, List.map_cons, List.map_nil, Nat.reduceBEq, Nat.reduceAdd, Nat.reduceMul, Nat.reduceEqDiff, Nat.reduceLeDiff, Nat.reduceLT, ne_eq, reduceCtorEq, Int.reduceBEq, Int.reduceBNe, Int.reduceAdd, Int.reduceSub, Int.reduceMul, Int.reduceTDiv, Int.reduceTMod, Int.reduceNeg, En.bitN, Nat.testBit, Nat.reduceShiftRight, Nat.reduceShiftLeft, Nat.reduceAnd, Nat.reduceOr, Nat.reduceBNe, Int.reduceToNat, Nat.reduceSub, Int.reduceLE, Int.reduceLT, En.vV, hs, hv, hT, hG, hF, lwHp, gHp, h4, h3, globR_q, latR_q, latN_q, latU_q, hB, spLrg_q, hl, spTrue_q, ruS, spAft_q]
end Pr
end Go.Proofs.YtnpkmimbnjnicaaGreatDoor
