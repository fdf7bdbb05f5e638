/-
Arguments, opened: lattices, types, rules, primitives with types (chapter 21).
-/
import Derived.Test.YtnpkmimbnjnicaaGreatDoorOp1
import Derived.Test.YtnpkmimbnjnicaaGreatDoorRl2
set_option linter.unusedSimpArgs false
set_option linter.unusedVariables false
namespace Go.Proofs.YtnpkmimbnjnicaaGreatDoor
namespace Pr
open Go Go.RowKit En
open Lt
open Go.ChangeShapes Go.WideShapes Go.ChangeAt Lw
theorem wf8 {x : Int} (h : (Lit.int .u8 x).wf = true) : 0 ≤ x ∧ x ≤ 255 := by
  simp [Lit.wf, IntKind.min, IntKind.max, IntKind.bits, IntKind.signed] at h
  omega
set_option maxRecDepth 100000 in
theorem trod_strs {H : Type} {enc : TypeId × Value → H} {w : World} {base : Nat} {sp : Nat → Bool} {held : Bool} {m : Nat} {cs : List Value} {y : DataW H × List MemPlace} (h : DataW.trod enc Tryz.prog w base sp held m 30 cs = some y) :
    ∃ (A : Option Addr) (c : Nat) (l : List ByteArray), cs = [.slice A l.length c] ∧ ∀ B, Hold B w (.strs A c l) := by
  obtain ⟨A, c, n, g, rfl, hn, hg, hs⟩ := open_recs Tryz.underlying30 (z := 1) (by kernel_rfl) (by decide) h
  have hd : ∀ i, ∃ d : ByteArray, i < n → g i = [.string d] := fun i => by
    by_cases hi : i < n
    · obtain ⟨_, m, y, hy⟩ := hg i hi
      obtain ⟨d, h1, _⟩ := DataW.trod_string Tryz.underlying9 hy
      exact ⟨d, fun _ => h1⟩
    · exact ⟨ByteArray.empty, fun h => absurd h hi⟩
  obtain ⟨f, hf⟩ : ∃ f : Nat → ByteArray, ∀ i, i < n → g i = [.string (f i)] := ⟨fun i => (hd i).choose, fun i hi => (hd i).choose_spec hi⟩
  have hl : ((List.range n).map f).length = n := by simp
  refine ⟨A, c, (List.range n).map f, by rw [hl], fun B => ?_⟩
  show SlOk w A c 1 _ (fS _)
  rw [hl]
  refine hs.congr fun i hi j hj => ?_
  obtain rfl : j = 0 := by omega
  simp [hf i hi, fS, List.getD_eq_getElem?_getD, hi]
set_option maxRecDepth 100000 in
theorem trod_bytes {H : Type} {enc : TypeId × Value → H} {w : World} {base : Nat} {sp : Nat → Bool} {held : Bool} {m : Nat} {cs : List Value} {y : DataW H × List MemPlace} (h : DataW.trod enc Tryz.prog w base sp held m 31 cs = some y) :
    ∃ (A : Option Addr) (c : Nat) (l : List Int), cs = [.slice A l.length c] ∧ Bytes l ∧ ∀ B, Hold B w (.ints A c .u8 l) := by
  obtain ⟨A, c, n, g, rfl, hn, hg, hs⟩ := open_recs Tryz.underlying31 (z := 1) (by kernel_rfl) (by decide) h
  have hd : ∀ i, ∃ d : Int, i < n → g i = [.int .u8 d] ∧ 0 ≤ d ∧ d ≤ 255 := fun i => by
    by_cases hi : i < n
    · obtain ⟨_, m, y, hy⟩ := hg i hi
      obtain ⟨d, h1, _, h2⟩ := DataW.trod_int Tryz.underlying5 hy
      exact ⟨d, fun _ => ⟨h1, wf8 h2⟩⟩
    · exact ⟨0, fun h => absurd h hi⟩
  obtain ⟨f, hf⟩ : ∃ f : Nat → Int, ∀ i, i < n → (g i = [.int .u8 (f i)] ∧ 0 ≤ f i ∧ f i ≤ 255) := ⟨fun i => (hd i).choose, fun i hi => (hd i).choose_spec hi⟩
  have hl : ((List.range n).map f).length = n := by simp
  refine ⟨A, c, (List.range n).map f, by rw [hl], fun a => ?_, fun B => ?_⟩
  · by_cases ha : a < n
    · have := (hf a ha).2
      simpa [List.getD_eq_getElem?_getD, ha] using this
    · simp [List.getD_eq_getElem?_getD, ha]
  · show SlOk w A c 1 _ (fI .u8 _)
    rw [hl]
    refine hs.congr fun i hi j hj => ?_
    obtain rfl : j = 0 := by omega
    simp [(hf i hi).1, fI, List.getD_eq_getElem?_getD, hi]
set_option maxRecDepth 100000 in
theorem open_lat {H : Type} {enc : TypeId × Value → H} {w : World} {r : Reach} {b0 : Nat} {v : Value} {d : DataW H} {p : List MemPlace} (hv : Value.okWide Tryz.prog w r b0 33 v) (h : DataW.Trod enc Tryz.prog w 0 (fun _ => true) true 33 v d p) :
    ∃ (A : Option Addr) (c : Nat) (ns : List ByteArray) (B : Option Addr) (e : Nat) (us : List Int), v = .agg #[.slice A ns.length c, .slice B us.length e] ∧ Bytes us ∧ (∀ C, Hold C w (.strs A c ns)) ∧ ∀ C, Hold C w (.ints B e .u8 us) := by
  obtain ⟨cs, rfl, hsz⟩ := okWide_struct Tryz.underlying33 hv
  have c2 : Tryz.prog.cellsOf 33 = 2 := by kernel_rfl
  have hsz2 : cs.size = 2 := hsz.trans c2
  obtain ⟨l⟩ := cs
  match l, hsz2 with
  | [v0, v1], _ =>
    obtain ⟨fuel, hf⟩ := h
    obtain ⟨xs, n, _, hx, _, hlen, hg⟩ := DataW.trod_struct Tryz.underlying33 hf
    match xs, hlen with
    | [y0, y1], _ =>
      have cs1 : Tryz.prog.cellsOf 30 = 1 := by kernel_rfl
      have cb1 : Tryz.prog.cellsOf 31 = 1 := by kernel_rfl
      have g0 : DataW.trod enc Tryz.prog w 0 (fun _ => true) true n 30 (([v0, v1].drop 0).take (Tryz.prog.cellsOf 30)) = some y0 := hg 0 _ rfl
      have g1 : DataW.trod enc Tryz.prog w 0 (fun _ => true) true n 31 (([v0, v1].drop 1).take (Tryz.prog.cellsOf 31)) = some y1 := hg 1 _ rfl
      rw [cs1] at g0
      rw [cb1] at g1
      obtain ⟨A, c, ns, e0, h0⟩ := trod_strs g0
      obtain ⟨B, e, us, e1, hB, h1⟩ := trod_bytes g1
      simp at e0 e1
      subst e0; subst e1
      exact ⟨A, c, ns, B, e, us, rfl, hB, h0, h1⟩
set_option maxRecDepth 100000 in
theorem trod_ty {H : Type} {enc : TypeId × Value → H} {w : World} {base : Nat} {sp : Nat → Bool} {held : Bool} {m : Nat} {cs : List Value} {y : DataW H × List MemPlace} (h : DataW.trod enc Tryz.prog w base sp held m 36 cs = some y) :
    ∃ t : Ty, cs = dens (tyC t) := by
  have c5 : Tryz.prog.cellsOf 36 = 5 := by kernel_rfl
  obtain ⟨xs, n, _, hx, hl, hlen, hg⟩ := DataW.trod_struct Tryz.underlying36 h
  rw [c5] at hl
  match cs, hl with
  | [v0, v1, v2, v3, v4], _ =>
    match xs, hlen with
    | [y0, y1, y2, y3], _ =>
      have cc : Tryz.prog.cellsOf 3 = 1 := by kernel_rfl
      have c2 : Tryz.prog.cellsOf 34 = 2 := by kernel_rfl
      have g0 : DataW.trod enc Tryz.prog w base sp held n 3 (([v0, v1, v2, v3, v4].drop 0).take (Tryz.prog.cellsOf 3)) = some y0 := hg 0 _ rfl
      have g1 : DataW.trod enc Tryz.prog w base sp held n 3 (([v0, v1, v2, v3, v4].drop 1).take (Tryz.prog.cellsOf 3)) = some y1 := hg 1 _ rfl
      have g2 : DataW.trod enc Tryz.prog w base sp held n 34 (([v0, v1, v2, v3, v4].drop 2).take (Tryz.prog.cellsOf 34)) = some y2 := hg 2 _ rfl
      have g3 : DataW.trod enc Tryz.prog w base sp held n 3 (([v0, v1, v2, v3, v4].drop 4).take (Tryz.prog.cellsOf 3)) = some y3 := hg 3 _ rfl
      rw [cc] at g0 g1 g3
      rw [c2] at g2
      obtain ⟨k, e0, _, f0⟩ := DataW.trod_int Tryz.underlying3 g0
      obtain ⟨r', e1, _, f1⟩ := DataW.trod_int Tryz.underlying3 g1
      obtain ⟨q, e4, _, f4⟩ := DataW.trod_int Tryz.underlying3 g3
      obtain ⟨zs, m, _, hz, _, hzl, hze⟩ := DataW.trod_array Tryz.underlying34 g2
      have z0 := hze 0 (by omega)
      have z1 := hze 1 (by omega)
      rw [cc] at z0 z1
      match zs, hzl with
      | [u0, u1], _ =>
        obtain ⟨l0, e2, _, f2⟩ := DataW.trod_int Tryz.underlying3 z0
        obtain ⟨l1, e3, _, f3⟩ := DataW.trod_int Tryz.underlying3 z1
        simp at e0 e1 e2 e3 e4
        subst e0; subst e1; subst e2; subst e3; subst e4
        exact ⟨⟨k, r', l0, l1, q⟩, rfl⟩
set_option maxRecDepth 100000 in
theorem open_rule {H : Type} {enc : TypeId × Value → H} {w : World} {r : Reach} {b0 : Nat} {v : Value} {d : DataW H} {p : List MemPlace} (hv : Value.okWide Tryz.prog w r b0 38 v) (h : DataW.Trod enc Tryz.prog w 0 (fun _ => true) true 38 v d p) :
    ∃ k r a0 a1 d' er co : Int, v = den (.agg (ruS k r a0 a1 d' er co)) := by
  obtain ⟨cs, rfl, hsz⟩ := okWide_struct Tryz.underlying38 hv
  have c7 : Tryz.prog.cellsOf 38 = 7 := by kernel_rfl
  have hsz7 : cs.size = 7 := hsz.trans c7
  obtain ⟨l⟩ := cs
  match l, hsz7 with
  | [v0, v1, v2, v3, v4, v5, v6], _ =>
    obtain ⟨fuel, hf⟩ := h
    obtain ⟨xs, n, _, hx, _, hlen, hg⟩ := DataW.trod_struct Tryz.underlying38 hf
    match xs, hlen with
    | [y0, y1, y2], _ =>
      have c5 : Tryz.prog.cellsOf 36 = 5 := by kernel_rfl
      have cc : Tryz.prog.cellsOf 3 = 1 := by kernel_rfl
      have g0 : DataW.trod enc Tryz.prog w 0 (fun _ => true) true n 36 (([v0, v1, v2, v3, v4, v5, v6].drop 0).take (Tryz.prog.cellsOf 36)) = some y0 := hg 0 _ rfl
      have g1 : DataW.trod enc Tryz.prog w 0 (fun _ => true) true n 3 (([v0, v1, v2, v3, v4, v5, v6].drop 5).take (Tryz.prog.cellsOf 3)) = some y1 := hg 1 _ rfl
      have g2 : DataW.trod enc Tryz.prog w 0 (fun _ => true) true n 3 (([v0, v1, v2, v3, v4, v5, v6].drop 6).take (Tryz.prog.cellsOf 3)) = some y2 := hg 2 _ rfl
      rw [c5] at g0
      rw [cc] at g1 g2
      obtain ⟨t, e0⟩ := trod_ty g0
      obtain ⟨x, e1, _, f1⟩ := DataW.trod_int Tryz.underlying3 g1
      obtain ⟨y, e2, _, f2⟩ := DataW.trod_int Tryz.underlying3 g2
      simp [tyC, dens] at e0 e1 e2
      obtain ⟨rfl, rfl, rfl, rfl, rfl⟩ := e0
      subst e1; subst e2
      exact ⟨t.k, t.r, t.a0, t.a1, t.d, x, y, rfl⟩
set_option maxRecDepth 100000 in
theorem open_applied {H : Type} {enc : TypeId × Value → H} {w : World} {r : Reach} {b0 : Nat} {v : Value} {d : DataW H} {p : List MemPlace} (hv : Value.okWide Tryz.prog w r b0 45 v) (h : DataW.Trod enc Tryz.prog w 0 (fun _ => true) true 45 v d p) :
    ∃ (q : Int) (D : Option Addr) (n g : Nat) (t : Nat → Ty), v = .agg #[.int .i64 q, .slice D n g] ∧ ∀ C, Hold C w (.recs D g 5 n fun i => tyC (t i)) := by
  obtain ⟨cs, rfl, hsz⟩ := okWide_struct Tryz.underlying45 hv
  have c2 : Tryz.prog.cellsOf 45 = 2 := by kernel_rfl
  have hsz2 : cs.size = 2 := hsz.trans c2
  obtain ⟨l⟩ := cs
  match l, hsz2 with
  | [v0, v1], _ =>
    obtain ⟨fuel, hf⟩ := h
    obtain ⟨xs, n, _, hx, _, hlen, hg⟩ := DataW.trod_struct Tryz.underlying45 hf
    match xs, hlen with
    | [y0, y1], _ =>
      have cs1 : Tryz.prog.cellsOf 3 = 1 := by kernel_rfl
      have cb1 : Tryz.prog.cellsOf 43 = 1 := by kernel_rfl
      have g0 : DataW.trod enc Tryz.prog w 0 (fun _ => true) true n 3 (([v0, v1].drop 0).take (Tryz.prog.cellsOf 3)) = some y0 := hg 0 _ rfl
      have g1 : DataW.trod enc Tryz.prog w 0 (fun _ => true) true n 43 (([v0, v1].drop 1).take (Tryz.prog.cellsOf 43)) = some y1 := hg 1 _ rfl
      rw [cs1] at g0
      rw [cb1] at g1
      obtain ⟨q, e0, _, _⟩ := DataW.trod_int Tryz.underlying3 g0
      obtain ⟨D, g, k, f, e1, _, hgt, hs⟩ := open_recs Tryz.underlying43 (z := 5) (by kernel_rfl) (by decide) g1
      simp at e0 e1
      subst e0; subst e1
      have hd : ∀ i, ∃ t : Ty, i < k → f i = dens (tyC t) := fun i => by
        by_cases hi : i < k
        · obtain ⟨_, m, y, hy⟩ := hgt i hi
          obtain ⟨d, h1⟩ := trod_ty hy
          exact ⟨d, fun _ => h1⟩
        · exact ⟨⟨0, 0, 0, 0, 0⟩, fun h => absurd h hi⟩
      refine ⟨q, D, k, g, fun i => (hd i).choose, rfl, fun C => ⟨hs.congr fun i hi j hj => ?_, fun i hi => rfl⟩⟩
      rw [(hd i).choose_spec hi]
set_option maxRecDepth 100000 in
theorem open_u2 {H : Type} {enc : TypeId × Value → H} {w : World} {r : Reach} {b0 : Nat} {v : Value} {d : DataW H} {p : List MemPlace} (hv : Value.okWide Tryz.prog w r b0 50 v) (h : DataW.Trod enc Tryz.prog w 0 (fun _ => true) true 50 v d p) :
    ∃ x0 x1 : Int, v = .agg #[.int .u8 x0, .int .u8 x1] ∧ (0 ≤ x0 ∧ x0 ≤ 255) ∧ (0 ≤ x1 ∧ x1 ≤ 255) := by
  obtain ⟨cs, rfl, hsz⟩ := okWide_arr Tryz.underlying50 hv
  have c4 : Tryz.prog.cellsOf 50 = 2 := by kernel_rfl
  have c1 : Tryz.prog.cellsOf 5 = 1 := by kernel_rfl
  have hsz4 : cs.size = 2 := hsz.trans c4
  obtain ⟨l⟩ := cs
  match l, hsz4 with
  | [v0, v1], _ =>
    obtain ⟨fuel, hf⟩ := h
    obtain ⟨zs, m, _, hz, _, hzl, hze⟩ := DataW.trod_array Tryz.underlying50 hf
    have z0 := hze 0 (by omega)
    have z1 := hze 1 (by omega)
    rw [c1] at z0 z1
    match zs, hzl with
    | [u0, u1], _ =>
      obtain ⟨x0, e0, _, f0⟩ := DataW.trod_int Tryz.underlying5 z0
      obtain ⟨x1, e1, _, f1⟩ := DataW.trod_int Tryz.underlying5 z1
      simp [Value.cells] at e0 e1
      subst e0; subst e1
      exact ⟨x0, x1, rfl, wf8 f0, wf8 f1⟩
end Pr
end Go.Proofs.YtnpkmimbnjnicaaGreatDoor
/-
The references of chapters 20 and 21: Good, Check, join, After; Large.
-/
set_option linter.unusedSimpArgs false
set_option linter.unusedVariables false
namespace Go.Proofs.YtnpkmimbnjnicaaGreatDoor
namespace Pr
open Go Go.RowKit En
open Lt
def spRGood : Spc
  | [.agg [.g k A n c, .g j B m d], .agg [.v (.int .i64 kk), .v (.int .i64 r), .v (.int .i64 a0), .v (.int .i64 a1), .v (.int .i64 f)]], H, _ => .is (latR A n c B m d (H k) (H j) ∧ Lt (latU (H j)) ∧ m = n) (.v (.int .i64 (goodV (latU (H j)) kk r a0 a1 f)))
  | _, _, _ => .bad
theorem spRGood_q {k n c j m d : Nat} {A B : Option Addr} {kk r a0 a1 f : Int} {H : Nat → Ch} {nx : Nat} : spRGood [.agg [.g k A n c, .g j B m d], .agg [.v (.int .i64 kk), .v (.int .i64 r), .v (.int .i64 a0), .v (.int .i64 a1), .v (.int .i64 f)]] H nx = .is (latR A n c B m d (H k) (H j) ∧ Lt (latU (H j)) ∧ m = n) (.v (.int .i64 (goodV (latU (H j)) kk r a0 a1 f))) := (rfl)
theorem spRGood_ok : SpecOk Tryz.prog 39 spRGood := by
  intro args hp nx w0 O w H hv
  unfold spRGood at hv ⊢
  split at hv
  · next k A n c j B m d kk r a0 a1 f =>
    obtain ⟨hl, hx⟩ := hv
    obtain ⟨x1, x2, x3, x4, x5⟩ := latR_of hl
    have h1 := H.hold k
    have h2 := H.hold j
    rw [x1] at h1
    rw [x2] at h2
    have := rgood_any (latN (lookH hp k)) (latU (lookH hp j)) A B c d kk r a0 a1 f hx.1 (by omega) w ⟨⟨h1, rfl⟩, ⟨h2, rfl⟩, trivial⟩
    rw [← x3, ← x4] at this
    refine this.mono ?_
    rintro e w' ⟨rfl, hb⟩
    exact ⟨⟨0, none, 0, none, 0, mz⟩, rfl, .still hb⟩
  · exact hv.elim
def glRc20 : List (FuncId × Spc) := [(38, spRChk), (39, spRGood)]
theorem glRc20_ok : GOk Tryz.prog (lookG glRc20) := lG_cons (by kernel_rfl) spRChk_ok <| lG_cons (by kernel_rfl) spRGood_ok lG_nil
set_option maxRecDepth 100000 in
set_option maxHeartbeats 8000000 in
theorem rtyCheck_any (ns : List ByteArray) (us : List Int) (A B : Option Addr) (c e : Nat) (k r a0 a1 d : Int) (hB : Bytes us) (w : World) (hg : allRd w.heap.size w [(1001, .strs A c ns), (1002, .ints B e .u8 us)]) :
    Calls Tryz.prog 31 (dens [.agg [.g 1001 A ns.length c, .g 1002 B us.length e], .agg (tyS k r a0 a1 d)]).toArray w fun e w' => e = .returned (.int .i64 (tckV ns us k r a0 a1 d)) ∧ Below w.heap.size w w' := by
  obtain ⟨q, hq⟩ : ∃ q, q = tckV ns us k r a0 a1 d := ⟨_, rfl⟩
  rw [← hq]
  refine calls_go (args := [.agg [.g 1001 A ns.length c, .g 1002 B us.length e], .agg (tyS k r a0 a1 d)]) (hp := [(1001, .strs A c ns), (1002, .ints B e .u8 us)]) (nx := 2000) (n := 600) (U := [(1000000, 8)]) (V := []) (tl := tlTp) (gl := glRc20) (post := fun s' ys => ys = [.v (.int .i64 q)])
    followP tlTp_ok glRc20_ok Tryz.func31 rfl (by kernel_rfl) (Nat.le_of_ble_eq_true (by kernel_rfl)) (by kernel_rfl) (by kernel_rfl) (hh_list hg) (free_list (by simp [allLt])) ?_ ?_
  · rintro s ys w' rfl H
    exact ⟨rfl, H.below⟩
  intro L F T G nd va hE
  obtain ⟨hL, hF, hs, hv, hT, hG, hR, hI, hJ, hW⟩ := hE
  rw [Tryz.results31] at hF
  simp (maxSteps := 1000000) only [En.nN, En.E, En.evsC, List.map_cons, List.map_nil, Nat.reduceBEq, Nat.reduceAdd, Nat.reduceMul, Nat.reduceEqDiff, Nat.reduceLeDiff, Nat.reduceLT, ne_eq, reduceCtorEq, Int.reduceBEq, Int.reduceBNe, Int.reduceAdd, Int.reduceSub, Int.reduceMul, Int.reduceTDiv, Int.reduceTMod, Int.reduceNeg, En.bitN, Nat.testBit, Nat.reduceShiftRight, Nat.reduceShiftLeft, Nat.reduceAnd, Nat.reduceOr, Nat.reduceBNe, Int.reduceToNat, Nat.reduceSub, Int.reduceLE, Int.reduceLT] at hv
  simp only [En.at_nil, En.at_cons, En.ag_nil, En.ag_cons, and_true, tlTp, glRc20, tyInt, tyU8, tyBool, tyStr, tyErr, tyStrs, tyBytes, tyInts, tyLat, tyI2, tyTy, tyTOrd, tyWith] at hT hG
  cases h1 : ((chkV nmV ns us).2 != 0)
  · have h0 : (chkV nmV ns us).2 = 0 := by simpa using h1
    obtain ⟨l1, l2, l3, l4⟩ := lt_of_chk hB h0
    rw [tckV_yes h0] at hq
    simp (maxSteps := 10000000) only [En.E, En.evsC, List.map_cons, List.map_nil, Nat.reduceBEq, Nat.reduceAdd, Nat.reduceMul, Nat.reduceEqDiff, Nat.reduceLeDiff, Nat.reduceLT, ne_eq, reduceCtorEq, Int.reduceBEq, Int.reduceBNe, Int.reduceAdd, Int.reduceSub, Int.reduceMul, Int.reduceTDiv, Int.reduceTMod, Int.reduceNeg, En.bitN, Nat.testBit, Nat.reduceShiftRight, Nat.reduceShiftLeft, Nat.reduceAnd, Nat.reduceOr, Nat.reduceBNe, Int.reduceToNat, Nat.reduceSub, Int.reduceLE, Int.reduceLT, En.vV, hs, hv, hT, hG, hF, tyS, spRChk_q, latR_q, latN_q, latU_q, hB, h1, h0, spRGood_q, l1, ← l2, hq]
  · rw [tckV_no h1] at hq
    simp (maxSteps := 10000000) only [En.E, En.evsC, List.map_cons, List.map_nil, Nat.reduceBEq, Nat.reduceAdd, Nat.reduceMul, Nat.reduceEqDiff, Nat.reduceLeDiff, Nat.reduceLT, ne_eq, reduceCtorEq, Int.reduceBEq, Int.reduceBNe, Int.reduceAdd, Int.reduceSub, Int.reduceMul, Int.reduceTDiv, Int.reduceTMod, Int.reduceNeg, En.bitN, Nat.testBit, Nat.reduceShiftRight, Nat.reduceShiftLeft, Nat.reduceAnd, Nat.reduceOr, Nat.reduceBNe, Int.reduceToNat, Nat.reduceSub, Int.reduceLE, Int.reduceLT, En.vV, hs, hv, hT, hG, hF, tyS, spRChk_q, latR_q, latN_q, latU_q, hB, h1, hq]
theorem spTyC_of {fid : FuncId} (h : ∀ (ns : List ByteArray) (us : List Int) (A B : Option Addr) (c e : Nat) (k r a0 a1 d : Int) (hB : Bytes us) (w : World) (hg : allRd w.heap.size w [(1001, .strs A c ns), (1002, .ints B e .u8 us)]), Calls Tryz.prog fid (dens [.agg [.g 1001 A ns.length c, .g 1002 B us.length e], .agg (tyS k r a0 a1 d)]).toArray w fun e w' => e = .returned (.int .i64 (tckV ns us k r a0 a1 d)) ∧ Below w.heap.size w w') : SpecOk Tryz.prog fid spTyC := by
  intro args hp nx w0 O w H hv
  unfold spTyC at hv ⊢
  split at hv
  · next i A n c j B m e k r a0 a1 d =>
    obtain ⟨x1, x2, x3, x4, x5⟩ := latR_of hv
    have h1 := H.hold i
    have h2 := H.hold j
    rw [x1] at h1
    rw [x2] at h2
    have := h (latN (lookH hp i)) (latU (lookH hp j)) A B c e k r a0 a1 d x5 w ⟨⟨h1, rfl⟩, ⟨h2, rfl⟩, trivial⟩
    rw [← x3, ← x4] at this
    refine this.mono ?_
    rintro e w' ⟨rfl, hb⟩
    exact ⟨⟨0, none, 0, none, 0, mz⟩, rfl, .still hb⟩
  · exact hv.elim
theorem spRTyC_ok : SpecOk Tryz.prog 31 spTyC := spTyC_of rtyCheck_any
def glJr : List (FuncId × Spc) := [(53, spRUp)]
theorem glJr_ok : GOk Tryz.prog (lookG glJr) := lG_cons (by kernel_rfl) spRUp_ok lG_nil
set_option maxRecDepth 100000 in
set_option maxHeartbeats 4000000 in
theorem rjoin_any (ns : List ByteArray) (us : List Int) (A B : Option Addr) (c d : Nat) (a b : Int) (hB : Bytes us) (hL' : Lt us) (ha : labB us.length a = true) (hb : labB us.length b = true) (w : World) (hg : allRd w.heap.size w [(1001, .strs A c ns), (1002, .ints B d .u8 us)]) :
    Calls Tryz.prog 33 (dens [.agg [.g 1001 A ns.length c, .g 1002 B us.length d], .v (.int .i64 a), .v (.int .i64 b)]).toArray w fun e w' => e = .returned (.int .i64 (jI us a b)) ∧ Below w.heap.size w w' := by
  refine calls_go (args := [.agg [.g 1001 A ns.length c, .g 1002 B us.length d], .v (.int .i64 a), .v (.int .i64 b)]) (hp := [(1001, .strs A c ns), (1002, .ints B d .u8 us)]) (nx := 2000) (n := 600) (U := [(1000000, 8)]) (V := []) (tl := tlTp) (gl := glJr) (post := fun s' ys => ys = [.v (.int .i64 (jI us a b))])
    followP tlTp_ok glJr_ok Tryz.func33 rfl (by kernel_rfl) (Nat.le_of_ble_eq_true (by kernel_rfl)) (by kernel_rfl) (by kernel_rfl) (hh_list hg) (free_list (by simp [allLt])) ?_ ?_
  · rintro s ys w' rfl H
    exact ⟨rfl, H.below⟩
  intro L F T G nd va hE
  obtain ⟨hL, hF, hs, hv, hT, hG, hR, hI, hJ, hW⟩ := hE
  rw [Tryz.results33] at hF
  simp (maxSteps := 1000000) only [En.nN, En.E, En.evsC, List.map_cons, List.map_nil, Nat.reduceBEq, Nat.reduceAdd, Nat.reduceMul, Nat.reduceEqDiff, Nat.reduceLeDiff, Nat.reduceLT, ne_eq, reduceCtorEq, Int.reduceBEq, Int.reduceBNe, Int.reduceAdd, Int.reduceSub, Int.reduceMul, Int.reduceTDiv, Int.reduceTMod, Int.reduceNeg, En.bitN, Nat.testBit, Nat.reduceShiftRight, Nat.reduceShiftLeft, Nat.reduceAnd, Nat.reduceOr, Nat.reduceBNe, Int.reduceToNat, Nat.reduceSub, Int.reduceLE, Int.reduceLT] at hv
  simp only [En.at_nil, En.at_cons, En.ag_nil, En.ag_cons, and_true, tlTp, glJr, tyInt, tyU8, tyBool, tyStr, tyErr, tyStrs, tyBytes, tyInts, tyLat, tyI2, tyTy, tyTOrd, tyWith] at hT hG
  simp (maxSteps := 10000000) only [En.E, En.evsC, List.map_cons, List.map_nil, Nat.reduceBEq, Nat.reduceAdd, Nat.reduceMul, Nat.reduceEqDiff, Nat.reduceLeDiff, Nat.reduceLT, ne_eq, reduceCtorEq, Int.reduceBEq, Int.reduceBNe, Int.reduceAdd, Int.reduceSub, Int.reduceMul, Int.reduceTDiv, Int.reduceTMod, Int.reduceNeg, En.bitN, Nat.testBit, Nat.reduceShiftRight, Nat.reduceShiftLeft, Nat.reduceAnd, Nat.reduceOr, Nat.reduceBNe, Int.reduceToNat, Nat.reduceSub, Int.reduceLE, Int.reduceLT, En.vV, hs, hv, hT, hG, hF, spRUp_q, latR_q, latU_q, hB, hL', ha, hb]
def spRJ21 : Spc
  | [.agg [.g k A n c, .g j B m d], .v (.int .i64 a), .v (.int .i64 b)], H, _ => .is (latR A n c B m d (H k) (H j) ∧ Lt (latU (H j)) ∧ labB m a = true ∧ labB m b = true) (.v (.int .i64 (jI (latU (H j)) a b)))
  | _, _, _ => .bad
theorem spRJ21_q {k n c j m d : Nat} {A B : Option Addr} {a b : Int} {H : Nat → Ch} {nx : Nat} : spRJ21 [.agg [.g k A n c, .g j B m d], .v (.int .i64 a), .v (.int .i64 b)] H nx = .is (latR A n c B m d (H k) (H j) ∧ Lt (latU (H j)) ∧ labB m a = true ∧ labB m b = true) (.v (.int .i64 (jI (latU (H j)) a b))) := (rfl)
theorem spRJ21_ok : SpecOk Tryz.prog 33 spRJ21 := by
  intro args hp nx w0 O w H hv
  unfold spRJ21 at hv ⊢
  split at hv
  · next k A n c j B m d a b =>
    obtain ⟨hl, hx⟩ := hv
    obtain ⟨x1, x2, x3, x4, x5⟩ := latR_of hl
    have h1 := H.hold k
    have h2 := H.hold j
    rw [x1] at h1
    rw [x2] at h2
    have := rjoin_any (latN (lookH hp k)) (latU (lookH hp j)) A B c d a b x5 hx.1 (x4 ▸ hx.2.1) (x4 ▸ hx.2.2) w ⟨⟨h1, rfl⟩, ⟨h2, rfl⟩, trivial⟩
    rw [← x3, ← x4] at this
    refine this.mono ?_
    rintro e w' ⟨rfl, hb⟩
    exact ⟨⟨0, none, 0, none, 0, mz⟩, rfl, .still hb⟩
  · exact hv.elim
theorem jI_lab {us : List Int} (h : Lt us) {a b : Int} (ha : labB us.length a = true) (hb : labB us.length b = true) : labB us.length (jI us a b) = true := labB_iff.2 (jI_spec h (labB_iff.1 ha) (labB_iff.1 hb)).1
def glRAf : List (FuncId × Spc) := [(31, spTyC), (32, spRLab), (33, spRJ21)]
theorem glRAf_ok : GOk Tryz.prog (lookG glRAf) := lG_cons (by kernel_rfl) spRTyC_ok <| lG_cons (by kernel_rfl) spRLab_ok <| lG_cons (by kernel_rfl) spRJ21_ok lG_nil
set_option maxRecDepth 100000 in
set_option maxHeartbeats 8000000 in
theorem rafter_any (ns : List ByteArray) (us : List Int) (A B : Option Addr) (c e : Nat) (ec k r a0 a1 d er co : Int) (hB : Bytes us) (w : World) (hg : allRd w.heap.size w [(1001, .strs A c ns), (1002, .ints B e .u8 us)]) :
    Calls Tryz.prog 15 (dens [.agg [.g 1001 A ns.length c, .g 1002 B us.length e], .v (.int .i64 ec), .agg (ruS k r a0 a1 d er co)]).toArray w fun e' w' => e' = .returned (.tuple #[.int .i64 (aftV ns us ec k r a0 a1 d er co).1, .int .i64 (aftV ns us ec k r a0 a1 d er co).2]) ∧ Below w.heap.size w w' := by
  obtain ⟨q, hq⟩ : ∃ q, q = aftV ns us ec k r a0 a1 d er co := ⟨_, rfl⟩
  rw [← hq]
  refine calls_go (args := [.agg [.g 1001 A ns.length c, .g 1002 B us.length e], .v (.int .i64 ec), .agg (ruS k r a0 a1 d er co)]) (hp := [(1001, .strs A c ns), (1002, .ints B e .u8 us)]) (nx := 2000) (n := 900) (U := [(1000000, 9)]) (V := []) (tl := tlRu) (gl := glRAf) (post := fun s' ys => ys = [.v (.int .i64 q.1), .v (.int .i64 q.2)])
    followP tlRu_ok glRAf_ok Tryz.func15 rfl (by kernel_rfl) (Nat.le_of_ble_eq_true (by kernel_rfl)) (by kernel_rfl) (by kernel_rfl) (hh_list hg) (free_list (by simp [allLt])) ?_ ?_
  · rintro s ys w' rfl H
    exact ⟨rfl, H.below⟩
  intro L F T G nd va hE
  obtain ⟨hL, hF, hs, hv, hT, hG, hR, hI, hJ, hW⟩ := hE
  rw [Tryz.results15] at hF
  simp (maxSteps := 1000000) only [En.nN, En.E, En.evsC, List.map_cons, List.map_nil, Nat.reduceBEq, Nat.reduceAdd, Nat.reduceMul, Nat.reduceEqDiff, Nat.reduceLeDiff, Nat.reduceLT, ne_eq, reduceCtorEq, Int.reduceBEq, Int.reduceBNe, Int.reduceAdd, Int.reduceSub, Int.reduceMul, Int.reduceTDiv, Int.reduceTMod, Int.reduceNeg, En.bitN, Nat.testBit, Nat.reduceShiftRight, Nat.reduceShiftLeft, Nat.reduceAnd, Nat.reduceOr, Nat.reduceBNe, Int.reduceToNat, Nat.reduceSub, Int.reduceLE, Int.reduceLT] at hv
  simp only [En.at_nil, En.at_cons, En.ag_nil, En.ag_cons, and_true, tlRu, glRAf, tyInt, tyU8, tyBool, tyErr, tyStrs, tyBytes, tyInts, tyLat, tyI2, tyTy, tyTys, tyRule, tyTwo, tyLook, tyTab, tyRFn] at hT hG
  unfold aftV at hq
  cases ht : (tckV ns us k r a0 a1 d != 0) <;> rw [ht] at hq
  · obtain ⟨hc, hgd⟩ := tck_zero ht
    have h0 : tckV ns us k r a0 a1 d = 0 := by simpa using ht
    obtain ⟨l1, l2, l3, l4⟩ := lt_of_chk hB hc
    have hq : q = aft2 us ec er co := hq
    unfold aft2 at hq
    cases c1 : labB us.length ec <;> rw [c1] at hq
    · have hq : q = (0, 7) := hq
      simp (maxSteps := 10000000) only [En.E, En.evsC, List.map_cons, List.map_nil, Nat.reduceBEq, Nat.reduceAdd, Nat.reduceMul, Nat.reduceEqDiff, Nat.reduceLeDiff, Nat.reduceLT, ne_eq, reduceCtorEq, Int.reduceBEq, Int.reduceBNe, Int.reduceAdd, Int.reduceSub, Int.reduceMul, Int.reduceTDiv, Int.reduceTMod, Int.reduceNeg, En.bitN, Nat.testBit, Nat.reduceShiftRight, Nat.reduceShiftLeft, Nat.reduceAnd, Nat.reduceOr, Nat.reduceBNe, Int.reduceToNat, Nat.reduceSub, Int.reduceLE, Int.reduceLT, En.vV, hs, hv, hT, hG, hF, ruS, spTyC_q, latR_q, latN_q, latU_q, hB, h0, ← l2, spRLab_q, c1, hq]
    · cases c2 : labB us.length er <;> rw [c2] at hq
      · have hq : q = (0, 7) := hq
        simp (maxSteps := 10000000) only [En.E, En.evsC, List.map_cons, List.map_nil, Nat.reduceBEq, Nat.reduceAdd, Nat.reduceMul, Nat.reduceEqDiff, Nat.reduceLeDiff, Nat.reduceLT, ne_eq, reduceCtorEq, Int.reduceBEq, Int.reduceBNe, Int.reduceAdd, Int.reduceSub, Int.reduceMul, Int.reduceTDiv, Int.reduceTMod, Int.reduceNeg, En.bitN, Nat.testBit, Nat.reduceShiftRight, Nat.reduceShiftLeft, Nat.reduceAnd, Nat.reduceOr, Nat.reduceBNe, Int.reduceToNat, Nat.reduceSub, Int.reduceLE, Int.reduceLT, En.vV, hs, hv, hT, hG, hF, ruS, spTyC_q, latR_q, latN_q, latU_q, hB, h0, ← l2, spRLab_q, c1, c2, hq]
      · cases c3 : labB us.length co <;> rw [c3] at hq
        · have hq : q = (0, 7) := hq
          simp (maxSteps := 10000000) only [En.E, En.evsC, List.map_cons, List.map_nil, Nat.reduceBEq, Nat.reduceAdd, Nat.reduceMul, Nat.reduceEqDiff, Nat.reduceLeDiff, Nat.reduceLT, ne_eq, reduceCtorEq, Int.reduceBEq, Int.reduceBNe, Int.reduceAdd, Int.reduceSub, Int.reduceMul, Int.reduceTDiv, Int.reduceTMod, Int.reduceNeg, En.bitN, Nat.testBit, Nat.reduceShiftRight, Nat.reduceShiftLeft, Nat.reduceAnd, Nat.reduceOr, Nat.reduceBNe, Int.reduceToNat, Nat.reduceSub, Int.reduceLE, Int.reduceLT, En.vV, hs, hv, hT, hG, hF, ruS, spTyC_q, latR_q, latN_q, latU_q, hB, h0, ← l2, spRLab_q, c1, c2, c3, hq]
        · have hq : q = (jI us (jI us ec er) co, 0) := hq
          rw [jI_assoc l1 (labB_iff.1 c1) (labB_iff.1 c2) (labB_iff.1 c3)] at hq
          have c4 := jI_lab l1 c2 c3
          simp (maxSteps := 10000000) only [En.E, En.evsC, List.map_cons, List.map_nil, Nat.reduceBEq, Nat.reduceAdd, Nat.reduceMul, Nat.reduceEqDiff, Nat.reduceLeDiff, Nat.reduceLT, ne_eq, reduceCtorEq, Int.reduceBEq, Int.reduceBNe, Int.reduceAdd, Int.reduceSub, Int.reduceMul, Int.reduceTDiv, Int.reduceTMod, Int.reduceNeg, En.bitN, Nat.testBit, Nat.reduceShiftRight, Nat.reduceShiftLeft, Nat.reduceAnd, Nat.reduceOr, Nat.reduceBNe, Int.reduceToNat, Nat.reduceSub, Int.reduceLE, Int.reduceLT, En.vV, hs, hv, hT, hG, hF, ruS, spTyC_q, latR_q, latN_q, latU_q, hB, h0, ← l2, spRLab_q, c1, c2, c3, c4, l1, spRJ21_q, hq]
  · have hq : q = (0, tckV ns us k r a0 a1 d) := hq
    have ht' : (tckV ns us k r a0 a1 d == 0) = false := by simpa [bne] using ht
    simp (maxSteps := 10000000) only [En.E, En.evsC, List.map_cons, List.map_nil, Nat.reduceBEq, Nat.reduceAdd, Nat.reduceMul, Nat.reduceEqDiff, Nat.reduceLeDiff, Nat.reduceLT, ne_eq, reduceCtorEq, Int.reduceBEq, Int.reduceBNe, Int.reduceAdd, Int.reduceSub, Int.reduceMul, Int.reduceTDiv, Int.reduceTMod, Int.reduceNeg, En.bitN, Nat.testBit, Nat.reduceShiftRight, Nat.reduceShiftLeft, Nat.reduceAnd, Nat.reduceOr, Nat.reduceBNe, Int.reduceToNat, Nat.reduceSub, Int.reduceLE, Int.reduceLT, En.vV, hs, hv, hT, hG, hF, ht', spRLab_q, Bool.false_eq_true, ruS, spTyC_q, latR_q, latN_q, latU_q, hB, ht, hq]
theorem spRAft_ok : SpecOk Tryz.prog 15 spAft := spAft_of rafter_any
def lrgI (b : Nat) (A B : Option Addr) (c d : Nat) (ns : List ByteArray) (us : List Int) (i : Nat) : SS :=
  ⟨[(1, .p 2000 b 0), (3, .v (.int .i64 i))], chkHp b A B c d ns us, 12000⟩
def lrgV (ns : List ByteArray) (us : List Int) : Bool := bif (List.range (min ns.length 30)).any (fun i => decide (50 < ((ns.getD i ByteArray.empty).size : Int))) then true else bif decide (20 < (ns.length : Int)) then true else decide (20 < (us.length : Int))
theorem lrg_yes {ns : List ByteArray} {us : List Int} {i : Nat} (hi : i < ns.length) (h3 : i < 30) (h : decide (50 < ((ns.getD i ByteArray.empty).size : Int)) = true) : lrgV ns us = true := by
  unfold lrgV
  rw [List.any_eq_true.2 ⟨i, List.mem_range.2 (by omega), h⟩]; rfl
theorem lrg_no {ns : List ByteArray} {us : List Int} (h : ∀ i, i < ns.length → i < 30 → decide (50 < ((ns.getD i ByteArray.empty).size : Int)) = false) : lrgV ns us = bif decide (20 < (ns.length : Int)) then true else decide (20 < (us.length : Int)) := by
  unfold lrgV
  rw [List.any_eq_false.2 fun i hi => by have := List.mem_range.1 hi; rw [h i (by omega) (by omega)]; exact Bool.false_ne_true]; rfl
set_option maxRecDepth 100000 in
set_option maxHeartbeats 4000000 in
theorem large_any (ns : List ByteArray) (us : List Int) (A B : Option Addr) (c d : Nat) (w : World) (hg : allRd w.heap.size w [(1001, .strs A c ns), (1002, .ints B d .u8 us)]) :
    Calls Tryz.prog 13 (dens [.agg [.g 1001 A ns.length c, .g 1002 B us.length d]]).toArray w fun e w' => e = .returned (.bool (lrgV ns us)) ∧ Below w.heap.size w w' := by
  obtain ⟨q, hq⟩ : ∃ q, q = lrgV ns us := ⟨_, rfl⟩
  rw [← hq]
  refine calls_go (args := [.agg [.g 1001 A ns.length c, .g 1002 B us.length d]]) (hp := [(1001, .strs A c ns), (1002, .ints B d .u8 us)]) (nx := 2000) (n := 600) (U := [(1000000, 4)]) (V := []) (tl := tlTp) (gl := gl0) (post := fun s' ys => ys = [.v (.bool q)])
    followP tlTp_ok gl0_ok Tryz.func13 rfl (by kernel_rfl) (Nat.le_of_ble_eq_true (by kernel_rfl)) (by kernel_rfl) (by kernel_rfl) (hh_list hg) (free_list (by simp [allLt])) ?_ ?_
  · rintro s ys w' rfl H
    exact ⟨rfl, H.below⟩
  intro L F T G nd va hE
  obtain ⟨hL, hF, hs, hv, hT, hG, hR, hI, hJ, hW⟩ := hE
  rw [Tryz.results13] at hF
  simp (maxSteps := 1000000) only [En.nN, En.E, En.evsC, List.map_cons, List.map_nil, Nat.reduceBEq, Nat.reduceAdd, Nat.reduceMul, Nat.reduceEqDiff, Nat.reduceLeDiff, Nat.reduceLT, ne_eq, reduceCtorEq, Int.reduceBEq, Int.reduceBNe, Int.reduceAdd, Int.reduceSub, Int.reduceMul, Int.reduceTDiv, Int.reduceTMod, Int.reduceNeg, En.bitN, Nat.testBit, Nat.reduceShiftRight, Nat.reduceShiftLeft, Nat.reduceAnd, Nat.reduceOr, Nat.reduceBNe, Int.reduceToNat, Nat.reduceSub, Int.reduceLE, Int.reduceLT] at hv
  simp only [En.at_nil, En.at_cons, En.ag_nil, En.ag_cons, and_true, tlTp, gl0, tyInt, tyU8, tyBool, tyStr, tyErr, tyStrs, tyBytes, tyInts, tyLat, tyI2, tyTy, tyTOrd, tyWith] at hT hG
  simp (maxSteps := 10000000) only [En.E, En.evsC, List.map_cons, List.map_nil, Nat.reduceBEq, Nat.reduceAdd, Nat.reduceMul, Nat.reduceEqDiff, Nat.reduceLeDiff, Nat.reduceLT, ne_eq, reduceCtorEq, Int.reduceBEq, Int.reduceBNe, Int.reduceAdd, Int.reduceSub, Int.reduceMul, Int.reduceTDiv, Int.reduceTMod, Int.reduceNeg, En.bitN, Nat.testBit, Nat.reduceShiftRight, Nat.reduceShiftLeft, Nat.reduceAnd, Nat.reduceOr, Nat.reduceBNe, Int.reduceToNat, Nat.reduceSub, Int.reduceLE, Int.reduceLT, En.vV, hs, hv, hT, hG, hF, ]
  intro b2
  refine hI {i : Nat // i ≤ ns.length ∧ i ≤ 30 ∧ ∀ j, j < i → decide (50 < ((ns.getD j ByteArray.empty).size : Int)) = false} (fun y => lrgI b2 A B c d ns us y.1) (fun x => ns.length - x.1) _ _ _ ⟨0, Nat.zero_le _, Nat.zero_le _, fun j hj => absurd hj (Nat.not_lt_zero j)⟩ (sle_all [2000, 1001, 1002] (by decide) (by simp only [En.E, En.evsC, List.map_cons, List.map_nil, Nat.reduceBEq, Nat.reduceAdd, Nat.reduceMul, Nat.reduceEqDiff, Nat.reduceLeDiff, Nat.reduceLT, ne_eq, reduceCtorEq, Int.reduceBEq, Int.reduceBNe, Int.reduceAdd, Int.reduceSub, Int.reduceMul, Int.reduceTDiv, Int.reduceTMod, Int.reduceNeg, En.bitN, Nat.testBit, Nat.reduceShiftRight, Nat.reduceShiftLeft, Nat.reduceAnd, Nat.reduceOr, Nat.reduceBNe, Int.reduceToNat, Nat.reduceSub, Int.reduceLE, Int.reduceLT, En.slLe, En.hpLe, En.chE, En.allLt, lrgI, chkHp, Int.cast_ofNat_Int])) ?_
  rintro ⟨i, hi, h30, hp⟩
  refine hR 400 _ _ ?_
  by_cases hlt : i < ns.length
  · have d0 : decide ((i : Int) < (ns.length : Int)) = true := decide_eq_true (by omega)
    by_cases hl3 : i < 30
    · have d3 : decide ((i : Int) < 30) = true := decide_eq_true (by omega)
      have i1 : inr .i64 ((i : Int) + 1) := by simp only [En.inr, En.lo, En.hi]; omega
      cases d1 : decide (50 < ((ns.getD i ByteArray.empty).size : Int)) with
      | true =>
        have hq' : q = true := hq.trans (lrg_yes hlt hl3 d1)
        simp (maxSteps := 10000000) only [En.E, En.evsC, List.map_cons, List.map_nil, Nat.reduceBEq, Nat.reduceAdd, Nat.reduceMul, Nat.reduceEqDiff, Nat.reduceLeDiff, Nat.reduceLT, ne_eq, reduceCtorEq, Int.reduceBEq, Int.reduceBNe, Int.reduceAdd, Int.reduceSub, Int.reduceMul, Int.reduceTDiv, Int.reduceTMod, Int.reduceNeg, En.bitN, Nat.testBit, Nat.reduceShiftRight, Nat.reduceShiftLeft, Nat.reduceAnd, Nat.reduceOr, Nat.reduceBNe, Int.reduceToNat, Nat.reduceSub, Int.reduceLE, Int.reduceLT, En.vV, hs, hv, hT, hG, hF, lrgI, chkHp, d0, d3, Int.toNat_natCast, d1, hq']
        exact ⟨by omega, by omega, by omega⟩
      | false =>
        simp (maxSteps := 10000000) only [En.E, En.evsC, List.map_cons, List.map_nil, Nat.reduceBEq, Nat.reduceAdd, Nat.reduceMul, Nat.reduceEqDiff, Nat.reduceLeDiff, Nat.reduceLT, ne_eq, reduceCtorEq, Int.reduceBEq, Int.reduceBNe, Int.reduceAdd, Int.reduceSub, Int.reduceMul, Int.reduceTDiv, Int.reduceTMod, Int.reduceNeg, En.bitN, Nat.testBit, Nat.reduceShiftRight, Nat.reduceShiftLeft, Nat.reduceAnd, Nat.reduceOr, Nat.reduceBNe, Int.reduceToNat, Nat.reduceSub, Int.reduceLE, Int.reduceLT, En.vV, hs, hv, hT, hG, hF, lrgI, chkHp, d0, d3, Int.toNat_natCast, d1, i1]
        refine ⟨⟨by omega, by omega⟩, ⟨by omega, by omega⟩, ⟨i + 1, by omega, by omega, fun j hj => ?_⟩, (sle_all [2000, 1001, 1002] (by decide) (by simp only [En.E, En.evsC, List.map_cons, List.map_nil, Nat.reduceBEq, Nat.reduceAdd, Nat.reduceMul, Nat.reduceEqDiff, Nat.reduceLeDiff, Nat.reduceLT, ne_eq, reduceCtorEq, Int.reduceBEq, Int.reduceBNe, Int.reduceAdd, Int.reduceSub, Int.reduceMul, Int.reduceTDiv, Int.reduceTMod, Int.reduceNeg, En.bitN, Nat.testBit, Nat.reduceShiftRight, Nat.reduceShiftLeft, Nat.reduceAnd, Nat.reduceOr, Nat.reduceBNe, Int.reduceToNat, Nat.reduceSub, Int.reduceLE, Int.reduceLT, En.slLe, En.hpLe, En.chE, En.allLt, lrgI, chkHp, Int.natCast_add, Int.cast_ofNat_Int])), by simp only; omega⟩
        by_cases e : j = i
        · rw [e]; exact d1
        · exact hp j (by omega)
    · have d3 : decide ((i : Int) < 30) = false := decide_eq_false (by omega)
      have hq' := hq.trans (lrg_no fun j hj hj3 => hp j (by omega))
      cases d2 : decide (20 < (ns.length : Int)) <;> rw [d2] at hq'
      · simp (maxSteps := 10000000) only [En.E, En.evsC, List.map_cons, List.map_nil, Nat.reduceBEq, Nat.reduceAdd, Nat.reduceMul, Nat.reduceEqDiff, Nat.reduceLeDiff, Nat.reduceLT, ne_eq, reduceCtorEq, Int.reduceBEq, Int.reduceBNe, Int.reduceAdd, Int.reduceSub, Int.reduceMul, Int.reduceTDiv, Int.reduceTMod, Int.reduceNeg, En.bitN, Nat.testBit, Nat.reduceShiftRight, Nat.reduceShiftLeft, Nat.reduceAnd, Nat.reduceOr, Nat.reduceBNe, Int.reduceToNat, Nat.reduceSub, Int.reduceLE, Int.reduceLT, En.vV, hs, hv, hT, hG, hF, lrgI, chkHp, d0, d3, Int.toNat_natCast, d2, hq', cond_false]
      · simp (maxSteps := 10000000) only [En.E, En.evsC, List.map_cons, List.map_nil, Nat.reduceBEq, Nat.reduceAdd, Nat.reduceMul, Nat.reduceEqDiff, Nat.reduceLeDiff, Nat.reduceLT, ne_eq, reduceCtorEq, Int.reduceBEq, Int.reduceBNe, Int.reduceAdd, Int.reduceSub, Int.reduceMul, Int.reduceTDiv, Int.reduceTMod, Int.reduceNeg, En.bitN, Nat.testBit, Nat.reduceShiftRight, Nat.reduceShiftLeft, Nat.reduceAnd, Nat.reduceOr, Nat.reduceBNe, Int.reduceToNat, Nat.reduceSub, Int.reduceLE, Int.reduceLT, En.vV, hs, hv, hT, hG, hF, lrgI, chkHp, d0, d3, Int.toNat_natCast, d2, hq', cond_true]
  · have d0 : decide ((i : Int) < (ns.length : Int)) = false := decide_eq_false (by omega)
    have hq' := hq.trans (lrg_no fun j hj hj3 => hp j (by omega))
    cases d2 : decide (20 < (ns.length : Int)) <;> rw [d2] at hq'
    · simp (maxSteps := 10000000) only [En.E, En.evsC, List.map_cons, List.map_nil, Nat.reduceBEq, Nat.reduceAdd, Nat.reduceMul, Nat.reduceEqDiff, Nat.reduceLeDiff, Nat.reduceLT, ne_eq, reduceCtorEq, Int.reduceBEq, Int.reduceBNe, Int.reduceAdd, Int.reduceSub, Int.reduceMul, Int.reduceTDiv, Int.reduceTMod, Int.reduceNeg, En.bitN, Nat.testBit, Nat.reduceShiftRight, Nat.reduceShiftLeft, Nat.reduceAnd, Nat.reduceOr, Nat.reduceBNe, Int.reduceToNat, Nat.reduceSub, Int.reduceLE, Int.reduceLT, En.vV, hs, hv, hT, hG, hF, lrgI, chkHp, d0, Int.toNat_natCast, d2, hq', cond_false]
    · simp (maxSteps := 10000000) only [En.E, En.evsC, List.map_cons, List.map_nil, Nat.reduceBEq, Nat.reduceAdd, Nat.reduceMul, Nat.reduceEqDiff, Nat.reduceLeDiff, Nat.reduceLT, ne_eq, reduceCtorEq, Int.reduceBEq, Int.reduceBNe, Int.reduceAdd, Int.reduceSub, Int.reduceMul, Int.reduceTDiv, Int.reduceTMod, Int.reduceNeg, En.bitN, Nat.testBit, Nat.reduceShiftRight, Nat.reduceShiftLeft, Nat.reduceAnd, Nat.reduceOr, Nat.reduceBNe, Int.reduceToNat, Nat.reduceSub, Int.reduceLE, Int.reduceLT, En.vV, hs, hv, hT, hG, hF, lrgI, chkHp, d0, Int.toNat_natCast, d2, hq', cond_true]
def spLrg : Spc
  | [.agg [.g k A n c, .g j B m d]], H, _ => .is (latR A n c B m d (H k) (H j) ∧ True) (.v (.bool (lrgV (latN (H k)) (latU (H j)))))
  | _, _, _ => .bad
theorem spLrg_q {k n c j m d : Nat} {A B : Option Addr}  {H : Nat → Ch} {nx : Nat} : spLrg [.agg [.g k A n c, .g j B m d]] H nx = .is (latR A n c B m d (H k) (H j) ∧ True) (.v (.bool (lrgV (latN (H k)) (latU (H j))))) := (rfl)
theorem spLrg_ok : SpecOk Tryz.prog 13 spLrg := by
  intro args hp nx w0 O w H hv
  unfold spLrg at hv ⊢
  split at hv
  · next k A n c j B m d  =>
    obtain ⟨hl, hx⟩ := hv
    obtain ⟨x1, x2, x3, x4, x5⟩ := latR_of hl
    have h1 := H.hold k
    have h2 := H.hold j
    rw [x1] at h1
    rw [x2] at h2
    have := large_any (latN (lookH hp k)) (latU (lookH hp j)) A B c d w ⟨⟨h1, rfl⟩, ⟨h2, rfl⟩, trivial⟩
    rw [← x3, ← x4] at this
    refine this.mono ?_
    rintro e w' ⟨rfl, hb⟩
    exact ⟨⟨0, none, 0, none, 0, mz⟩, rfl, .still hb⟩
  · exact hv.elim
end Pr
end Go.Proofs.YtnpkmimbnjnicaaGreatDoor
/-
The walk of RulesBehind (chapter 21).
-/
set_option linter.unusedSimpArgs false
set_option linter.unusedVariables false
namespace Go.Proofs.YtnpkmimbnjnicaaGreatDoor
namespace Pr
open Go Go.RowKit En
open Lt
def lwHp (bn on cn ba oa ca : Nat) (A B : Option Addr) (c e : Nat) (ns : List ByteArray) (us : List Int) : Hp := (1001, .strs A c ns) :: (1002, .ints B e .u8 us) :: gHp bn on cn ba oa ca
def glBw : List (FuncId × Spc) := [(13, spLrg), (12, spTrue), (14, spAft), (15, spAft)]
theorem glBw_ok : GOk Tryz.prog (lookG glBw) := lG_cons (by kernel_rfl) spLrg_ok <| lG_cons (by kernel_rfl) spShown21_ok <| lG_cons (by kernel_rfl) spAft_ok <| lG_cons (by kernel_rfl) spRAft_ok lG_nil
set_option maxRecDepth 100000 in
set_option maxHeartbeats 8000000 in
theorem behind_walk (ns : List ByteArray) (us : List Int) (A B : Option Addr) (c e : Nat) (ec k r a0 a1 d er co : Int) (hB : Bytes us) (bn on cn ba oa ca : Nat) (h4 : 4 ≤ cn) (h3 : 3 ≤ ca) (w : World) (hg : allRd w.heap.size w (lwHp bn on cn ba oa ca A B c e ns us)) :
    Calls Tryz.prog 5 (dens [.agg [.g 1001 A ns.length c, .g 1002 B us.length e], .v (.int .i64 ec), .agg (ruS k r a0 a1 d er co)]).toArray w fun e' w' => e' = .returned (.bool true) ∧ Below w.heap.size w w' := by
  refine calls_go (args := [.agg [.g 1001 A ns.length c, .g 1002 B us.length e], .v (.int .i64 ec), .agg (ruS k r a0 a1 d er co)]) (hp := lwHp bn on cn ba oa ca A B c e ns us) (nx := 2000) (n := 900) (U := [(1000000, 11)]) (V := []) (tl := tlSw) (gl := glBw) (post := fun s' ys => ys = [.v (.bool true)])
    followP tlSw_ok glBw_ok Tryz.func5 rfl (by kernel_rfl) (Nat.le_of_ble_eq_true (by kernel_rfl)) (by kernel_rfl) (by kernel_rfl) (hh_list hg) (free_list (by simp [allLt, lwHp, gHp])) ?_ ?_
  · rintro s ys w' rfl H
    exact ⟨rfl, H.below⟩
  intro L F T G nd va hE
  obtain ⟨hL, hF, hs, hv, hT, hG, hR, hI, hJ, hW⟩ := hE
  rw [Tryz.results5] at hF
  simp (maxSteps := 1000000) only [En.nN, En.E, En.evsC, List.map_cons, List.map_nil, Nat.reduceBEq, Nat.reduceAdd, Nat.reduceMul, Nat.reduceEqDiff, Nat.reduceLeDiff, Nat.reduceLT, ne_eq, reduceCtorEq, Int.reduceBEq, Int.reduceBNe, Int.reduceAdd, Int.reduceSub, Int.reduceMul, Int.reduceTDiv, Int.reduceTMod, Int.reduceNeg, En.bitN, Nat.testBit, Nat.reduceShiftRight, Nat.reduceShiftLeft, Nat.reduceAnd, Nat.reduceOr, Nat.reduceBNe, Int.reduceToNat, Nat.reduceSub, Int.reduceLE, Int.reduceLT] at hv
  simp only [En.at_nil, En.at_cons, En.ag_nil, En.ag_cons, and_true, tlSw, glBw, tyInt, tyU8, tyBool, tyStr, tyErr, tyStrs, tyBytes, tyInts, tyLat, tyI2, tyTy, tyTys, tyRule] at hT hG
  cases hl : lrgV ns us
  · simp (maxSteps := 10000000) only [En.E, En.evsC, List.map_cons, List.map_nil, Nat.reduceBEq, Nat.reduceAdd, Nat.reduceMul, Nat.reduceEqDiff, Nat.reduceLeDiff, Nat.reduceLT, ne_eq, reduceCtorEq, Int.reduceBEq, Int.reduceBNe, Int.reduceAdd, Int.reduceSub, Int.reduceMul, Int.reduceTDiv, Int.reduceTMod, Int.reduceNeg, En.bitN, Nat.testBit, Nat.reduceShiftRight, Nat.reduceShiftLeft, Nat.reduceAnd, Nat.reduceOr, Nat.reduceBNe, Int.reduceToNat, Nat.reduceSub, Int.reduceLE, Int.reduceLT, En.vV, hs, hv, hT, hG, hF, lwHp, gHp, h4, h3, globR_q, latR_q, latN_q, latU_q, hB, spLrg_q, hl, spTrue_q, ruS, spAft_q]
  · simp (maxSteps := 10000000) only [En.E, En.evsC, List.map_cons, List.map_nil, Nat.reduceBEq, Nat.reduceAdd, Nat.reduceMul, Nat.reduceEqDiff, Nat.reduceLeDiff, Nat.reduceLT, ne_eq, reduceCtorEq, Int.reduceBEq, Int.reduceBNe, Int.reduceAdd, Int.reduceSub, Int.reduceMul, Int.reduceTDiv, Int.reduceTMod, Int.reduceNeg, En.bitN, Nat.testBit, Nat.reduceShiftRight, Nat.reduceShiftLeft, Nat.reduceAnd, Nat.reduceOr, Nat.reduceBNe, Int.reduceToNat, Nat.reduceSub, Int.reduceLE, Int.reduceLT, En.vV, hs, hv, hT, hG, hF, lwHp, gHp, h4, h3, globR_q, latR_q, latN_q, latU_q, hB, spLrg_q, hl, spTrue_q, ruS, spAft_q]
end Pr
end Go.Proofs.YtnpkmimbnjnicaaGreatDoor
