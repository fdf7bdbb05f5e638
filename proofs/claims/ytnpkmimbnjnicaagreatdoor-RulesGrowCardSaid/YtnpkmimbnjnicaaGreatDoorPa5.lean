/-
prims.match (chapter 12), line by line (printed by genPrC.py).
-/
import Derived.Test.YtnpkmimbnjnicaaGreatDoorPa1
set_option linter.unusedSimpArgs false
set_option linter.unusedVariables false
namespace Go.Proofs.YtnpkmimbnjnicaaGreatDoor
namespace Pr
open Go Go.RowKit En
theorem rng_lit {nx : Nat} {s : ByteArray} {l : List (Nat × Int)} (h1 : itL s s.size 0 = l) (h2 : itOk s 0 l) : rngR nx (.v (.string s)) = .new True fun b => (.p nx b 0, [(nx, .iter b s l)]) := by
  have : ∀ {p : Prop} {f : Nat → SV × Hp}, p → Res.new p f = Res.new True f := fun hp => by rw [eq_true hp]
  show Res.new (itOk s 0 (itL s s.size 0)) _ = _
  rw [h1]
  exact this h2
def MatchRet (w : World) (s : ByteArray) (ks rs : List Int) (e : Ending) (w' : World) : Prop :=
  e = .returned (.tuple #[.int .i64 (matchM s ks rs).kind, .int .i64 (matchM s ks rs).rank, .bool (matchM s ks rs).fst, .bool (matchM s ks rs).snd]) ∧ Below w.heap.size w w'
theorem it1 {nx : Nat} : rngR nx (.v (.string ⟨#[105, 110, 105, 110]⟩)) = .new True fun b => (.p nx b 0, [(nx, .iter b ⟨#[105, 110, 105, 110]⟩ [(0, 105), (1, 110), (2, 105), (3, 110)])]) :=
  rng_lit (by kernel_rfl) ⟨rfl, by decide, rfl, ⟨rfl, by decide, rfl, ⟨rfl, by decide, rfl, ⟨rfl, by decide, rfl, Nat.le_refl _⟩⟩⟩⟩
set_option maxRecDepth 100000 in
set_option maxHeartbeats 8000000 in
theorem match1 (k0 r0 : Int) (A B : Option Addr) (c d : Nat) (w : World) (ha : Hold w.heap.size w (.ints A c .i64 [k0])) (hb : Hold w.heap.size w (.ints B d .i64 [r0])) :
    Calls Tryz.prog 63 #[.string ⟨#[105, 110, 105, 110]⟩, .slice A 1 c, .slice B 1 d] w (MatchRet w ⟨#[105, 110, 105, 110]⟩ [k0] [r0]) := by
  refine calls_run (args := [.v (.string ⟨#[105, 110, 105, 110]⟩), .g 1000 A 1 c, .g 1001 B 1 d]) (hp := [(1000, .ints A c .i64 [k0]), (1001, .ints B d .i64 [r0])]) (nx := 1002) (n := 2000) (U := [(4, 7), (1000000, 18)]) (V := []) (T := lookT tiM) (G := gnil)
    (post := fun s xs => xs = [.v (.int .i64 (matchM ⟨#[105, 110, 105, 110]⟩ [k0] [r0]).kind), .v (.int .i64 (matchM ⟨#[105, 110, 105, 110]⟩ [k0] [r0]).rank), .v (.bool (matchM ⟨#[105, 110, 105, 110]⟩ [k0] [r0]).fst), .v (.bool (matchM ⟨#[105, 110, 105, 110]⟩ [k0] [r0]).snd)])
    followP tiM_ok gOk_nil Tryz.func63 rfl (by kernel_rfl) (by show 3 ≤ 135; decide) (hh_args [.ints A c .i64 [k0], .ints B d .i64 [r0]] 1000 (by simp [ha, hb]) (by simp [mutb])) (fun k hk => keyed_free (l := [.ints A c .i64 [k0], .ints B d .i64 [r0]]) hk) ?_ ?_
  · rintro s xs w' rfl H
    exact ⟨rfl, H.below⟩
  rw [Tryz.results63]
  simp (maxSteps := 10000000) only [En.E, En.evsC, List.map_cons, List.map_nil, Nat.reduceBEq, Nat.reduceAdd, Nat.reduceMul, Nat.reduceEqDiff, Nat.reduceLeDiff, Nat.reduceLT, ne_eq, reduceCtorEq, Int.reduceBEq, Int.reduceBNe, Int.reduceAdd, Int.reduceSub, Int.reduceMul, Int.reduceTDiv, Int.reduceTMod, Int.reduceNeg, En.bitN, Nat.testBit, Nat.reduceShiftRight, Nat.reduceShiftLeft, Nat.reduceAnd, Nat.reduceOr, Nat.reduceBNe, Int.reduceToNat, Nat.reduceSub, Int.reduceLE, Int.reduceLT, tiM, it1]
  simp only [inr, lo, hi]
  repeat' refine And.intro ?_ ?_
  all_goals first | (simp; done) | (intro _; simp; done) | rfl | (intro h; refine ⟨h, ?_⟩; simp_all; done) | (intro h; simp_all; done) | (intro h; simp_all; omega)
theorem it2 {nx : Nat} : rngR nx (.v (.string ⟨#[107, 110, 105, 49]⟩)) = .new True fun b => (.p nx b 0, [(nx, .iter b ⟨#[107, 110, 105, 49]⟩ [(0, 107), (1, 110), (2, 105), (3, 49)])]) :=
  rng_lit (by kernel_rfl) ⟨rfl, by decide, rfl, ⟨rfl, by decide, rfl, ⟨rfl, by decide, rfl, ⟨rfl, by decide, rfl, Nat.le_refl _⟩⟩⟩⟩
set_option maxRecDepth 100000 in
set_option maxHeartbeats 8000000 in
theorem match2 (k0 r0 : Int) (A B : Option Addr) (c d : Nat) (w : World) (ha : Hold w.heap.size w (.ints A c .i64 [k0])) (hb : Hold w.heap.size w (.ints B d .i64 [r0])) :
    Calls Tryz.prog 63 #[.string ⟨#[107, 110, 105, 49]⟩, .slice A 1 c, .slice B 1 d] w (MatchRet w ⟨#[107, 110, 105, 49]⟩ [k0] [r0]) := by
  refine calls_run (args := [.v (.string ⟨#[107, 110, 105, 49]⟩), .g 1000 A 1 c, .g 1001 B 1 d]) (hp := [(1000, .ints A c .i64 [k0]), (1001, .ints B d .i64 [r0])]) (nx := 1002) (n := 2000) (U := [(4, 7), (1000000, 18)]) (V := []) (T := lookT tiM) (G := gnil)
    (post := fun s xs => xs = [.v (.int .i64 (matchM ⟨#[107, 110, 105, 49]⟩ [k0] [r0]).kind), .v (.int .i64 (matchM ⟨#[107, 110, 105, 49]⟩ [k0] [r0]).rank), .v (.bool (matchM ⟨#[107, 110, 105, 49]⟩ [k0] [r0]).fst), .v (.bool (matchM ⟨#[107, 110, 105, 49]⟩ [k0] [r0]).snd)])
    followP tiM_ok gOk_nil Tryz.func63 rfl (by kernel_rfl) (by show 3 ≤ 135; decide) (hh_args [.ints A c .i64 [k0], .ints B d .i64 [r0]] 1000 (by simp [ha, hb]) (by simp [mutb])) (fun k hk => keyed_free (l := [.ints A c .i64 [k0], .ints B d .i64 [r0]]) hk) ?_ ?_
  · rintro s xs w' rfl H
    exact ⟨rfl, H.below⟩
  rw [Tryz.results63]
  simp (maxSteps := 10000000) only [En.E, En.evsC, List.map_cons, List.map_nil, Nat.reduceBEq, Nat.reduceAdd, Nat.reduceMul, Nat.reduceEqDiff, Nat.reduceLeDiff, Nat.reduceLT, ne_eq, reduceCtorEq, Int.reduceBEq, Int.reduceBNe, Int.reduceAdd, Int.reduceSub, Int.reduceMul, Int.reduceTDiv, Int.reduceTMod, Int.reduceNeg, En.bitN, Nat.testBit, Nat.reduceShiftRight, Nat.reduceShiftLeft, Nat.reduceAnd, Nat.reduceOr, Nat.reduceBNe, Int.reduceToNat, Nat.reduceSub, Int.reduceLE, Int.reduceLT, tiM, it2]
  simp only [inr, lo, hi]
  repeat' refine And.intro ?_ ?_
  all_goals first | (simp; done) | (intro _; simp; done) | rfl | (intro h; refine ⟨h, ?_⟩; simp_all; done) | (intro h; simp_all; done) | (intro h; simp_all; omega)
theorem it3 {nx : Nat} : rngR nx (.v (.string ⟨#[107, 110, 107, 49]⟩)) = .new True fun b => (.p nx b 0, [(nx, .iter b ⟨#[107, 110, 107, 49]⟩ [(0, 107), (1, 110), (2, 107), (3, 49)])]) :=
  rng_lit (by kernel_rfl) ⟨rfl, by decide, rfl, ⟨rfl, by decide, rfl, ⟨rfl, by decide, rfl, ⟨rfl, by decide, rfl, Nat.le_refl _⟩⟩⟩⟩
set_option maxRecDepth 100000 in
set_option maxHeartbeats 8000000 in
theorem match3 (k0 r0 : Int) (A B : Option Addr) (c d : Nat) (w : World) (ha : Hold w.heap.size w (.ints A c .i64 [k0])) (hb : Hold w.heap.size w (.ints B d .i64 [r0])) :
    Calls Tryz.prog 63 #[.string ⟨#[107, 110, 107, 49]⟩, .slice A 1 c, .slice B 1 d] w (MatchRet w ⟨#[107, 110, 107, 49]⟩ [k0] [r0]) := by
  refine calls_run (args := [.v (.string ⟨#[107, 110, 107, 49]⟩), .g 1000 A 1 c, .g 1001 B 1 d]) (hp := [(1000, .ints A c .i64 [k0]), (1001, .ints B d .i64 [r0])]) (nx := 1002) (n := 2000) (U := [(4, 7), (1000000, 18)]) (V := []) (T := lookT tiM) (G := gnil)
    (post := fun s xs => xs = [.v (.int .i64 (matchM ⟨#[107, 110, 107, 49]⟩ [k0] [r0]).kind), .v (.int .i64 (matchM ⟨#[107, 110, 107, 49]⟩ [k0] [r0]).rank), .v (.bool (matchM ⟨#[107, 110, 107, 49]⟩ [k0] [r0]).fst), .v (.bool (matchM ⟨#[107, 110, 107, 49]⟩ [k0] [r0]).snd)])
    followP tiM_ok gOk_nil Tryz.func63 rfl (by kernel_rfl) (by show 3 ≤ 135; decide) (hh_args [.ints A c .i64 [k0], .ints B d .i64 [r0]] 1000 (by simp [ha, hb]) (by simp [mutb])) (fun k hk => keyed_free (l := [.ints A c .i64 [k0], .ints B d .i64 [r0]]) hk) ?_ ?_
  · rintro s xs w' rfl H
    exact ⟨rfl, H.below⟩
  rw [Tryz.results63]
  simp (maxSteps := 10000000) only [En.E, En.evsC, List.map_cons, List.map_nil, Nat.reduceBEq, Nat.reduceAdd, Nat.reduceMul, Nat.reduceEqDiff, Nat.reduceLeDiff, Nat.reduceLT, ne_eq, reduceCtorEq, Int.reduceBEq, Int.reduceBNe, Int.reduceAdd, Int.reduceSub, Int.reduceMul, Int.reduceTDiv, Int.reduceTMod, Int.reduceNeg, En.bitN, Nat.testBit, Nat.reduceShiftRight, Nat.reduceShiftLeft, Nat.reduceAnd, Nat.reduceOr, Nat.reduceBNe, Int.reduceToNat, Nat.reduceSub, Int.reduceLE, Int.reduceLT, tiM, it3]
  simp only [inr, lo, hi]
  repeat' refine And.intro ?_ ?_
  all_goals first | (simp; done) | (intro _; simp; done) | rfl | (intro h; refine ⟨h, ?_⟩; simp_all; done) | (intro h; simp_all; done) | (intro h; simp_all; omega)
theorem it4 {nx : Nat} : rngR nx (.v (.string ⟨#[107, 49, 107, 49]⟩)) = .new True fun b => (.p nx b 0, [(nx, .iter b ⟨#[107, 49, 107, 49]⟩ [(0, 107), (1, 49), (2, 107), (3, 49)])]) :=
  rng_lit (by kernel_rfl) ⟨rfl, by decide, rfl, ⟨rfl, by decide, rfl, ⟨rfl, by decide, rfl, ⟨rfl, by decide, rfl, Nat.le_refl _⟩⟩⟩⟩
set_option maxRecDepth 100000 in
set_option maxHeartbeats 8000000 in
theorem match4 (k0 r0 : Int) (A B : Option Addr) (c d : Nat) (w : World) (ha : Hold w.heap.size w (.ints A c .i64 [k0])) (hb : Hold w.heap.size w (.ints B d .i64 [r0])) :
    Calls Tryz.prog 63 #[.string ⟨#[107, 49, 107, 49]⟩, .slice A 1 c, .slice B 1 d] w (MatchRet w ⟨#[107, 49, 107, 49]⟩ [k0] [r0]) := by
  refine calls_run (args := [.v (.string ⟨#[107, 49, 107, 49]⟩), .g 1000 A 1 c, .g 1001 B 1 d]) (hp := [(1000, .ints A c .i64 [k0]), (1001, .ints B d .i64 [r0])]) (nx := 1002) (n := 2000) (U := [(4, 7), (1000000, 18)]) (V := []) (T := lookT tiM) (G := gnil)
    (post := fun s xs => xs = [.v (.int .i64 (matchM ⟨#[107, 49, 107, 49]⟩ [k0] [r0]).kind), .v (.int .i64 (matchM ⟨#[107, 49, 107, 49]⟩ [k0] [r0]).rank), .v (.bool (matchM ⟨#[107, 49, 107, 49]⟩ [k0] [r0]).fst), .v (.bool (matchM ⟨#[107, 49, 107, 49]⟩ [k0] [r0]).snd)])
    followP tiM_ok gOk_nil Tryz.func63 rfl (by kernel_rfl) (by show 3 ≤ 135; decide) (hh_args [.ints A c .i64 [k0], .ints B d .i64 [r0]] 1000 (by simp [ha, hb]) (by simp [mutb])) (fun k hk => keyed_free (l := [.ints A c .i64 [k0], .ints B d .i64 [r0]]) hk) ?_ ?_
  · rintro s xs w' rfl H
    exact ⟨rfl, H.below⟩
  rw [Tryz.results63]
  simp (maxSteps := 10000000) only [En.E, En.evsC, List.map_cons, List.map_nil, Nat.reduceBEq, Nat.reduceAdd, Nat.reduceMul, Nat.reduceEqDiff, Nat.reduceLeDiff, Nat.reduceLT, ne_eq, reduceCtorEq, Int.reduceBEq, Int.reduceBNe, Int.reduceAdd, Int.reduceSub, Int.reduceMul, Int.reduceTDiv, Int.reduceTMod, Int.reduceNeg, En.bitN, Nat.testBit, Nat.reduceShiftRight, Nat.reduceShiftLeft, Nat.reduceAnd, Nat.reduceOr, Nat.reduceBNe, Int.reduceToNat, Nat.reduceSub, Int.reduceLE, Int.reduceLT, tiM, it4]
  simp only [inr, lo, hi]
  repeat' refine And.intro ?_ ?_
  all_goals first | (simp; done) | (intro _; simp; done) | rfl | (intro h; refine ⟨h, ?_⟩; simp_all; done) | (intro h; simp_all; done) | (intro h; simp_all; omega)
theorem it5 {nx : Nat} : rngR nx (.v (.string ⟨#[107, 50, 107, 50]⟩)) = .new True fun b => (.p nx b 0, [(nx, .iter b ⟨#[107, 50, 107, 50]⟩ [(0, 107), (1, 50), (2, 107), (3, 50)])]) :=
  rng_lit (by kernel_rfl) ⟨rfl, by decide, rfl, ⟨rfl, by decide, rfl, ⟨rfl, by decide, rfl, ⟨rfl, by decide, rfl, Nat.le_refl _⟩⟩⟩⟩
set_option maxRecDepth 100000 in
set_option maxHeartbeats 8000000 in
theorem match5 (k0 r0 : Int) (A B : Option Addr) (c d : Nat) (w : World) (ha : Hold w.heap.size w (.ints A c .i64 [k0])) (hb : Hold w.heap.size w (.ints B d .i64 [r0])) :
    Calls Tryz.prog 63 #[.string ⟨#[107, 50, 107, 50]⟩, .slice A 1 c, .slice B 1 d] w (MatchRet w ⟨#[107, 50, 107, 50]⟩ [k0] [r0]) := by
  refine calls_run (args := [.v (.string ⟨#[107, 50, 107, 50]⟩), .g 1000 A 1 c, .g 1001 B 1 d]) (hp := [(1000, .ints A c .i64 [k0]), (1001, .ints B d .i64 [r0])]) (nx := 1002) (n := 2000) (U := [(4, 7), (1000000, 18)]) (V := []) (T := lookT tiM) (G := gnil)
    (post := fun s xs => xs = [.v (.int .i64 (matchM ⟨#[107, 50, 107, 50]⟩ [k0] [r0]).kind), .v (.int .i64 (matchM ⟨#[107, 50, 107, 50]⟩ [k0] [r0]).rank), .v (.bool (matchM ⟨#[107, 50, 107, 50]⟩ [k0] [r0]).fst), .v (.bool (matchM ⟨#[107, 50, 107, 50]⟩ [k0] [r0]).snd)])
    followP tiM_ok gOk_nil Tryz.func63 rfl (by kernel_rfl) (by show 3 ≤ 135; decide) (hh_args [.ints A c .i64 [k0], .ints B d .i64 [r0]] 1000 (by simp [ha, hb]) (by simp [mutb])) (fun k hk => keyed_free (l := [.ints A c .i64 [k0], .ints B d .i64 [r0]]) hk) ?_ ?_
  · rintro s xs w' rfl H
    exact ⟨rfl, H.below⟩
  rw [Tryz.results63]
  simp (maxSteps := 10000000) only [En.E, En.evsC, List.map_cons, List.map_nil, Nat.reduceBEq, Nat.reduceAdd, Nat.reduceMul, Nat.reduceEqDiff, Nat.reduceLeDiff, Nat.reduceLT, ne_eq, reduceCtorEq, Int.reduceBEq, Int.reduceBNe, Int.reduceAdd, Int.reduceSub, Int.reduceMul, Int.reduceTDiv, Int.reduceTMod, Int.reduceNeg, En.bitN, Nat.testBit, Nat.reduceShiftRight, Nat.reduceShiftLeft, Nat.reduceAnd, Nat.reduceOr, Nat.reduceBNe, Int.reduceToNat, Nat.reduceSub, Int.reduceLE, Int.reduceLT, tiM, it5]
  simp only [inr, lo, hi]
  repeat' refine And.intro ?_ ?_
  all_goals first | (simp; done) | (intro _; simp; done) | rfl | (intro h; refine ⟨h, ?_⟩; simp_all; done) | (intro h; simp_all; done) | (intro h; simp_all; omega)
theorem it6 {nx : Nat} : rngR nx (.v (.string ⟨#[105, 48, 105, 49]⟩)) = .new True fun b => (.p nx b 0, [(nx, .iter b ⟨#[105, 48, 105, 49]⟩ [(0, 105), (1, 48), (2, 105), (3, 49)])]) :=
  rng_lit (by kernel_rfl) ⟨rfl, by decide, rfl, ⟨rfl, by decide, rfl, ⟨rfl, by decide, rfl, ⟨rfl, by decide, rfl, Nat.le_refl _⟩⟩⟩⟩
set_option maxRecDepth 100000 in
set_option maxHeartbeats 8000000 in
theorem match6 (k0 r0 : Int) (A B : Option Addr) (c d : Nat) (w : World) (ha : Hold w.heap.size w (.ints A c .i64 [k0])) (hb : Hold w.heap.size w (.ints B d .i64 [r0])) :
    Calls Tryz.prog 63 #[.string ⟨#[105, 48, 105, 49]⟩, .slice A 1 c, .slice B 1 d] w (MatchRet w ⟨#[105, 48, 105, 49]⟩ [k0] [r0]) := by
  refine calls_run (args := [.v (.string ⟨#[105, 48, 105, 49]⟩), .g 1000 A 1 c, .g 1001 B 1 d]) (hp := [(1000, .ints A c .i64 [k0]), (1001, .ints B d .i64 [r0])]) (nx := 1002) (n := 2000) (U := [(4, 7), (1000000, 18)]) (V := []) (T := lookT tiM) (G := gnil)
    (post := fun s xs => xs = [.v (.int .i64 (matchM ⟨#[105, 48, 105, 49]⟩ [k0] [r0]).kind), .v (.int .i64 (matchM ⟨#[105, 48, 105, 49]⟩ [k0] [r0]).rank), .v (.bool (matchM ⟨#[105, 48, 105, 49]⟩ [k0] [r0]).fst), .v (.bool (matchM ⟨#[105, 48, 105, 49]⟩ [k0] [r0]).snd)])
    followP tiM_ok gOk_nil Tryz.func63 rfl (by kernel_rfl) (by show 3 ≤ 135; decide) (hh_args [.ints A c .i64 [k0], .ints B d .i64 [r0]] 1000 (by simp [ha, hb]) (by simp [mutb])) (fun k hk => keyed_free (l := [.ints A c .i64 [k0], .ints B d .i64 [r0]]) hk) ?_ ?_
  · rintro s xs w' rfl H
    exact ⟨rfl, H.below⟩
  rw [Tryz.results63]
  simp (maxSteps := 10000000) only [En.E, En.evsC, List.map_cons, List.map_nil, Nat.reduceBEq, Nat.reduceAdd, Nat.reduceMul, Nat.reduceEqDiff, Nat.reduceLeDiff, Nat.reduceLT, ne_eq, reduceCtorEq, Int.reduceBEq, Int.reduceBNe, Int.reduceAdd, Int.reduceSub, Int.reduceMul, Int.reduceTDiv, Int.reduceTMod, Int.reduceNeg, En.bitN, Nat.testBit, Nat.reduceShiftRight, Nat.reduceShiftLeft, Nat.reduceAnd, Nat.reduceOr, Nat.reduceBNe, Int.reduceToNat, Nat.reduceSub, Int.reduceLE, Int.reduceLT, tiM, it6]
  simp only [inr, lo, hi]
  repeat' refine And.intro ?_ ?_
  all_goals first | (simp; done) | (intro _; simp; done) | rfl | (intro h; refine ⟨h, ?_⟩; simp_all; done) | (intro h; simp_all; done) | (intro h; simp_all; omega)
theorem it7 {nx : Nat} : rngR nx (.v (.string ⟨#[105, 49, 105, 48]⟩)) = .new True fun b => (.p nx b 0, [(nx, .iter b ⟨#[105, 49, 105, 48]⟩ [(0, 105), (1, 49), (2, 105), (3, 48)])]) :=
  rng_lit (by kernel_rfl) ⟨rfl, by decide, rfl, ⟨rfl, by decide, rfl, ⟨rfl, by decide, rfl, ⟨rfl, by decide, rfl, Nat.le_refl _⟩⟩⟩⟩
set_option maxRecDepth 100000 in
set_option maxHeartbeats 8000000 in
theorem match7 (k0 r0 : Int) (A B : Option Addr) (c d : Nat) (w : World) (ha : Hold w.heap.size w (.ints A c .i64 [k0])) (hb : Hold w.heap.size w (.ints B d .i64 [r0])) :
    Calls Tryz.prog 63 #[.string ⟨#[105, 49, 105, 48]⟩, .slice A 1 c, .slice B 1 d] w (MatchRet w ⟨#[105, 49, 105, 48]⟩ [k0] [r0]) := by
  refine calls_run (args := [.v (.string ⟨#[105, 49, 105, 48]⟩), .g 1000 A 1 c, .g 1001 B 1 d]) (hp := [(1000, .ints A c .i64 [k0]), (1001, .ints B d .i64 [r0])]) (nx := 1002) (n := 2000) (U := [(4, 7), (1000000, 18)]) (V := []) (T := lookT tiM) (G := gnil)
    (post := fun s xs => xs = [.v (.int .i64 (matchM ⟨#[105, 49, 105, 48]⟩ [k0] [r0]).kind), .v (.int .i64 (matchM ⟨#[105, 49, 105, 48]⟩ [k0] [r0]).rank), .v (.bool (matchM ⟨#[105, 49, 105, 48]⟩ [k0] [r0]).fst), .v (.bool (matchM ⟨#[105, 49, 105, 48]⟩ [k0] [r0]).snd)])
    followP tiM_ok gOk_nil Tryz.func63 rfl (by kernel_rfl) (by show 3 ≤ 135; decide) (hh_args [.ints A c .i64 [k0], .ints B d .i64 [r0]] 1000 (by simp [ha, hb]) (by simp [mutb])) (fun k hk => keyed_free (l := [.ints A c .i64 [k0], .ints B d .i64 [r0]]) hk) ?_ ?_
  · rintro s xs w' rfl H
    exact ⟨rfl, H.below⟩
  rw [Tryz.results63]
  simp (maxSteps := 10000000) only [En.E, En.evsC, List.map_cons, List.map_nil, Nat.reduceBEq, Nat.reduceAdd, Nat.reduceMul, Nat.reduceEqDiff, Nat.reduceLeDiff, Nat.reduceLT, ne_eq, reduceCtorEq, Int.reduceBEq, Int.reduceBNe, Int.reduceAdd, Int.reduceSub, Int.reduceMul, Int.reduceTDiv, Int.reduceTMod, Int.reduceNeg, En.bitN, Nat.testBit, Nat.reduceShiftRight, Nat.reduceShiftLeft, Nat.reduceAnd, Nat.reduceOr, Nat.reduceBNe, Int.reduceToNat, Nat.reduceSub, Int.reduceLE, Int.reduceLT, tiM, it7]
  simp only [inr, lo, hi]
  repeat' refine And.intro ?_ ?_
  all_goals first | (simp; done) | (intro _; simp; done) | rfl | (intro h; refine ⟨h, ?_⟩; simp_all; done) | (intro h; simp_all; done) | (intro h; simp_all; omega)
theorem it8 {nx : Nat} : rngR nx (.v (.string ⟨#[105, 50, 105, 49]⟩)) = .new True fun b => (.p nx b 0, [(nx, .iter b ⟨#[105, 50, 105, 49]⟩ [(0, 105), (1, 50), (2, 105), (3, 49)])]) :=
  rng_lit (by kernel_rfl) ⟨rfl, by decide, rfl, ⟨rfl, by decide, rfl, ⟨rfl, by decide, rfl, ⟨rfl, by decide, rfl, Nat.le_refl _⟩⟩⟩⟩
set_option maxRecDepth 100000 in
set_option maxHeartbeats 8000000 in
theorem match8 (k0 r0 : Int) (A B : Option Addr) (c d : Nat) (w : World) (ha : Hold w.heap.size w (.ints A c .i64 [k0])) (hb : Hold w.heap.size w (.ints B d .i64 [r0])) :
    Calls Tryz.prog 63 #[.string ⟨#[105, 50, 105, 49]⟩, .slice A 1 c, .slice B 1 d] w (MatchRet w ⟨#[105, 50, 105, 49]⟩ [k0] [r0]) := by
  refine calls_run (args := [.v (.string ⟨#[105, 50, 105, 49]⟩), .g 1000 A 1 c, .g 1001 B 1 d]) (hp := [(1000, .ints A c .i64 [k0]), (1001, .ints B d .i64 [r0])]) (nx := 1002) (n := 2000) (U := [(4, 7), (1000000, 18)]) (V := []) (T := lookT tiM) (G := gnil)
    (post := fun s xs => xs = [.v (.int .i64 (matchM ⟨#[105, 50, 105, 49]⟩ [k0] [r0]).kind), .v (.int .i64 (matchM ⟨#[105, 50, 105, 49]⟩ [k0] [r0]).rank), .v (.bool (matchM ⟨#[105, 50, 105, 49]⟩ [k0] [r0]).fst), .v (.bool (matchM ⟨#[105, 50, 105, 49]⟩ [k0] [r0]).snd)])
    followP tiM_ok gOk_nil Tryz.func63 rfl (by kernel_rfl) (by show 3 ≤ 135; decide) (hh_args [.ints A c .i64 [k0], .ints B d .i64 [r0]] 1000 (by simp [ha, hb]) (by simp [mutb])) (fun k hk => keyed_free (l := [.ints A c .i64 [k0], .ints B d .i64 [r0]]) hk) ?_ ?_
  · rintro s xs w' rfl H
    exact ⟨rfl, H.below⟩
  rw [Tryz.results63]
  simp (maxSteps := 10000000) only [En.E, En.evsC, List.map_cons, List.map_nil, Nat.reduceBEq, Nat.reduceAdd, Nat.reduceMul, Nat.reduceEqDiff, Nat.reduceLeDiff, Nat.reduceLT, ne_eq, reduceCtorEq, Int.reduceBEq, Int.reduceBNe, Int.reduceAdd, Int.reduceSub, Int.reduceMul, Int.reduceTDiv, Int.reduceTMod, Int.reduceNeg, En.bitN, Nat.testBit, Nat.reduceShiftRight, Nat.reduceShiftLeft, Nat.reduceAnd, Nat.reduceOr, Nat.reduceBNe, Int.reduceToNat, Nat.reduceSub, Int.reduceLE, Int.reduceLT, tiM, it8]
  simp only [inr, lo, hi]
  repeat' refine And.intro ?_ ?_
  all_goals first | (simp; done) | (intro _; simp; done) | rfl | (intro h; refine ⟨h, ?_⟩; simp_all; done) | (intro h; simp_all; done) | (intro h; simp_all; omega)
theorem it9 {nx : Nat} : rngR nx (.v (.string ⟨#[107, 49, 105, 48]⟩)) = .new True fun b => (.p nx b 0, [(nx, .iter b ⟨#[107, 49, 105, 48]⟩ [(0, 107), (1, 49), (2, 105), (3, 48)])]) :=
  rng_lit (by kernel_rfl) ⟨rfl, by decide, rfl, ⟨rfl, by decide, rfl, ⟨rfl, by decide, rfl, ⟨rfl, by decide, rfl, Nat.le_refl _⟩⟩⟩⟩
set_option maxRecDepth 100000 in
set_option maxHeartbeats 8000000 in
theorem match9 (k0 r0 : Int) (A B : Option Addr) (c d : Nat) (w : World) (ha : Hold w.heap.size w (.ints A c .i64 [k0])) (hb : Hold w.heap.size w (.ints B d .i64 [r0])) :
    Calls Tryz.prog 63 #[.string ⟨#[107, 49, 105, 48]⟩, .slice A 1 c, .slice B 1 d] w (MatchRet w ⟨#[107, 49, 105, 48]⟩ [k0] [r0]) := by
  refine calls_run (args := [.v (.string ⟨#[107, 49, 105, 48]⟩), .g 1000 A 1 c, .g 1001 B 1 d]) (hp := [(1000, .ints A c .i64 [k0]), (1001, .ints B d .i64 [r0])]) (nx := 1002) (n := 2000) (U := [(4, 7), (1000000, 18)]) (V := []) (T := lookT tiM) (G := gnil)
    (post := fun s xs => xs = [.v (.int .i64 (matchM ⟨#[107, 49, 105, 48]⟩ [k0] [r0]).kind), .v (.int .i64 (matchM ⟨#[107, 49, 105, 48]⟩ [k0] [r0]).rank), .v (.bool (matchM ⟨#[107, 49, 105, 48]⟩ [k0] [r0]).fst), .v (.bool (matchM ⟨#[107, 49, 105, 48]⟩ [k0] [r0]).snd)])
    followP tiM_ok gOk_nil Tryz.func63 rfl (by kernel_rfl) (by show 3 ≤ 135; decide) (hh_args [.ints A c .i64 [k0], .ints B d .i64 [r0]] 1000 (by simp [ha, hb]) (by simp [mutb])) (fun k hk => keyed_free (l := [.ints A c .i64 [k0], .ints B d .i64 [r0]]) hk) ?_ ?_
  · rintro s xs w' rfl H
    exact ⟨rfl, H.below⟩
  rw [Tryz.results63]
  simp (maxSteps := 10000000) only [En.E, En.evsC, List.map_cons, List.map_nil, Nat.reduceBEq, Nat.reduceAdd, Nat.reduceMul, Nat.reduceEqDiff, Nat.reduceLeDiff, Nat.reduceLT, ne_eq, reduceCtorEq, Int.reduceBEq, Int.reduceBNe, Int.reduceAdd, Int.reduceSub, Int.reduceMul, Int.reduceTDiv, Int.reduceTMod, Int.reduceNeg, En.bitN, Nat.testBit, Nat.reduceShiftRight, Nat.reduceShiftLeft, Nat.reduceAnd, Nat.reduceOr, Nat.reduceBNe, Int.reduceToNat, Nat.reduceSub, Int.reduceLE, Int.reduceLT, tiM, it9]
  simp only [inr, lo, hi]
  repeat' refine And.intro ?_ ?_
  all_goals first | (simp; done) | (intro _; simp; done) | rfl | (intro h; refine ⟨h, ?_⟩; simp_all; done) | (intro h; simp_all; done) | (intro h; simp_all; omega)
theorem it10 {nx : Nat} : rngR nx (.v (.string ⟨#[107, 50, 105, 49]⟩)) = .new True fun b => (.p nx b 0, [(nx, .iter b ⟨#[107, 50, 105, 49]⟩ [(0, 107), (1, 50), (2, 105), (3, 49)])]) :=
  rng_lit (by kernel_rfl) ⟨rfl, by decide, rfl, ⟨rfl, by decide, rfl, ⟨rfl, by decide, rfl, ⟨rfl, by decide, rfl, Nat.le_refl _⟩⟩⟩⟩
set_option maxRecDepth 100000 in
set_option maxHeartbeats 8000000 in
theorem match10 (k0 r0 : Int) (A B : Option Addr) (c d : Nat) (w : World) (ha : Hold w.heap.size w (.ints A c .i64 [k0])) (hb : Hold w.heap.size w (.ints B d .i64 [r0])) :
    Calls Tryz.prog 63 #[.string ⟨#[107, 50, 105, 49]⟩, .slice A 1 c, .slice B 1 d] w (MatchRet w ⟨#[107, 50, 105, 49]⟩ [k0] [r0]) := by
  refine calls_run (args := [.v (.string ⟨#[107, 50, 105, 49]⟩), .g 1000 A 1 c, .g 1001 B 1 d]) (hp := [(1000, .ints A c .i64 [k0]), (1001, .ints B d .i64 [r0])]) (nx := 1002) (n := 2000) (U := [(4, 7), (1000000, 18)]) (V := []) (T := lookT tiM) (G := gnil)
    (post := fun s xs => xs = [.v (.int .i64 (matchM ⟨#[107, 50, 105, 49]⟩ [k0] [r0]).kind), .v (.int .i64 (matchM ⟨#[107, 50, 105, 49]⟩ [k0] [r0]).rank), .v (.bool (matchM ⟨#[107, 50, 105, 49]⟩ [k0] [r0]).fst), .v (.bool (matchM ⟨#[107, 50, 105, 49]⟩ [k0] [r0]).snd)])
    followP tiM_ok gOk_nil Tryz.func63 rfl (by kernel_rfl) (by show 3 ≤ 135; decide) (hh_args [.ints A c .i64 [k0], .ints B d .i64 [r0]] 1000 (by simp [ha, hb]) (by simp [mutb])) (fun k hk => keyed_free (l := [.ints A c .i64 [k0], .ints B d .i64 [r0]]) hk) ?_ ?_
  · rintro s xs w' rfl H
    exact ⟨rfl, H.below⟩
  rw [Tryz.results63]
  simp (maxSteps := 10000000) only [En.E, En.evsC, List.map_cons, List.map_nil, Nat.reduceBEq, Nat.reduceAdd, Nat.reduceMul, Nat.reduceEqDiff, Nat.reduceLeDiff, Nat.reduceLT, ne_eq, reduceCtorEq, Int.reduceBEq, Int.reduceBNe, Int.reduceAdd, Int.reduceSub, Int.reduceMul, Int.reduceTDiv, Int.reduceTMod, Int.reduceNeg, En.bitN, Nat.testBit, Nat.reduceShiftRight, Nat.reduceShiftLeft, Nat.reduceAnd, Nat.reduceOr, Nat.reduceBNe, Int.reduceToNat, Nat.reduceSub, Int.reduceLE, Int.reduceLT, tiM, it10]
  simp only [inr, lo, hi]
  repeat' refine And.intro ?_ ?_
  all_goals first | (simp; done) | (intro _; simp; done) | rfl | (intro h; refine ⟨h, ?_⟩; simp_all; done) | (intro h; simp_all; done) | (intro h; simp_all; omega)
theorem it11 {nx : Nat} : rngR nx (.v (.string ⟨#[105, 49, 105, 49]⟩)) = .new True fun b => (.p nx b 0, [(nx, .iter b ⟨#[105, 49, 105, 49]⟩ [(0, 105), (1, 49), (2, 105), (3, 49)])]) :=
  rng_lit (by kernel_rfl) ⟨rfl, by decide, rfl, ⟨rfl, by decide, rfl, ⟨rfl, by decide, rfl, ⟨rfl, by decide, rfl, Nat.le_refl _⟩⟩⟩⟩
set_option maxRecDepth 100000 in
set_option maxHeartbeats 8000000 in
theorem match11 (k0 r0 : Int) (A B : Option Addr) (c d : Nat) (w : World) (ha : Hold w.heap.size w (.ints A c .i64 [k0])) (hb : Hold w.heap.size w (.ints B d .i64 [r0])) :
    Calls Tryz.prog 63 #[.string ⟨#[105, 49, 105, 49]⟩, .slice A 1 c, .slice B 1 d] w (MatchRet w ⟨#[105, 49, 105, 49]⟩ [k0] [r0]) := by
  refine calls_run (args := [.v (.string ⟨#[105, 49, 105, 49]⟩), .g 1000 A 1 c, .g 1001 B 1 d]) (hp := [(1000, .ints A c .i64 [k0]), (1001, .ints B d .i64 [r0])]) (nx := 1002) (n := 2000) (U := [(4, 7), (1000000, 18)]) (V := []) (T := lookT tiM) (G := gnil)
    (post := fun s xs => xs = [.v (.int .i64 (matchM ⟨#[105, 49, 105, 49]⟩ [k0] [r0]).kind), .v (.int .i64 (matchM ⟨#[105, 49, 105, 49]⟩ [k0] [r0]).rank), .v (.bool (matchM ⟨#[105, 49, 105, 49]⟩ [k0] [r0]).fst), .v (.bool (matchM ⟨#[105, 49, 105, 49]⟩ [k0] [r0]).snd)])
    followP tiM_ok gOk_nil Tryz.func63 rfl (by kernel_rfl) (by show 3 ≤ 135; decide) (hh_args [.ints A c .i64 [k0], .ints B d .i64 [r0]] 1000 (by simp [ha, hb]) (by simp [mutb])) (fun k hk => keyed_free (l := [.ints A c .i64 [k0], .ints B d .i64 [r0]]) hk) ?_ ?_
  · rintro s xs w' rfl H
    exact ⟨rfl, H.below⟩
  rw [Tryz.results63]
  simp (maxSteps := 10000000) only [En.E, En.evsC, List.map_cons, List.map_nil, Nat.reduceBEq, Nat.reduceAdd, Nat.reduceMul, Nat.reduceEqDiff, Nat.reduceLeDiff, Nat.reduceLT, ne_eq, reduceCtorEq, Int.reduceBEq, Int.reduceBNe, Int.reduceAdd, Int.reduceSub, Int.reduceMul, Int.reduceTDiv, Int.reduceTMod, Int.reduceNeg, En.bitN, Nat.testBit, Nat.reduceShiftRight, Nat.reduceShiftLeft, Nat.reduceAnd, Nat.reduceOr, Nat.reduceBNe, Int.reduceToNat, Nat.reduceSub, Int.reduceLE, Int.reduceLT, tiM, it11]
  simp only [inr, lo, hi]
  repeat' refine And.intro ?_ ?_
  all_goals first | (simp; done) | (intro _; simp; done) | rfl | (intro h; refine ⟨h, ?_⟩; simp_all; done) | (intro h; simp_all; done) | (intro h; simp_all; omega)
theorem it12 {nx : Nat} : rngR nx (.v (.string ⟨#[105, 50, 105, 50]⟩)) = .new True fun b => (.p nx b 0, [(nx, .iter b ⟨#[105, 50, 105, 50]⟩ [(0, 105), (1, 50), (2, 105), (3, 50)])]) :=
  rng_lit (by kernel_rfl) ⟨rfl, by decide, rfl, ⟨rfl, by decide, rfl, ⟨rfl, by decide, rfl, ⟨rfl, by decide, rfl, Nat.le_refl _⟩⟩⟩⟩
set_option maxRecDepth 100000 in
set_option maxHeartbeats 8000000 in
theorem match12 (k0 r0 : Int) (A B : Option Addr) (c d : Nat) (w : World) (ha : Hold w.heap.size w (.ints A c .i64 [k0])) (hb : Hold w.heap.size w (.ints B d .i64 [r0])) :
    Calls Tryz.prog 63 #[.string ⟨#[105, 50, 105, 50]⟩, .slice A 1 c, .slice B 1 d] w (MatchRet w ⟨#[105, 50, 105, 50]⟩ [k0] [r0]) := by
  refine calls_run (args := [.v (.string ⟨#[105, 50, 105, 50]⟩), .g 1000 A 1 c, .g 1001 B 1 d]) (hp := [(1000, .ints A c .i64 [k0]), (1001, .ints B d .i64 [r0])]) (nx := 1002) (n := 2000) (U := [(4, 7), (1000000, 18)]) (V := []) (T := lookT tiM) (G := gnil)
    (post := fun s xs => xs = [.v (.int .i64 (matchM ⟨#[105, 50, 105, 50]⟩ [k0] [r0]).kind), .v (.int .i64 (matchM ⟨#[105, 50, 105, 50]⟩ [k0] [r0]).rank), .v (.bool (matchM ⟨#[105, 50, 105, 50]⟩ [k0] [r0]).fst), .v (.bool (matchM ⟨#[105, 50, 105, 50]⟩ [k0] [r0]).snd)])
    followP tiM_ok gOk_nil Tryz.func63 rfl (by kernel_rfl) (by show 3 ≤ 135; decide) (hh_args [.ints A c .i64 [k0], .ints B d .i64 [r0]] 1000 (by simp [ha, hb]) (by simp [mutb])) (fun k hk => keyed_free (l := [.ints A c .i64 [k0], .ints B d .i64 [r0]]) hk) ?_ ?_
  · rintro s xs w' rfl H
    exact ⟨rfl, H.below⟩
  rw [Tryz.results63]
  simp (maxSteps := 10000000) only [En.E, En.evsC, List.map_cons, List.map_nil, Nat.reduceBEq, Nat.reduceAdd, Nat.reduceMul, Nat.reduceEqDiff, Nat.reduceLeDiff, Nat.reduceLT, ne_eq, reduceCtorEq, Int.reduceBEq, Int.reduceBNe, Int.reduceAdd, Int.reduceSub, Int.reduceMul, Int.reduceTDiv, Int.reduceTMod, Int.reduceNeg, En.bitN, Nat.testBit, Nat.reduceShiftRight, Nat.reduceShiftLeft, Nat.reduceAnd, Nat.reduceOr, Nat.reduceBNe, Int.reduceToNat, Nat.reduceSub, Int.reduceLE, Int.reduceLT, tiM, it12]
  simp only [inr, lo, hi]
  repeat' refine And.intro ?_ ?_
  all_goals first | (simp; done) | (intro _; simp; done) | rfl | (intro h; refine ⟨h, ?_⟩; simp_all; done) | (intro h; simp_all; done) | (intro h; simp_all; omega)
theorem it13 {nx : Nat} : rngR nx (.v (.string ⟨#[105, 48, 105, 110, 105, 110]⟩)) = .new True fun b => (.p nx b 0, [(nx, .iter b ⟨#[105, 48, 105, 110, 105, 110]⟩ [(0, 105), (1, 48), (2, 105), (3, 110), (4, 105), (5, 110)])]) :=
  rng_lit (by kernel_rfl) ⟨rfl, by decide, rfl, ⟨rfl, by decide, rfl, ⟨rfl, by decide, rfl, ⟨rfl, by decide, rfl, ⟨rfl, by decide, rfl, ⟨rfl, by decide, rfl, Nat.le_refl _⟩⟩⟩⟩⟩⟩
set_option maxRecDepth 100000 in
set_option maxHeartbeats 8000000 in
theorem match13 (k0 r0 k1 r1 : Int) (A B : Option Addr) (c d : Nat) (w : World) (ha : Hold w.heap.size w (.ints A c .i64 [k0, k1])) (hb : Hold w.heap.size w (.ints B d .i64 [r0, r1])) :
    Calls Tryz.prog 63 #[.string ⟨#[105, 48, 105, 110, 105, 110]⟩, .slice A 2 c, .slice B 2 d] w (MatchRet w ⟨#[105, 48, 105, 110, 105, 110]⟩ [k0, k1] [r0, r1]) := by
  refine calls_run (args := [.v (.string ⟨#[105, 48, 105, 110, 105, 110]⟩), .g 1000 A 2 c, .g 1001 B 2 d]) (hp := [(1000, .ints A c .i64 [k0, k1]), (1001, .ints B d .i64 [r0, r1])]) (nx := 1002) (n := 2000) (U := [(4, 7), (1000000, 18)]) (V := []) (T := lookT tiM) (G := gnil)
    (post := fun s xs => xs = [.v (.int .i64 (matchM ⟨#[105, 48, 105, 110, 105, 110]⟩ [k0, k1] [r0, r1]).kind), .v (.int .i64 (matchM ⟨#[105, 48, 105, 110, 105, 110]⟩ [k0, k1] [r0, r1]).rank), .v (.bool (matchM ⟨#[105, 48, 105, 110, 105, 110]⟩ [k0, k1] [r0, r1]).fst), .v (.bool (matchM ⟨#[105, 48, 105, 110, 105, 110]⟩ [k0, k1] [r0, r1]).snd)])
    followP tiM_ok gOk_nil Tryz.func63 rfl (by kernel_rfl) (by show 3 ≤ 135; decide) (hh_args [.ints A c .i64 [k0, k1], .ints B d .i64 [r0, r1]] 1000 (by simp [ha, hb]) (by simp [mutb])) (fun k hk => keyed_free (l := [.ints A c .i64 [k0, k1], .ints B d .i64 [r0, r1]]) hk) ?_ ?_
  · rintro s xs w' rfl H
    exact ⟨rfl, H.below⟩
  rw [Tryz.results63]
  simp (maxSteps := 10000000) only [En.E, En.evsC, List.map_cons, List.map_nil, Nat.reduceBEq, Nat.reduceAdd, Nat.reduceMul, Nat.reduceEqDiff, Nat.reduceLeDiff, Nat.reduceLT, ne_eq, reduceCtorEq, Int.reduceBEq, Int.reduceBNe, Int.reduceAdd, Int.reduceSub, Int.reduceMul, Int.reduceTDiv, Int.reduceTMod, Int.reduceNeg, En.bitN, Nat.testBit, Nat.reduceShiftRight, Nat.reduceShiftLeft, Nat.reduceAnd, Nat.reduceOr, Nat.reduceBNe, Int.reduceToNat, Nat.reduceSub, Int.reduceLE, Int.reduceLT, tiM, it13]
  simp only [inr, lo, hi]
  repeat' refine And.intro ?_ ?_
  all_goals first | (simp; done) | (intro _; simp; done) | rfl | (intro h; refine ⟨h, ?_⟩; simp_all; done) | (intro h; simp_all; done) | (intro h; simp_all; omega)
theorem it14 {nx : Nat} : rngR nx (.v (.string ⟨#[105, 110, 105, 48, 105, 110]⟩)) = .new True fun b => (.p nx b 0, [(nx, .iter b ⟨#[105, 110, 105, 48, 105, 110]⟩ [(0, 105), (1, 110), (2, 105), (3, 48), (4, 105), (5, 110)])]) :=
  rng_lit (by kernel_rfl) ⟨rfl, by decide, rfl, ⟨rfl, by decide, rfl, ⟨rfl, by decide, rfl, ⟨rfl, by decide, rfl, ⟨rfl, by decide, rfl, ⟨rfl, by decide, rfl, Nat.le_refl _⟩⟩⟩⟩⟩⟩
set_option maxRecDepth 100000 in
set_option maxHeartbeats 8000000 in
theorem match14 (k0 r0 k1 r1 : Int) (A B : Option Addr) (c d : Nat) (w : World) (ha : Hold w.heap.size w (.ints A c .i64 [k0, k1])) (hb : Hold w.heap.size w (.ints B d .i64 [r0, r1])) :
    Calls Tryz.prog 63 #[.string ⟨#[105, 110, 105, 48, 105, 110]⟩, .slice A 2 c, .slice B 2 d] w (MatchRet w ⟨#[105, 110, 105, 48, 105, 110]⟩ [k0, k1] [r0, r1]) := by
  refine calls_run (args := [.v (.string ⟨#[105, 110, 105, 48, 105, 110]⟩), .g 1000 A 2 c, .g 1001 B 2 d]) (hp := [(1000, .ints A c .i64 [k0, k1]), (1001, .ints B d .i64 [r0, r1])]) (nx := 1002) (n := 2000) (U := [(4, 7), (1000000, 18)]) (V := []) (T := lookT tiM) (G := gnil)
    (post := fun s xs => xs = [.v (.int .i64 (matchM ⟨#[105, 110, 105, 48, 105, 110]⟩ [k0, k1] [r0, r1]).kind), .v (.int .i64 (matchM ⟨#[105, 110, 105, 48, 105, 110]⟩ [k0, k1] [r0, r1]).rank), .v (.bool (matchM ⟨#[105, 110, 105, 48, 105, 110]⟩ [k0, k1] [r0, r1]).fst), .v (.bool (matchM ⟨#[105, 110, 105, 48, 105, 110]⟩ [k0, k1] [r0, r1]).snd)])
    followP tiM_ok gOk_nil Tryz.func63 rfl (by kernel_rfl) (by show 3 ≤ 135; decide) (hh_args [.ints A c .i64 [k0, k1], .ints B d .i64 [r0, r1]] 1000 (by simp [ha, hb]) (by simp [mutb])) (fun k hk => keyed_free (l := [.ints A c .i64 [k0, k1], .ints B d .i64 [r0, r1]]) hk) ?_ ?_
  · rintro s xs w' rfl H
    exact ⟨rfl, H.below⟩
  rw [Tryz.results63]
  simp (maxSteps := 10000000) only [En.E, En.evsC, List.map_cons, List.map_nil, Nat.reduceBEq, Nat.reduceAdd, Nat.reduceMul, Nat.reduceEqDiff, Nat.reduceLeDiff, Nat.reduceLT, ne_eq, reduceCtorEq, Int.reduceBEq, Int.reduceBNe, Int.reduceAdd, Int.reduceSub, Int.reduceMul, Int.reduceTDiv, Int.reduceTMod, Int.reduceNeg, En.bitN, Nat.testBit, Nat.reduceShiftRight, Nat.reduceShiftLeft, Nat.reduceAnd, Nat.reduceOr, Nat.reduceBNe, Int.reduceToNat, Nat.reduceSub, Int.reduceLE, Int.reduceLT, tiM, it14]
  simp only [inr, lo, hi]
  repeat' refine And.intro ?_ ?_
  all_goals first | (simp; done) | (intro _; simp; done) | rfl | (intro h; refine ⟨h, ?_⟩; simp_all; done) | (intro h; simp_all; done) | (intro h; simp_all; omega)
end Pr
end Go.Proofs.YtnpkmimbnjnicaaGreatDoor
/-
prims.match (chapter 12), line by line (printed by genPrC.py).
-/
set_option linter.unusedSimpArgs false
set_option linter.unusedVariables false
namespace Go.Proofs.YtnpkmimbnjnicaaGreatDoor
namespace Pr
open Go Go.RowKit En
theorem it15 {nx : Nat} : rngR nx (.v (.string ⟨#[105, 110, 105, 110, 105, 110]⟩)) = .new True fun b => (.p nx b 0, [(nx, .iter b ⟨#[105, 110, 105, 110, 105, 110]⟩ [(0, 105), (1, 110), (2, 105), (3, 110), (4, 105), (5, 110)])]) :=
  rng_lit (by kernel_rfl) ⟨rfl, by decide, rfl, ⟨rfl, by decide, rfl, ⟨rfl, by decide, rfl, ⟨rfl, by decide, rfl, ⟨rfl, by decide, rfl, ⟨rfl, by decide, rfl, Nat.le_refl _⟩⟩⟩⟩⟩⟩
set_option maxRecDepth 100000 in
set_option maxHeartbeats 8000000 in
theorem match15 (k0 r0 k1 r1 : Int) (A B : Option Addr) (c d : Nat) (w : World) (ha : Hold w.heap.size w (.ints A c .i64 [k0, k1])) (hb : Hold w.heap.size w (.ints B d .i64 [r0, r1])) :
    Calls Tryz.prog 63 #[.string ⟨#[105, 110, 105, 110, 105, 110]⟩, .slice A 2 c, .slice B 2 d] w (MatchRet w ⟨#[105, 110, 105, 110, 105, 110]⟩ [k0, k1] [r0, r1]) := by
  refine calls_run (args := [.v (.string ⟨#[105, 110, 105, 110, 105, 110]⟩), .g 1000 A 2 c, .g 1001 B 2 d]) (hp := [(1000, .ints A c .i64 [k0, k1]), (1001, .ints B d .i64 [r0, r1])]) (nx := 1002) (n := 2000) (U := [(4, 7), (1000000, 18)]) (V := []) (T := lookT tiM) (G := gnil)
    (post := fun s xs => xs = [.v (.int .i64 (matchM ⟨#[105, 110, 105, 110, 105, 110]⟩ [k0, k1] [r0, r1]).kind), .v (.int .i64 (matchM ⟨#[105, 110, 105, 110, 105, 110]⟩ [k0, k1] [r0, r1]).rank), .v (.bool (matchM ⟨#[105, 110, 105, 110, 105, 110]⟩ [k0, k1] [r0, r1]).fst), .v (.bool (matchM ⟨#[105, 110, 105, 110, 105, 110]⟩ [k0, k1] [r0, r1]).snd)])
    followP tiM_ok gOk_nil Tryz.func63 rfl (by kernel_rfl) (by show 3 ≤ 135; decide) (hh_args [.ints A c .i64 [k0, k1], .ints B d .i64 [r0, r1]] 1000 (by simp [ha, hb]) (by simp [mutb])) (fun k hk => keyed_free (l := [.ints A c .i64 [k0, k1], .ints B d .i64 [r0, r1]]) hk) ?_ ?_
  · rintro s xs w' rfl H
    exact ⟨rfl, H.below⟩
  rw [Tryz.results63]
  simp (maxSteps := 10000000) only [En.E, En.evsC, List.map_cons, List.map_nil, Nat.reduceBEq, Nat.reduceAdd, Nat.reduceMul, Nat.reduceEqDiff, Nat.reduceLeDiff, Nat.reduceLT, ne_eq, reduceCtorEq, Int.reduceBEq, Int.reduceBNe, Int.reduceAdd, Int.reduceSub, Int.reduceMul, Int.reduceTDiv, Int.reduceTMod, Int.reduceNeg, En.bitN, Nat.testBit, Nat.reduceShiftRight, Nat.reduceShiftLeft, Nat.reduceAnd, Nat.reduceOr, Nat.reduceBNe, Int.reduceToNat, Nat.reduceSub, Int.reduceLE, Int.reduceLT, tiM, it15]
  simp only [inr, lo, hi]
  repeat' refine And.intro ?_ ?_
  all_goals first | (simp; done) | (intro _; simp; done) | rfl | (intro h; refine ⟨h, ?_⟩; simp_all; done) | (intro h; simp_all; done) | (intro h; simp_all; omega)
theorem it16 {nx : Nat} : rngR nx (.v (.string ⟨#[107, 48, 107, 110, 105, 110]⟩)) = .new True fun b => (.p nx b 0, [(nx, .iter b ⟨#[107, 48, 107, 110, 105, 110]⟩ [(0, 107), (1, 48), (2, 107), (3, 110), (4, 105), (5, 110)])]) :=
  rng_lit (by kernel_rfl) ⟨rfl, by decide, rfl, ⟨rfl, by decide, rfl, ⟨rfl, by decide, rfl, ⟨rfl, by decide, rfl, ⟨rfl, by decide, rfl, ⟨rfl, by decide, rfl, Nat.le_refl _⟩⟩⟩⟩⟩⟩
set_option maxRecDepth 100000 in
set_option maxHeartbeats 8000000 in
theorem match16 (k0 r0 k1 r1 : Int) (A B : Option Addr) (c d : Nat) (w : World) (ha : Hold w.heap.size w (.ints A c .i64 [k0, k1])) (hb : Hold w.heap.size w (.ints B d .i64 [r0, r1])) :
    Calls Tryz.prog 63 #[.string ⟨#[107, 48, 107, 110, 105, 110]⟩, .slice A 2 c, .slice B 2 d] w (MatchRet w ⟨#[107, 48, 107, 110, 105, 110]⟩ [k0, k1] [r0, r1]) := by
  refine calls_run (args := [.v (.string ⟨#[107, 48, 107, 110, 105, 110]⟩), .g 1000 A 2 c, .g 1001 B 2 d]) (hp := [(1000, .ints A c .i64 [k0, k1]), (1001, .ints B d .i64 [r0, r1])]) (nx := 1002) (n := 2000) (U := [(4, 7), (1000000, 18)]) (V := []) (T := lookT tiM) (G := gnil)
    (post := fun s xs => xs = [.v (.int .i64 (matchM ⟨#[107, 48, 107, 110, 105, 110]⟩ [k0, k1] [r0, r1]).kind), .v (.int .i64 (matchM ⟨#[107, 48, 107, 110, 105, 110]⟩ [k0, k1] [r0, r1]).rank), .v (.bool (matchM ⟨#[107, 48, 107, 110, 105, 110]⟩ [k0, k1] [r0, r1]).fst), .v (.bool (matchM ⟨#[107, 48, 107, 110, 105, 110]⟩ [k0, k1] [r0, r1]).snd)])
    followP tiM_ok gOk_nil Tryz.func63 rfl (by kernel_rfl) (by show 3 ≤ 135; decide) (hh_args [.ints A c .i64 [k0, k1], .ints B d .i64 [r0, r1]] 1000 (by simp [ha, hb]) (by simp [mutb])) (fun k hk => keyed_free (l := [.ints A c .i64 [k0, k1], .ints B d .i64 [r0, r1]]) hk) ?_ ?_
  · rintro s xs w' rfl H
    exact ⟨rfl, H.below⟩
  rw [Tryz.results63]
  simp (maxSteps := 10000000) only [En.E, En.evsC, List.map_cons, List.map_nil, Nat.reduceBEq, Nat.reduceAdd, Nat.reduceMul, Nat.reduceEqDiff, Nat.reduceLeDiff, Nat.reduceLT, ne_eq, reduceCtorEq, Int.reduceBEq, Int.reduceBNe, Int.reduceAdd, Int.reduceSub, Int.reduceMul, Int.reduceTDiv, Int.reduceTMod, Int.reduceNeg, En.bitN, Nat.testBit, Nat.reduceShiftRight, Nat.reduceShiftLeft, Nat.reduceAnd, Nat.reduceOr, Nat.reduceBNe, Int.reduceToNat, Nat.reduceSub, Int.reduceLE, Int.reduceLT, tiM, it16]
  simp only [inr, lo, hi]
  repeat' refine And.intro ?_ ?_
  all_goals first | (simp; done) | (intro _; simp; done) | rfl | (intro h; refine ⟨h, ?_⟩; simp_all; done) | (intro h; simp_all; done) | (intro h; simp_all; omega)
theorem it17 {nx : Nat} : rngR nx (.v (.string ⟨#[107, 110, 107, 48, 105, 110]⟩)) = .new True fun b => (.p nx b 0, [(nx, .iter b ⟨#[107, 110, 107, 48, 105, 110]⟩ [(0, 107), (1, 110), (2, 107), (3, 48), (4, 105), (5, 110)])]) :=
  rng_lit (by kernel_rfl) ⟨rfl, by decide, rfl, ⟨rfl, by decide, rfl, ⟨rfl, by decide, rfl, ⟨rfl, by decide, rfl, ⟨rfl, by decide, rfl, ⟨rfl, by decide, rfl, Nat.le_refl _⟩⟩⟩⟩⟩⟩
set_option maxRecDepth 100000 in
set_option maxHeartbeats 8000000 in
theorem match17 (k0 r0 k1 r1 : Int) (A B : Option Addr) (c d : Nat) (w : World) (ha : Hold w.heap.size w (.ints A c .i64 [k0, k1])) (hb : Hold w.heap.size w (.ints B d .i64 [r0, r1])) :
    Calls Tryz.prog 63 #[.string ⟨#[107, 110, 107, 48, 105, 110]⟩, .slice A 2 c, .slice B 2 d] w (MatchRet w ⟨#[107, 110, 107, 48, 105, 110]⟩ [k0, k1] [r0, r1]) := by
  refine calls_run (args := [.v (.string ⟨#[107, 110, 107, 48, 105, 110]⟩), .g 1000 A 2 c, .g 1001 B 2 d]) (hp := [(1000, .ints A c .i64 [k0, k1]), (1001, .ints B d .i64 [r0, r1])]) (nx := 1002) (n := 2000) (U := [(4, 7), (1000000, 18)]) (V := []) (T := lookT tiM) (G := gnil)
    (post := fun s xs => xs = [.v (.int .i64 (matchM ⟨#[107, 110, 107, 48, 105, 110]⟩ [k0, k1] [r0, r1]).kind), .v (.int .i64 (matchM ⟨#[107, 110, 107, 48, 105, 110]⟩ [k0, k1] [r0, r1]).rank), .v (.bool (matchM ⟨#[107, 110, 107, 48, 105, 110]⟩ [k0, k1] [r0, r1]).fst), .v (.bool (matchM ⟨#[107, 110, 107, 48, 105, 110]⟩ [k0, k1] [r0, r1]).snd)])
    followP tiM_ok gOk_nil Tryz.func63 rfl (by kernel_rfl) (by show 3 ≤ 135; decide) (hh_args [.ints A c .i64 [k0, k1], .ints B d .i64 [r0, r1]] 1000 (by simp [ha, hb]) (by simp [mutb])) (fun k hk => keyed_free (l := [.ints A c .i64 [k0, k1], .ints B d .i64 [r0, r1]]) hk) ?_ ?_
  · rintro s xs w' rfl H
    exact ⟨rfl, H.below⟩
  rw [Tryz.results63]
  simp (maxSteps := 10000000) only [En.E, En.evsC, List.map_cons, List.map_nil, Nat.reduceBEq, Nat.reduceAdd, Nat.reduceMul, Nat.reduceEqDiff, Nat.reduceLeDiff, Nat.reduceLT, ne_eq, reduceCtorEq, Int.reduceBEq, Int.reduceBNe, Int.reduceAdd, Int.reduceSub, Int.reduceMul, Int.reduceTDiv, Int.reduceTMod, Int.reduceNeg, En.bitN, Nat.testBit, Nat.reduceShiftRight, Nat.reduceShiftLeft, Nat.reduceAnd, Nat.reduceOr, Nat.reduceBNe, Int.reduceToNat, Nat.reduceSub, Int.reduceLE, Int.reduceLT, tiM, it17]
  simp only [inr, lo, hi]
  repeat' refine And.intro ?_ ?_
  all_goals first | (simp; done) | (intro _; simp; done) | rfl | (intro h; refine ⟨h, ?_⟩; simp_all; done) | (intro h; simp_all; done) | (intro h; simp_all; omega)
theorem it18 {nx : Nat} : rngR nx (.v (.string ⟨#[107, 110, 107, 110, 105, 110]⟩)) = .new True fun b => (.p nx b 0, [(nx, .iter b ⟨#[107, 110, 107, 110, 105, 110]⟩ [(0, 107), (1, 110), (2, 107), (3, 110), (4, 105), (5, 110)])]) :=
  rng_lit (by kernel_rfl) ⟨rfl, by decide, rfl, ⟨rfl, by decide, rfl, ⟨rfl, by decide, rfl, ⟨rfl, by decide, rfl, ⟨rfl, by decide, rfl, ⟨rfl, by decide, rfl, Nat.le_refl _⟩⟩⟩⟩⟩⟩
set_option maxRecDepth 100000 in
set_option maxHeartbeats 8000000 in
theorem match18 (k0 r0 k1 r1 : Int) (A B : Option Addr) (c d : Nat) (w : World) (ha : Hold w.heap.size w (.ints A c .i64 [k0, k1])) (hb : Hold w.heap.size w (.ints B d .i64 [r0, r1])) :
    Calls Tryz.prog 63 #[.string ⟨#[107, 110, 107, 110, 105, 110]⟩, .slice A 2 c, .slice B 2 d] w (MatchRet w ⟨#[107, 110, 107, 110, 105, 110]⟩ [k0, k1] [r0, r1]) := by
  refine calls_run (args := [.v (.string ⟨#[107, 110, 107, 110, 105, 110]⟩), .g 1000 A 2 c, .g 1001 B 2 d]) (hp := [(1000, .ints A c .i64 [k0, k1]), (1001, .ints B d .i64 [r0, r1])]) (nx := 1002) (n := 2000) (U := [(4, 7), (1000000, 18)]) (V := []) (T := lookT tiM) (G := gnil)
    (post := fun s xs => xs = [.v (.int .i64 (matchM ⟨#[107, 110, 107, 110, 105, 110]⟩ [k0, k1] [r0, r1]).kind), .v (.int .i64 (matchM ⟨#[107, 110, 107, 110, 105, 110]⟩ [k0, k1] [r0, r1]).rank), .v (.bool (matchM ⟨#[107, 110, 107, 110, 105, 110]⟩ [k0, k1] [r0, r1]).fst), .v (.bool (matchM ⟨#[107, 110, 107, 110, 105, 110]⟩ [k0, k1] [r0, r1]).snd)])
    followP tiM_ok gOk_nil Tryz.func63 rfl (by kernel_rfl) (by show 3 ≤ 135; decide) (hh_args [.ints A c .i64 [k0, k1], .ints B d .i64 [r0, r1]] 1000 (by simp [ha, hb]) (by simp [mutb])) (fun k hk => keyed_free (l := [.ints A c .i64 [k0, k1], .ints B d .i64 [r0, r1]]) hk) ?_ ?_
  · rintro s xs w' rfl H
    exact ⟨rfl, H.below⟩
  rw [Tryz.results63]
  simp (maxSteps := 10000000) only [En.E, En.evsC, List.map_cons, List.map_nil, Nat.reduceBEq, Nat.reduceAdd, Nat.reduceMul, Nat.reduceEqDiff, Nat.reduceLeDiff, Nat.reduceLT, ne_eq, reduceCtorEq, Int.reduceBEq, Int.reduceBNe, Int.reduceAdd, Int.reduceSub, Int.reduceMul, Int.reduceTDiv, Int.reduceTMod, Int.reduceNeg, En.bitN, Nat.testBit, Nat.reduceShiftRight, Nat.reduceShiftLeft, Nat.reduceAnd, Nat.reduceOr, Nat.reduceBNe, Int.reduceToNat, Nat.reduceSub, Int.reduceLE, Int.reduceLT, tiM, it18]
  simp only [inr, lo, hi]
  repeat' refine And.intro ?_ ?_
  all_goals first | (simp; done) | (intro _; simp; done) | rfl | (intro h; refine ⟨h, ?_⟩; simp_all; done) | (intro h; simp_all; done) | (intro h; simp_all; omega)
theorem it19 {nx : Nat} : rngR nx (.v (.string ⟨#[105, 48, 107, 49, 107, 49]⟩)) = .new True fun b => (.p nx b 0, [(nx, .iter b ⟨#[105, 48, 107, 49, 107, 49]⟩ [(0, 105), (1, 48), (2, 107), (3, 49), (4, 107), (5, 49)])]) :=
  rng_lit (by kernel_rfl) ⟨rfl, by decide, rfl, ⟨rfl, by decide, rfl, ⟨rfl, by decide, rfl, ⟨rfl, by decide, rfl, ⟨rfl, by decide, rfl, ⟨rfl, by decide, rfl, Nat.le_refl _⟩⟩⟩⟩⟩⟩
set_option maxRecDepth 100000 in
set_option maxHeartbeats 8000000 in
theorem match19 (k0 r0 k1 r1 : Int) (A B : Option Addr) (c d : Nat) (w : World) (ha : Hold w.heap.size w (.ints A c .i64 [k0, k1])) (hb : Hold w.heap.size w (.ints B d .i64 [r0, r1])) :
    Calls Tryz.prog 63 #[.string ⟨#[105, 48, 107, 49, 107, 49]⟩, .slice A 2 c, .slice B 2 d] w (MatchRet w ⟨#[105, 48, 107, 49, 107, 49]⟩ [k0, k1] [r0, r1]) := by
  refine calls_run (args := [.v (.string ⟨#[105, 48, 107, 49, 107, 49]⟩), .g 1000 A 2 c, .g 1001 B 2 d]) (hp := [(1000, .ints A c .i64 [k0, k1]), (1001, .ints B d .i64 [r0, r1])]) (nx := 1002) (n := 2000) (U := [(4, 7), (1000000, 18)]) (V := []) (T := lookT tiM) (G := gnil)
    (post := fun s xs => xs = [.v (.int .i64 (matchM ⟨#[105, 48, 107, 49, 107, 49]⟩ [k0, k1] [r0, r1]).kind), .v (.int .i64 (matchM ⟨#[105, 48, 107, 49, 107, 49]⟩ [k0, k1] [r0, r1]).rank), .v (.bool (matchM ⟨#[105, 48, 107, 49, 107, 49]⟩ [k0, k1] [r0, r1]).fst), .v (.bool (matchM ⟨#[105, 48, 107, 49, 107, 49]⟩ [k0, k1] [r0, r1]).snd)])
    followP tiM_ok gOk_nil Tryz.func63 rfl (by kernel_rfl) (by show 3 ≤ 135; decide) (hh_args [.ints A c .i64 [k0, k1], .ints B d .i64 [r0, r1]] 1000 (by simp [ha, hb]) (by simp [mutb])) (fun k hk => keyed_free (l := [.ints A c .i64 [k0, k1], .ints B d .i64 [r0, r1]]) hk) ?_ ?_
  · rintro s xs w' rfl H
    exact ⟨rfl, H.below⟩
  rw [Tryz.results63]
  simp (maxSteps := 10000000) only [En.E, En.evsC, List.map_cons, List.map_nil, Nat.reduceBEq, Nat.reduceAdd, Nat.reduceMul, Nat.reduceEqDiff, Nat.reduceLeDiff, Nat.reduceLT, ne_eq, reduceCtorEq, Int.reduceBEq, Int.reduceBNe, Int.reduceAdd, Int.reduceSub, Int.reduceMul, Int.reduceTDiv, Int.reduceTMod, Int.reduceNeg, En.bitN, Nat.testBit, Nat.reduceShiftRight, Nat.reduceShiftLeft, Nat.reduceAnd, Nat.reduceOr, Nat.reduceBNe, Int.reduceToNat, Nat.reduceSub, Int.reduceLE, Int.reduceLT, tiM, it19]
  simp only [inr, lo, hi]
  repeat' refine And.intro ?_ ?_
  all_goals first | (simp; done) | (intro _; simp; done) | rfl | (intro h; refine ⟨h, ?_⟩; simp_all; done) | (intro h; simp_all; done) | (intro h; simp_all; omega)
theorem it20 {nx : Nat} : rngR nx (.v (.string ⟨#[105, 48, 107, 48, 107, 49]⟩)) = .new True fun b => (.p nx b 0, [(nx, .iter b ⟨#[105, 48, 107, 48, 107, 49]⟩ [(0, 105), (1, 48), (2, 107), (3, 48), (4, 107), (5, 49)])]) :=
  rng_lit (by kernel_rfl) ⟨rfl, by decide, rfl, ⟨rfl, by decide, rfl, ⟨rfl, by decide, rfl, ⟨rfl, by decide, rfl, ⟨rfl, by decide, rfl, ⟨rfl, by decide, rfl, Nat.le_refl _⟩⟩⟩⟩⟩⟩
set_option maxRecDepth 100000 in
set_option maxHeartbeats 8000000 in
theorem match20 (k0 r0 k1 r1 : Int) (A B : Option Addr) (c d : Nat) (w : World) (ha : Hold w.heap.size w (.ints A c .i64 [k0, k1])) (hb : Hold w.heap.size w (.ints B d .i64 [r0, r1])) :
    Calls Tryz.prog 63 #[.string ⟨#[105, 48, 107, 48, 107, 49]⟩, .slice A 2 c, .slice B 2 d] w (MatchRet w ⟨#[105, 48, 107, 48, 107, 49]⟩ [k0, k1] [r0, r1]) := by
  refine calls_run (args := [.v (.string ⟨#[105, 48, 107, 48, 107, 49]⟩), .g 1000 A 2 c, .g 1001 B 2 d]) (hp := [(1000, .ints A c .i64 [k0, k1]), (1001, .ints B d .i64 [r0, r1])]) (nx := 1002) (n := 2000) (U := [(4, 7), (1000000, 18)]) (V := []) (T := lookT tiM) (G := gnil)
    (post := fun s xs => xs = [.v (.int .i64 (matchM ⟨#[105, 48, 107, 48, 107, 49]⟩ [k0, k1] [r0, r1]).kind), .v (.int .i64 (matchM ⟨#[105, 48, 107, 48, 107, 49]⟩ [k0, k1] [r0, r1]).rank), .v (.bool (matchM ⟨#[105, 48, 107, 48, 107, 49]⟩ [k0, k1] [r0, r1]).fst), .v (.bool (matchM ⟨#[105, 48, 107, 48, 107, 49]⟩ [k0, k1] [r0, r1]).snd)])
    followP tiM_ok gOk_nil Tryz.func63 rfl (by kernel_rfl) (by show 3 ≤ 135; decide) (hh_args [.ints A c .i64 [k0, k1], .ints B d .i64 [r0, r1]] 1000 (by simp [ha, hb]) (by simp [mutb])) (fun k hk => keyed_free (l := [.ints A c .i64 [k0, k1], .ints B d .i64 [r0, r1]]) hk) ?_ ?_
  · rintro s xs w' rfl H
    exact ⟨rfl, H.below⟩
  rw [Tryz.results63]
  simp (maxSteps := 10000000) only [En.E, En.evsC, List.map_cons, List.map_nil, Nat.reduceBEq, Nat.reduceAdd, Nat.reduceMul, Nat.reduceEqDiff, Nat.reduceLeDiff, Nat.reduceLT, ne_eq, reduceCtorEq, Int.reduceBEq, Int.reduceBNe, Int.reduceAdd, Int.reduceSub, Int.reduceMul, Int.reduceTDiv, Int.reduceTMod, Int.reduceNeg, En.bitN, Nat.testBit, Nat.reduceShiftRight, Nat.reduceShiftLeft, Nat.reduceAnd, Nat.reduceOr, Nat.reduceBNe, Int.reduceToNat, Nat.reduceSub, Int.reduceLE, Int.reduceLT, tiM, it20]
  simp only [inr, lo, hi]
  repeat' refine And.intro ?_ ?_
  all_goals first | (simp; done) | (intro _; simp; done) | rfl | (intro h; refine ⟨h, ?_⟩; simp_all; done) | (intro h; simp_all; done) | (intro h; simp_all; omega)
theorem it21 {nx : Nat} : rngR nx (.v (.string ⟨#[105, 49, 107, 49, 107, 50]⟩)) = .new True fun b => (.p nx b 0, [(nx, .iter b ⟨#[105, 49, 107, 49, 107, 50]⟩ [(0, 105), (1, 49), (2, 107), (3, 49), (4, 107), (5, 50)])]) :=
  rng_lit (by kernel_rfl) ⟨rfl, by decide, rfl, ⟨rfl, by decide, rfl, ⟨rfl, by decide, rfl, ⟨rfl, by decide, rfl, ⟨rfl, by decide, rfl, ⟨rfl, by decide, rfl, Nat.le_refl _⟩⟩⟩⟩⟩⟩
set_option maxRecDepth 100000 in
set_option maxHeartbeats 8000000 in
theorem match21 (k0 r0 k1 r1 : Int) (A B : Option Addr) (c d : Nat) (w : World) (ha : Hold w.heap.size w (.ints A c .i64 [k0, k1])) (hb : Hold w.heap.size w (.ints B d .i64 [r0, r1])) :
    Calls Tryz.prog 63 #[.string ⟨#[105, 49, 107, 49, 107, 50]⟩, .slice A 2 c, .slice B 2 d] w (MatchRet w ⟨#[105, 49, 107, 49, 107, 50]⟩ [k0, k1] [r0, r1]) := by
  refine calls_run (args := [.v (.string ⟨#[105, 49, 107, 49, 107, 50]⟩), .g 1000 A 2 c, .g 1001 B 2 d]) (hp := [(1000, .ints A c .i64 [k0, k1]), (1001, .ints B d .i64 [r0, r1])]) (nx := 1002) (n := 2000) (U := [(4, 7), (1000000, 18)]) (V := []) (T := lookT tiM) (G := gnil)
    (post := fun s xs => xs = [.v (.int .i64 (matchM ⟨#[105, 49, 107, 49, 107, 50]⟩ [k0, k1] [r0, r1]).kind), .v (.int .i64 (matchM ⟨#[105, 49, 107, 49, 107, 50]⟩ [k0, k1] [r0, r1]).rank), .v (.bool (matchM ⟨#[105, 49, 107, 49, 107, 50]⟩ [k0, k1] [r0, r1]).fst), .v (.bool (matchM ⟨#[105, 49, 107, 49, 107, 50]⟩ [k0, k1] [r0, r1]).snd)])
    followP tiM_ok gOk_nil Tryz.func63 rfl (by kernel_rfl) (by show 3 ≤ 135; decide) (hh_args [.ints A c .i64 [k0, k1], .ints B d .i64 [r0, r1]] 1000 (by simp [ha, hb]) (by simp [mutb])) (fun k hk => keyed_free (l := [.ints A c .i64 [k0, k1], .ints B d .i64 [r0, r1]]) hk) ?_ ?_
  · rintro s xs w' rfl H
    exact ⟨rfl, H.below⟩
  rw [Tryz.results63]
  simp (maxSteps := 10000000) only [En.E, En.evsC, List.map_cons, List.map_nil, Nat.reduceBEq, Nat.reduceAdd, Nat.reduceMul, Nat.reduceEqDiff, Nat.reduceLeDiff, Nat.reduceLT, ne_eq, reduceCtorEq, Int.reduceBEq, Int.reduceBNe, Int.reduceAdd, Int.reduceSub, Int.reduceMul, Int.reduceTDiv, Int.reduceTMod, Int.reduceNeg, En.bitN, Nat.testBit, Nat.reduceShiftRight, Nat.reduceShiftLeft, Nat.reduceAnd, Nat.reduceOr, Nat.reduceBNe, Int.reduceToNat, Nat.reduceSub, Int.reduceLE, Int.reduceLT, tiM, it21]
  simp only [inr, lo, hi]
  repeat' refine And.intro ?_ ?_
  all_goals first | (simp; done) | (intro _; simp; done) | rfl | (intro h; refine ⟨h, ?_⟩; simp_all; done) | (intro h; simp_all; done) | (intro h; simp_all; omega)
theorem it22 {nx : Nat} : rngR nx (.v (.string ⟨#[107, 49, 107, 49, 107, 49]⟩)) = .new True fun b => (.p nx b 0, [(nx, .iter b ⟨#[107, 49, 107, 49, 107, 49]⟩ [(0, 107), (1, 49), (2, 107), (3, 49), (4, 107), (5, 49)])]) :=
  rng_lit (by kernel_rfl) ⟨rfl, by decide, rfl, ⟨rfl, by decide, rfl, ⟨rfl, by decide, rfl, ⟨rfl, by decide, rfl, ⟨rfl, by decide, rfl, ⟨rfl, by decide, rfl, Nat.le_refl _⟩⟩⟩⟩⟩⟩
set_option maxRecDepth 100000 in
set_option maxHeartbeats 8000000 in
theorem match22 (k0 r0 k1 r1 : Int) (A B : Option Addr) (c d : Nat) (w : World) (ha : Hold w.heap.size w (.ints A c .i64 [k0, k1])) (hb : Hold w.heap.size w (.ints B d .i64 [r0, r1])) :
    Calls Tryz.prog 63 #[.string ⟨#[107, 49, 107, 49, 107, 49]⟩, .slice A 2 c, .slice B 2 d] w (MatchRet w ⟨#[107, 49, 107, 49, 107, 49]⟩ [k0, k1] [r0, r1]) := by
  refine calls_run (args := [.v (.string ⟨#[107, 49, 107, 49, 107, 49]⟩), .g 1000 A 2 c, .g 1001 B 2 d]) (hp := [(1000, .ints A c .i64 [k0, k1]), (1001, .ints B d .i64 [r0, r1])]) (nx := 1002) (n := 2000) (U := [(4, 7), (1000000, 18)]) (V := []) (T := lookT tiM) (G := gnil)
    (post := fun s xs => xs = [.v (.int .i64 (matchM ⟨#[107, 49, 107, 49, 107, 49]⟩ [k0, k1] [r0, r1]).kind), .v (.int .i64 (matchM ⟨#[107, 49, 107, 49, 107, 49]⟩ [k0, k1] [r0, r1]).rank), .v (.bool (matchM ⟨#[107, 49, 107, 49, 107, 49]⟩ [k0, k1] [r0, r1]).fst), .v (.bool (matchM ⟨#[107, 49, 107, 49, 107, 49]⟩ [k0, k1] [r0, r1]).snd)])
    followP tiM_ok gOk_nil Tryz.func63 rfl (by kernel_rfl) (by show 3 ≤ 135; decide) (hh_args [.ints A c .i64 [k0, k1], .ints B d .i64 [r0, r1]] 1000 (by simp [ha, hb]) (by simp [mutb])) (fun k hk => keyed_free (l := [.ints A c .i64 [k0, k1], .ints B d .i64 [r0, r1]]) hk) ?_ ?_
  · rintro s xs w' rfl H
    exact ⟨rfl, H.below⟩
  rw [Tryz.results63]
  simp (maxSteps := 10000000) only [En.E, En.evsC, List.map_cons, List.map_nil, Nat.reduceBEq, Nat.reduceAdd, Nat.reduceMul, Nat.reduceEqDiff, Nat.reduceLeDiff, Nat.reduceLT, ne_eq, reduceCtorEq, Int.reduceBEq, Int.reduceBNe, Int.reduceAdd, Int.reduceSub, Int.reduceMul, Int.reduceTDiv, Int.reduceTMod, Int.reduceNeg, En.bitN, Nat.testBit, Nat.reduceShiftRight, Nat.reduceShiftLeft, Nat.reduceAnd, Nat.reduceOr, Nat.reduceBNe, Int.reduceToNat, Nat.reduceSub, Int.reduceLE, Int.reduceLT, tiM, it22]
  simp only [inr, lo, hi]
  repeat' refine And.intro ?_ ?_
  all_goals first | (simp; done) | (intro _; simp; done) | rfl | (intro h; refine ⟨h, ?_⟩; simp_all; done) | (intro h; simp_all; done) | (intro h; simp_all; omega)
theorem it23 {nx : Nat} : rngR nx (.v (.string ⟨#[107, 50, 107, 50, 107, 50]⟩)) = .new True fun b => (.p nx b 0, [(nx, .iter b ⟨#[107, 50, 107, 50, 107, 50]⟩ [(0, 107), (1, 50), (2, 107), (3, 50), (4, 107), (5, 50)])]) :=
  rng_lit (by kernel_rfl) ⟨rfl, by decide, rfl, ⟨rfl, by decide, rfl, ⟨rfl, by decide, rfl, ⟨rfl, by decide, rfl, ⟨rfl, by decide, rfl, ⟨rfl, by decide, rfl, Nat.le_refl _⟩⟩⟩⟩⟩⟩
set_option maxRecDepth 100000 in
set_option maxHeartbeats 8000000 in
theorem match23 (k0 r0 k1 r1 : Int) (A B : Option Addr) (c d : Nat) (w : World) (ha : Hold w.heap.size w (.ints A c .i64 [k0, k1])) (hb : Hold w.heap.size w (.ints B d .i64 [r0, r1])) :
    Calls Tryz.prog 63 #[.string ⟨#[107, 50, 107, 50, 107, 50]⟩, .slice A 2 c, .slice B 2 d] w (MatchRet w ⟨#[107, 50, 107, 50, 107, 50]⟩ [k0, k1] [r0, r1]) := by
  refine calls_run (args := [.v (.string ⟨#[107, 50, 107, 50, 107, 50]⟩), .g 1000 A 2 c, .g 1001 B 2 d]) (hp := [(1000, .ints A c .i64 [k0, k1]), (1001, .ints B d .i64 [r0, r1])]) (nx := 1002) (n := 2000) (U := [(4, 7), (1000000, 18)]) (V := []) (T := lookT tiM) (G := gnil)
    (post := fun s xs => xs = [.v (.int .i64 (matchM ⟨#[107, 50, 107, 50, 107, 50]⟩ [k0, k1] [r0, r1]).kind), .v (.int .i64 (matchM ⟨#[107, 50, 107, 50, 107, 50]⟩ [k0, k1] [r0, r1]).rank), .v (.bool (matchM ⟨#[107, 50, 107, 50, 107, 50]⟩ [k0, k1] [r0, r1]).fst), .v (.bool (matchM ⟨#[107, 50, 107, 50, 107, 50]⟩ [k0, k1] [r0, r1]).snd)])
    followP tiM_ok gOk_nil Tryz.func63 rfl (by kernel_rfl) (by show 3 ≤ 135; decide) (hh_args [.ints A c .i64 [k0, k1], .ints B d .i64 [r0, r1]] 1000 (by simp [ha, hb]) (by simp [mutb])) (fun k hk => keyed_free (l := [.ints A c .i64 [k0, k1], .ints B d .i64 [r0, r1]]) hk) ?_ ?_
  · rintro s xs w' rfl H
    exact ⟨rfl, H.below⟩
  rw [Tryz.results63]
  simp (maxSteps := 10000000) only [En.E, En.evsC, List.map_cons, List.map_nil, Nat.reduceBEq, Nat.reduceAdd, Nat.reduceMul, Nat.reduceEqDiff, Nat.reduceLeDiff, Nat.reduceLT, ne_eq, reduceCtorEq, Int.reduceBEq, Int.reduceBNe, Int.reduceAdd, Int.reduceSub, Int.reduceMul, Int.reduceTDiv, Int.reduceTMod, Int.reduceNeg, En.bitN, Nat.testBit, Nat.reduceShiftRight, Nat.reduceShiftLeft, Nat.reduceAnd, Nat.reduceOr, Nat.reduceBNe, Int.reduceToNat, Nat.reduceSub, Int.reduceLE, Int.reduceLT, tiM, it23]
  simp only [inr, lo, hi]
  repeat' refine And.intro ?_ ?_
  all_goals first | (simp; done) | (intro _; simp; done) | rfl | (intro h; refine ⟨h, ?_⟩; simp_all; done) | (intro h; simp_all; done) | (intro h; simp_all; omega)
theorem it24 {nx : Nat} : rngR nx (.v (.string ⟨#[107, 49, 105, 48, 107, 48]⟩)) = .new True fun b => (.p nx b 0, [(nx, .iter b ⟨#[107, 49, 105, 48, 107, 48]⟩ [(0, 107), (1, 49), (2, 105), (3, 48), (4, 107), (5, 48)])]) :=
  rng_lit (by kernel_rfl) ⟨rfl, by decide, rfl, ⟨rfl, by decide, rfl, ⟨rfl, by decide, rfl, ⟨rfl, by decide, rfl, ⟨rfl, by decide, rfl, ⟨rfl, by decide, rfl, Nat.le_refl _⟩⟩⟩⟩⟩⟩
set_option maxRecDepth 100000 in
set_option maxHeartbeats 8000000 in
theorem match24 (k0 r0 k1 r1 : Int) (A B : Option Addr) (c d : Nat) (w : World) (ha : Hold w.heap.size w (.ints A c .i64 [k0, k1])) (hb : Hold w.heap.size w (.ints B d .i64 [r0, r1])) :
    Calls Tryz.prog 63 #[.string ⟨#[107, 49, 105, 48, 107, 48]⟩, .slice A 2 c, .slice B 2 d] w (MatchRet w ⟨#[107, 49, 105, 48, 107, 48]⟩ [k0, k1] [r0, r1]) := by
  refine calls_run (args := [.v (.string ⟨#[107, 49, 105, 48, 107, 48]⟩), .g 1000 A 2 c, .g 1001 B 2 d]) (hp := [(1000, .ints A c .i64 [k0, k1]), (1001, .ints B d .i64 [r0, r1])]) (nx := 1002) (n := 2000) (U := [(4, 7), (1000000, 18)]) (V := []) (T := lookT tiM) (G := gnil)
    (post := fun s xs => xs = [.v (.int .i64 (matchM ⟨#[107, 49, 105, 48, 107, 48]⟩ [k0, k1] [r0, r1]).kind), .v (.int .i64 (matchM ⟨#[107, 49, 105, 48, 107, 48]⟩ [k0, k1] [r0, r1]).rank), .v (.bool (matchM ⟨#[107, 49, 105, 48, 107, 48]⟩ [k0, k1] [r0, r1]).fst), .v (.bool (matchM ⟨#[107, 49, 105, 48, 107, 48]⟩ [k0, k1] [r0, r1]).snd)])
    followP tiM_ok gOk_nil Tryz.func63 rfl (by kernel_rfl) (by show 3 ≤ 135; decide) (hh_args [.ints A c .i64 [k0, k1], .ints B d .i64 [r0, r1]] 1000 (by simp [ha, hb]) (by simp [mutb])) (fun k hk => keyed_free (l := [.ints A c .i64 [k0, k1], .ints B d .i64 [r0, r1]]) hk) ?_ ?_
  · rintro s xs w' rfl H
    exact ⟨rfl, H.below⟩
  rw [Tryz.results63]
  simp (maxSteps := 10000000) only [En.E, En.evsC, List.map_cons, List.map_nil, Nat.reduceBEq, Nat.reduceAdd, Nat.reduceMul, Nat.reduceEqDiff, Nat.reduceLeDiff, Nat.reduceLT, ne_eq, reduceCtorEq, Int.reduceBEq, Int.reduceBNe, Int.reduceAdd, Int.reduceSub, Int.reduceMul, Int.reduceTDiv, Int.reduceTMod, Int.reduceNeg, En.bitN, Nat.testBit, Nat.reduceShiftRight, Nat.reduceShiftLeft, Nat.reduceAnd, Nat.reduceOr, Nat.reduceBNe, Int.reduceToNat, Nat.reduceSub, Int.reduceLE, Int.reduceLT, tiM, it24]
  simp only [inr, lo, hi]
  repeat' refine And.intro ?_ ?_
  all_goals first | (simp; done) | (intro _; simp; done) | rfl | (intro h; refine ⟨h, ?_⟩; simp_all; done) | (intro h; simp_all; done) | (intro h; simp_all; omega)
theorem it25 {nx : Nat} : rngR nx (.v (.string ⟨#[107, 49, 105, 49, 107, 49]⟩)) = .new True fun b => (.p nx b 0, [(nx, .iter b ⟨#[107, 49, 105, 49, 107, 49]⟩ [(0, 107), (1, 49), (2, 105), (3, 49), (4, 107), (5, 49)])]) :=
  rng_lit (by kernel_rfl) ⟨rfl, by decide, rfl, ⟨rfl, by decide, rfl, ⟨rfl, by decide, rfl, ⟨rfl, by decide, rfl, ⟨rfl, by decide, rfl, ⟨rfl, by decide, rfl, Nat.le_refl _⟩⟩⟩⟩⟩⟩
set_option maxRecDepth 100000 in
set_option maxHeartbeats 8000000 in
theorem match25 (k0 r0 k1 r1 : Int) (A B : Option Addr) (c d : Nat) (w : World) (ha : Hold w.heap.size w (.ints A c .i64 [k0, k1])) (hb : Hold w.heap.size w (.ints B d .i64 [r0, r1])) :
    Calls Tryz.prog 63 #[.string ⟨#[107, 49, 105, 49, 107, 49]⟩, .slice A 2 c, .slice B 2 d] w (MatchRet w ⟨#[107, 49, 105, 49, 107, 49]⟩ [k0, k1] [r0, r1]) := by
  refine calls_run (args := [.v (.string ⟨#[107, 49, 105, 49, 107, 49]⟩), .g 1000 A 2 c, .g 1001 B 2 d]) (hp := [(1000, .ints A c .i64 [k0, k1]), (1001, .ints B d .i64 [r0, r1])]) (nx := 1002) (n := 2000) (U := [(4, 7), (1000000, 18)]) (V := []) (T := lookT tiM) (G := gnil)
    (post := fun s xs => xs = [.v (.int .i64 (matchM ⟨#[107, 49, 105, 49, 107, 49]⟩ [k0, k1] [r0, r1]).kind), .v (.int .i64 (matchM ⟨#[107, 49, 105, 49, 107, 49]⟩ [k0, k1] [r0, r1]).rank), .v (.bool (matchM ⟨#[107, 49, 105, 49, 107, 49]⟩ [k0, k1] [r0, r1]).fst), .v (.bool (matchM ⟨#[107, 49, 105, 49, 107, 49]⟩ [k0, k1] [r0, r1]).snd)])
    followP tiM_ok gOk_nil Tryz.func63 rfl (by kernel_rfl) (by show 3 ≤ 135; decide) (hh_args [.ints A c .i64 [k0, k1], .ints B d .i64 [r0, r1]] 1000 (by simp [ha, hb]) (by simp [mutb])) (fun k hk => keyed_free (l := [.ints A c .i64 [k0, k1], .ints B d .i64 [r0, r1]]) hk) ?_ ?_
  · rintro s xs w' rfl H
    exact ⟨rfl, H.below⟩
  rw [Tryz.results63]
  simp (maxSteps := 10000000) only [En.E, En.evsC, List.map_cons, List.map_nil, Nat.reduceBEq, Nat.reduceAdd, Nat.reduceMul, Nat.reduceEqDiff, Nat.reduceLeDiff, Nat.reduceLT, ne_eq, reduceCtorEq, Int.reduceBEq, Int.reduceBNe, Int.reduceAdd, Int.reduceSub, Int.reduceMul, Int.reduceTDiv, Int.reduceTMod, Int.reduceNeg, En.bitN, Nat.testBit, Nat.reduceShiftRight, Nat.reduceShiftLeft, Nat.reduceAnd, Nat.reduceOr, Nat.reduceBNe, Int.reduceToNat, Nat.reduceSub, Int.reduceLE, Int.reduceLT, tiM, it25]
  simp only [inr, lo, hi]
  repeat' refine And.intro ?_ ?_
  all_goals first | (simp; done) | (intro _; simp; done) | rfl | (intro h; refine ⟨h, ?_⟩; simp_all; done) | (intro h; simp_all; done) | (intro h; simp_all; omega)
theorem it26 {nx : Nat} : rngR nx (.v (.string ⟨#[107, 110, 107, 49, 105, 110]⟩)) = .new True fun b => (.p nx b 0, [(nx, .iter b ⟨#[107, 110, 107, 49, 105, 110]⟩ [(0, 107), (1, 110), (2, 107), (3, 49), (4, 105), (5, 110)])]) :=
  rng_lit (by kernel_rfl) ⟨rfl, by decide, rfl, ⟨rfl, by decide, rfl, ⟨rfl, by decide, rfl, ⟨rfl, by decide, rfl, ⟨rfl, by decide, rfl, ⟨rfl, by decide, rfl, Nat.le_refl _⟩⟩⟩⟩⟩⟩
set_option maxRecDepth 100000 in
set_option maxHeartbeats 8000000 in
theorem match26 (k0 r0 k1 r1 : Int) (A B : Option Addr) (c d : Nat) (w : World) (ha : Hold w.heap.size w (.ints A c .i64 [k0, k1])) (hb : Hold w.heap.size w (.ints B d .i64 [r0, r1])) :
    Calls Tryz.prog 63 #[.string ⟨#[107, 110, 107, 49, 105, 110]⟩, .slice A 2 c, .slice B 2 d] w (MatchRet w ⟨#[107, 110, 107, 49, 105, 110]⟩ [k0, k1] [r0, r1]) := by
  refine calls_run (args := [.v (.string ⟨#[107, 110, 107, 49, 105, 110]⟩), .g 1000 A 2 c, .g 1001 B 2 d]) (hp := [(1000, .ints A c .i64 [k0, k1]), (1001, .ints B d .i64 [r0, r1])]) (nx := 1002) (n := 2000) (U := [(4, 7), (1000000, 18)]) (V := []) (T := lookT tiM) (G := gnil)
    (post := fun s xs => xs = [.v (.int .i64 (matchM ⟨#[107, 110, 107, 49, 105, 110]⟩ [k0, k1] [r0, r1]).kind), .v (.int .i64 (matchM ⟨#[107, 110, 107, 49, 105, 110]⟩ [k0, k1] [r0, r1]).rank), .v (.bool (matchM ⟨#[107, 110, 107, 49, 105, 110]⟩ [k0, k1] [r0, r1]).fst), .v (.bool (matchM ⟨#[107, 110, 107, 49, 105, 110]⟩ [k0, k1] [r0, r1]).snd)])
    followP tiM_ok gOk_nil Tryz.func63 rfl (by kernel_rfl) (by show 3 ≤ 135; decide) (hh_args [.ints A c .i64 [k0, k1], .ints B d .i64 [r0, r1]] 1000 (by simp [ha, hb]) (by simp [mutb])) (fun k hk => keyed_free (l := [.ints A c .i64 [k0, k1], .ints B d .i64 [r0, r1]]) hk) ?_ ?_
  · rintro s xs w' rfl H
    exact ⟨rfl, H.below⟩
  rw [Tryz.results63]
  simp (maxSteps := 10000000) only [En.E, En.evsC, List.map_cons, List.map_nil, Nat.reduceBEq, Nat.reduceAdd, Nat.reduceMul, Nat.reduceEqDiff, Nat.reduceLeDiff, Nat.reduceLT, ne_eq, reduceCtorEq, Int.reduceBEq, Int.reduceBNe, Int.reduceAdd, Int.reduceSub, Int.reduceMul, Int.reduceTDiv, Int.reduceTMod, Int.reduceNeg, En.bitN, Nat.testBit, Nat.reduceShiftRight, Nat.reduceShiftLeft, Nat.reduceAnd, Nat.reduceOr, Nat.reduceBNe, Int.reduceToNat, Nat.reduceSub, Int.reduceLE, Int.reduceLT, tiM, it26]
  simp only [inr, lo, hi]
  repeat' refine And.intro ?_ ?_
  all_goals first | (simp; done) | (intro _; simp; done) | rfl | (intro h; refine ⟨h, ?_⟩; simp_all; done) | (intro h; simp_all; done) | (intro h; simp_all; omega)
theorem it27 {nx : Nat} : rngR nx (.v (.string ⟨#[105, 49, 107, 49, 107, 49]⟩)) = .new True fun b => (.p nx b 0, [(nx, .iter b ⟨#[105, 49, 107, 49, 107, 49]⟩ [(0, 105), (1, 49), (2, 107), (3, 49), (4, 107), (5, 49)])]) :=
  rng_lit (by kernel_rfl) ⟨rfl, by decide, rfl, ⟨rfl, by decide, rfl, ⟨rfl, by decide, rfl, ⟨rfl, by decide, rfl, ⟨rfl, by decide, rfl, ⟨rfl, by decide, rfl, Nat.le_refl _⟩⟩⟩⟩⟩⟩
set_option maxRecDepth 100000 in
set_option maxHeartbeats 8000000 in
theorem match27 (k0 r0 k1 r1 : Int) (A B : Option Addr) (c d : Nat) (w : World) (ha : Hold w.heap.size w (.ints A c .i64 [k0, k1])) (hb : Hold w.heap.size w (.ints B d .i64 [r0, r1])) :
    Calls Tryz.prog 63 #[.string ⟨#[105, 49, 107, 49, 107, 49]⟩, .slice A 2 c, .slice B 2 d] w (MatchRet w ⟨#[105, 49, 107, 49, 107, 49]⟩ [k0, k1] [r0, r1]) := by
  refine calls_run (args := [.v (.string ⟨#[105, 49, 107, 49, 107, 49]⟩), .g 1000 A 2 c, .g 1001 B 2 d]) (hp := [(1000, .ints A c .i64 [k0, k1]), (1001, .ints B d .i64 [r0, r1])]) (nx := 1002) (n := 2000) (U := [(4, 7), (1000000, 18)]) (V := []) (T := lookT tiM) (G := gnil)
    (post := fun s xs => xs = [.v (.int .i64 (matchM ⟨#[105, 49, 107, 49, 107, 49]⟩ [k0, k1] [r0, r1]).kind), .v (.int .i64 (matchM ⟨#[105, 49, 107, 49, 107, 49]⟩ [k0, k1] [r0, r1]).rank), .v (.bool (matchM ⟨#[105, 49, 107, 49, 107, 49]⟩ [k0, k1] [r0, r1]).fst), .v (.bool (matchM ⟨#[105, 49, 107, 49, 107, 49]⟩ [k0, k1] [r0, r1]).snd)])
    followP tiM_ok gOk_nil Tryz.func63 rfl (by kernel_rfl) (by show 3 ≤ 135; decide) (hh_args [.ints A c .i64 [k0, k1], .ints B d .i64 [r0, r1]] 1000 (by simp [ha, hb]) (by simp [mutb])) (fun k hk => keyed_free (l := [.ints A c .i64 [k0, k1], .ints B d .i64 [r0, r1]]) hk) ?_ ?_
  · rintro s xs w' rfl H
    exact ⟨rfl, H.below⟩
  rw [Tryz.results63]
  simp (maxSteps := 10000000) only [En.E, En.evsC, List.map_cons, List.map_nil, Nat.reduceBEq, Nat.reduceAdd, Nat.reduceMul, Nat.reduceEqDiff, Nat.reduceLeDiff, Nat.reduceLT, ne_eq, reduceCtorEq, Int.reduceBEq, Int.reduceBNe, Int.reduceAdd, Int.reduceSub, Int.reduceMul, Int.reduceTDiv, Int.reduceTMod, Int.reduceNeg, En.bitN, Nat.testBit, Nat.reduceShiftRight, Nat.reduceShiftLeft, Nat.reduceAnd, Nat.reduceOr, Nat.reduceBNe, Int.reduceToNat, Nat.reduceSub, Int.reduceLE, Int.reduceLT, tiM, it27]
  simp only [inr, lo, hi]
  repeat' refine And.intro ?_ ?_
  all_goals first | (simp; done) | (intro _; simp; done) | rfl | (intro h; refine ⟨h, ?_⟩; simp_all; done) | (intro h; simp_all; done) | (intro h; simp_all; omega)
def arl (s : ByteArray) : Nat := s.size / 2 - 1
theorem match_any (s : ByteArray) (hs : s ∈ allLines) (ks rs : List Int) (hk : ks.length = arl s) (hr : rs.length = arl s) (A B : Option Addr) (c d : Nat) (w : World) (ha : Hold w.heap.size w (.ints A c .i64 ks)) (hb : Hold w.heap.size w (.ints B d .i64 rs)) :
    Calls Tryz.prog 63 #[.string s, .slice A ks.length c, .slice B rs.length d] w (MatchRet w s ks rs) := by
  have one : ∀ {l : List Int}, l.length = 1 → ∃ x, l = [x] := fun {l} h => by
    match l, h with
    | [x], _ => exact ⟨x, rfl⟩
  have two : ∀ {l : List Int}, l.length = 2 → ∃ x y, l = [x, y] := fun {l} h => by
    match l, h with
    | [x, y], _ => exact ⟨x, y, rfl⟩
  simp only [allLines, List.mem_cons, List.not_mem_nil, or_false] at hs
  rcases hs with rfl | rfl | rfl | rfl | rfl | rfl | rfl | rfl | rfl | rfl | rfl | rfl | rfl | rfl | rfl | rfl | rfl | rfl | rfl | rfl | rfl | rfl | rfl | rfl | rfl | rfl | rfl
  · obtain ⟨k0, rfl⟩ := one hk; obtain ⟨r0, rfl⟩ := one hr; exact match1 k0 r0 A B c d w ha hb
  · obtain ⟨k0, rfl⟩ := one hk; obtain ⟨r0, rfl⟩ := one hr; exact match2 k0 r0 A B c d w ha hb
  · obtain ⟨k0, rfl⟩ := one hk; obtain ⟨r0, rfl⟩ := one hr; exact match3 k0 r0 A B c d w ha hb
  · obtain ⟨k0, rfl⟩ := one hk; obtain ⟨r0, rfl⟩ := one hr; exact match4 k0 r0 A B c d w ha hb
  · obtain ⟨k0, rfl⟩ := one hk; obtain ⟨r0, rfl⟩ := one hr; exact match5 k0 r0 A B c d w ha hb
  · obtain ⟨k0, rfl⟩ := one hk; obtain ⟨r0, rfl⟩ := one hr; exact match6 k0 r0 A B c d w ha hb
  · obtain ⟨k0, rfl⟩ := one hk; obtain ⟨r0, rfl⟩ := one hr; exact match7 k0 r0 A B c d w ha hb
  · obtain ⟨k0, rfl⟩ := one hk; obtain ⟨r0, rfl⟩ := one hr; exact match8 k0 r0 A B c d w ha hb
  · obtain ⟨k0, rfl⟩ := one hk; obtain ⟨r0, rfl⟩ := one hr; exact match9 k0 r0 A B c d w ha hb
  · obtain ⟨k0, rfl⟩ := one hk; obtain ⟨r0, rfl⟩ := one hr; exact match10 k0 r0 A B c d w ha hb
  · obtain ⟨k0, rfl⟩ := one hk; obtain ⟨r0, rfl⟩ := one hr; exact match11 k0 r0 A B c d w ha hb
  · obtain ⟨k0, rfl⟩ := one hk; obtain ⟨r0, rfl⟩ := one hr; exact match12 k0 r0 A B c d w ha hb
  · obtain ⟨k0, k1, rfl⟩ := two hk; obtain ⟨r0, r1, rfl⟩ := two hr; exact match13 k0 r0 k1 r1 A B c d w ha hb
  · obtain ⟨k0, k1, rfl⟩ := two hk; obtain ⟨r0, r1, rfl⟩ := two hr; exact match14 k0 r0 k1 r1 A B c d w ha hb
  · obtain ⟨k0, k1, rfl⟩ := two hk; obtain ⟨r0, r1, rfl⟩ := two hr; exact match15 k0 r0 k1 r1 A B c d w ha hb
  · obtain ⟨k0, k1, rfl⟩ := two hk; obtain ⟨r0, r1, rfl⟩ := two hr; exact match16 k0 r0 k1 r1 A B c d w ha hb
  · obtain ⟨k0, k1, rfl⟩ := two hk; obtain ⟨r0, r1, rfl⟩ := two hr; exact match17 k0 r0 k1 r1 A B c d w ha hb
  · obtain ⟨k0, k1, rfl⟩ := two hk; obtain ⟨r0, r1, rfl⟩ := two hr; exact match18 k0 r0 k1 r1 A B c d w ha hb
  · obtain ⟨k0, k1, rfl⟩ := two hk; obtain ⟨r0, r1, rfl⟩ := two hr; exact match19 k0 r0 k1 r1 A B c d w ha hb
  · obtain ⟨k0, k1, rfl⟩ := two hk; obtain ⟨r0, r1, rfl⟩ := two hr; exact match20 k0 r0 k1 r1 A B c d w ha hb
  · obtain ⟨k0, k1, rfl⟩ := two hk; obtain ⟨r0, r1, rfl⟩ := two hr; exact match21 k0 r0 k1 r1 A B c d w ha hb
  · obtain ⟨k0, k1, rfl⟩ := two hk; obtain ⟨r0, r1, rfl⟩ := two hr; exact match22 k0 r0 k1 r1 A B c d w ha hb
  · obtain ⟨k0, k1, rfl⟩ := two hk; obtain ⟨r0, r1, rfl⟩ := two hr; exact match23 k0 r0 k1 r1 A B c d w ha hb
  · obtain ⟨k0, k1, rfl⟩ := two hk; obtain ⟨r0, r1, rfl⟩ := two hr; exact match24 k0 r0 k1 r1 A B c d w ha hb
  · obtain ⟨k0, k1, rfl⟩ := two hk; obtain ⟨r0, r1, rfl⟩ := two hr; exact match25 k0 r0 k1 r1 A B c d w ha hb
  · obtain ⟨k0, k1, rfl⟩ := two hk; obtain ⟨r0, r1, rfl⟩ := two hr; exact match26 k0 r0 k1 r1 A B c d w ha hb
  · obtain ⟨k0, k1, rfl⟩ := two hk; obtain ⟨r0, r1, rfl⟩ := two hr; exact match27 k0 r0 k1 r1 A B c d w ha hb
end Pr
end Go.Proofs.YtnpkmimbnjnicaaGreatDoor
