/-
The contracts of FoldsFlat's walk (chapter 11), for the engine.
-/
import Derived.Test.YtfpnafeildigaaaFfA
import Derived.Test.YtfpnafeildigaaaBd1
set_option linter.unusedSimpArgs false
set_option linter.unusedVariables false
namespace Go.Proofs.Ytfpnafeildigaaa
namespace Ar
open Go.RowKit Sc
open En
def spFlip : Spc
  | [x], H, nx => ret2 nx ((getA H x).1 ∧ chk (getA H x).2 = 0) (extFlip (getA H x).2)
  | _, _, _ => .bad
def spRavel : Spc
  | [x], H, nx => ret2 nx ((getA H x).1 ∧ Fine (getA H x).2) (extRavel (getA H x).2)
  | _, _, _ => .bad
def spSame : Spc
  | [x, y], H, _ => .is ((getA H x).1 ∧ (getA H y).1 ∧ (getA H x).2.xs.length ≤ 9223372036854775807 ∧ (getA H y).2.xs.length ≤ 9223372036854775807) (.v (.bool (same (getA H x).2 (getA H y).2)))
  | _, _, _ => .bad
theorem spFlip_q {x : SV} {H : Nat → Ch} {nx : Nat} : spFlip [x] H nx = En.ret2 nx ((getA H x).1 ∧ chk (getA H x).2 = 0) (extFlip (getA H x).2) := rfl
theorem spRavel_q {x : SV} {H : Nat → Ch} {nx : Nat} : spRavel [x] H nx = En.ret2 nx ((getA H x).1 ∧ Fine (getA H x).2) (extRavel (getA H x).2) := rfl
theorem spSame_q {x y : SV} {H : Nat → Ch} {nx : Nat} : spSame [x, y] H nx = .is ((getA H x).1 ∧ (getA H y).1 ∧ (getA H x).2.xs.length ≤ 9223372036854775807 ∧ (getA H y).2.xs.length ≤ 9223372036854775807) (.v (.bool (same (getA H x).2 (getA H y).2))) := rfl
theorem spFlip_ok : SpecOk Try.prog 39 spFlip := by
  intro args hp nx w0 w H hv
  match args, hv with
  | [x], ⟨h1, h2⟩ =>
    obtain ⟨A, c, e, hs, hc⟩ := getA_ok H h1
    refine ret2_ok ?_
    simp only [dens, e]
    exact flip_go _ A c h2 rfl w hs
theorem spRavel_ok : SpecOk Try.prog 40 spRavel := by
  intro args hp nx w0 w H hv
  match args, hv with
  | [x], ⟨h1, h2⟩ =>
    obtain ⟨A, c, e, hs, hc⟩ := getA_ok H h1
    refine ret2_ok ?_
    simp only [dens, e]
    exact ravel_go _ A c ⟨h2.1, h2.2.1, h2.2.2.1⟩ rfl w hs
theorem spSame_ok : SpecOk Try.prog 35 spSame := by
  intro args hp nx w0 w H hv
  match args, hv with
  | [x, y], ⟨h1, h2, h3, h4⟩ =>
    obtain ⟨A, c, e, hs, hc⟩ := getA_ok H h1
    obtain ⟨B, d, e', ht, hd⟩ := getA_ok H h2
    refine bool_ok ?_
    simp only [dens, e, e', den]
    exact same_any _ _ A B c d h3 h4 w hs ht
def gamFlat : Gam :=
  gcons 52 spGood (gcons 41 spAwake (gcons 39 spFlip (gcons 40 spRavel (gcons 42 (spFold extSum) (gcons 46 (spFold (extEnd 31))
    (gcons 48 (spFold (extEnd 32)) (gcons 35 spSame gnil)))))))
theorem gamFlat_ok : GOk Try.prog gamFlat :=
  gOk_cons (by kernel_rfl) spGood_ok <| gOk_cons (by kernel_rfl) spAwake_ok <| gOk_cons (by kernel_rfl) spFlip_ok <| gOk_cons (by kernel_rfl) spRavel_ok <|
  gOk_cons (by kernel_rfl) (spFold_ok fun a A c ha hc w hs => fsum_go a A ha hc rfl w hs) <|
  gOk_cons (by kernel_rfl) (spFold_ok fun a A c ha hc w hs => fleast_go a A ha hc rfl w hs) <|
  gOk_cons (by kernel_rfl) (spFold_ok fun a A c ha hc w hs => fmost_go a A ha hc rfl w hs) <|
  gOk_cons (by kernel_rfl) spSame_ok gOk_nil
def tiFlat : List (TypeId × TI) :=
  [(25, ⟨true, true, 5, [.v (.int .i64 0), .v (.int .i64 0), .v (.int .i64 0), .v (.int .i64 0), .v (.slice none 0 0)], [(0, 1), (1, 1), (2, 2), (4, 1)], 0, 0, 0, 4, 0⟩),
   (58, ⟨true, true, 15, [.v (.int .i64 0), .v (.int .i64 0), .v (.int .i64 0), .v (.int .i64 0), .v (.slice none 0 0), .v (.int .i64 0), .v (.int .i64 0), .v (.int .i64 0), .v (.int .i64 0), .v (.slice none 0 0), .v (.int .i64 0), .v (.int .i64 0), .v (.int .i64 0), .v (.int .i64 0), .v (.slice none 0 0)], [], 25, 3, 56, 2, 5⟩),
   (59, ⟨true, true, 3, [.v (.int .i64 0), .v (.int .i64 0), .v (.int .i64 0)], [], 28, 3, 8, 2, 1⟩),
   (28, ⟨true, false, 1, [.v (.int .i64 0)], [], 0, 0, 0, 13, 0⟩),
   (4, ⟨true, false, 1, [.v (.bool false)], [], 0, 0, 0, 5, 0⟩),
   (3, ⟨true, false, 1, [.v (.int .i64 0)], [], 0, 0, 0, 13, 0⟩)]
theorem tiFlat_ok : TyAll Try.prog (lookT tiFlat) :=
  tyAll_cons (.mk' (by kernel_rfl) (by kernel_rfl) (by decide) (by decide) (by kernel_rfl) (by kernel_rfl)) <|
  tyAll_cons (.mk' (by kernel_rfl) (by kernel_rfl) (by decide) (by decide) (by kernel_rfl) (by kernel_rfl)) <|
  tyAll_cons (.mk' (by kernel_rfl) (by kernel_rfl) (by decide) (by decide) (by kernel_rfl) (by kernel_rfl)) <|
  tyAll_cons (.mk' (by kernel_rfl) (by kernel_rfl) (by decide) (by decide) (by kernel_rfl) (by kernel_rfl)) <|
  tyAll_cons (.mk' (by kernel_rfl) (by kernel_rfl) (by decide) (by decide) (by kernel_rfl) (by kernel_rfl)) <|
  tyAll_cons (.mk' (by kernel_rfl) (by kernel_rfl) (by decide) (by decide) (by kernel_rfl) (by kernel_rfl)) tyAll_nil
end Ar
end Go.Proofs.Ytfpnafeildigaaa
