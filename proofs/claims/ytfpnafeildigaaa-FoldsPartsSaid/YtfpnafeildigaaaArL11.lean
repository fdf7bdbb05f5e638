/-
The walk of ExtendParts (chapter 10).
-/
import Derived.Test.YtfpnafeildigaaaArL10
import Derived.Test.YtfpnafeildigaaaBb5
import Derived.Test.YtfpnafeildigaaaArLx
set_option linter.unusedSimpArgs false
set_option linter.unusedVariables false
namespace Go.Proofs.Ytfpnafeildigaaa
namespace Ar
open Go.RowKit Sc
theorem cat_go (a b : Arr) (A B : Option Addr) {c d : Nat} (ha : Hid (chk a = 0)) (hb : Hid (chk b = 0)) (hcA : Hid (a.xs.length ≤ c)) (hcB : Hid (b.xs.length ≤ d)) {er : Int} {R : Arr} (hE : Hid (extCat a b = (er, R))) (w : World) (hs : Sl w A a.xs) (ht : Sl w B b.xs) :
    Calls Try.prog 37 #[.agg #[.int .i64 a.k, .int .i64 a.r, .int .i64 a.l0, .int .i64 a.l1, .slice A a.xs.length c], .agg #[.int .i64 b.k, .int .i64 b.r, .int .i64 b.l0, .int .i64 b.l1, .slice B b.xs.length d]] w fun e w' => Below w.heap.size w w' ∧ ∃ (C : Option Addr) (n : Nat), e = .returned (.tuple #[.agg #[.int .i64 R.k, .int .i64 R.r, .int .i64 R.l0, .int .i64 R.l1, .slice C R.xs.length n], .int .i64 er]) ∧ Sl w' C R.xs ∧ (∀ g o, C = some ⟨g, o, none⟩ → w.heap.size ≤ g) ∧ R.xs.length ≤ n := by
  obtain ⟨h1, h2, h3⟩ := chk_fit ha.out
  obtain ⟨k1, k2, k3⟩ := chk_fit hb.out
  have h := cat_any a A c (by omega) h2 h3 b B d (by omega) k2 k3 hcA.out hcB.out w hs ht
  rw [hE.out] at h
  exact h
end Ar
end Go.Proofs.Ytfpnafeildigaaa
