/-
extend.Two: its contract whole (chapter 10).
-/
import Derived.Test.YtfpnafeildigaaaArTz
import Derived.Test.YtfpnafeildigaaaArTok
import Derived.Test.YtfpnafeildigaaaArTer
set_option linter.unusedSimpArgs false
set_option linter.unusedVariables false
namespace Go.Proofs.Ytfpnafeildigaaa
namespace Ar
open Go.RowKit Sc
theorem two_any (p : Int) (a b : Arr) (A B : Option Addr) (c d : Nat) (hla : a.xs.length ≤ 100000) (f0a : Fits a.l0) (f1a : Fits a.l1) (hlb : b.xs.length ≤ 100000) (f0b : Fits b.l0) (f1b : Fits b.l1) (hxa : ∀ x ∈ a.xs, Fits x) (hxb : ∀ x ∈ b.xs, Fits x)
    (w : World) (hsa : Sl w A a.xs) (hsb : Sl w B b.xs) :
    Calls Try.prog 24 #[.int .i64 p, .agg #[.int .i64 a.k, .int .i64 a.r, .int .i64 a.l0, .int .i64 a.l1, .slice A a.xs.length c], .agg #[.int .i64 b.k, .int .i64 b.r, .int .i64 b.l0, .int .i64 b.l1, .slice B b.xs.length d]] w (ArrRet w (extTwo p a b)) := by
  unfold extTwo
  have la : a.xs.length ≤ 9223372036854775807 := by omega
  have lb : b.xs.length ≤ 9223372036854775807 := by omega
  by_cases h : arity p = (2, 0)
  · rw [if_neg (by simpa using h)]
    by_cases h2 : chk2 a b = 0
    · rw [if_neg (by simpa using h2)]
      cases h3 : kindsOk p a b
      · rw [if_pos rfl]; exact two_kind p a b A B c d la f0a f1a lb f0b f1b h h2 h3 w hsa hsb
      · rw [if_neg (by simp)]
        obtain ⟨er, r, l0, l1, h4⟩ : ∃ er r l0 l1, extLens a b = (er, r, l0, l1) := ⟨_, _, _, _, rfl⟩
        rw [h4]
        by_cases h5 : er = 0
        · subst h5
          rw [if_neg (by simp)]
          by_cases h6 : (mapP (fun q : Int × Int => two p q.1 q.2) (pairs a b)).1 = 0
          · rw [if_neg (by simpa using h6)]
            exact two_run p a b A B c d hla f0a f1a hlb f0b f1b h h2 h3 r l0 l1 h4 hxa hxb _ (by rw [← h6]) w hsa hsb
          · rw [if_pos h6]
            exact two_fail p a b A B c d hla f0a f1a hlb f0b f1b h h2 h3 r l0 l1 h4 hxa hxb _ rfl h6 w hsa hsb
        · rw [if_pos h5]; exact two_lens p a b A B c d la f0a f1a lb f0b f1b h h2 h3 er r l0 l1 h4 h5 w hsa hsb
    · rw [if_pos h2]; exact two_check p a b A B c d la f0a f1a lb f0b f1b h h2 w hsa hsb
  · rw [if_pos h]; exact two_arity p a b A B c d la f0a f1a lb f0b f1b h w hsa hsb
end Ar
end Go.Proofs.Ytfpnafeildigaaa
