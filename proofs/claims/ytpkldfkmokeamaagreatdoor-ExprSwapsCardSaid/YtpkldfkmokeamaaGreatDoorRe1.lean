/-
The reference's words of an expression: how many operands, the place after a subtree, the operands (chapter 15).
-/
import Derived.Test.YtpkldfkmokeamaaGreatDoorCh1
import Derived.Test.YtpkldfkmokeamaaGreatDoorNdB
set_option linter.unusedSimpArgs false
set_option linter.unusedVariables false
namespace Go.Proofs.YtpkldfkmokeamaaGreatDoor
namespace Pr
open Go Go.RowKit En
open Ex
theorem ndC_n : (∀ d, nth (ndC d) 0 = .v (.int .i64 d.k)) ∧ (∀ d, nth (ndC d) 1 = .v (.int .i64 d.p)) ∧ (∀ d, nth (ndC d) 2 = .v (.int .i64 d.c)) ∧ (∀ d, nth (ndC d) 3 = .v (.string d.nm)) ∧ (∀ d, nth (ndC d) 4 = .v (.string d.tx)) ∧ (∀ d, nth (ndC d) 5 = .v (.int .i64 d.n)) ∧ (∀ d, nth (ndC d) 6 = .v (.int .i64 d.s)) ∧ (∀ d, cut (ndC d) 0 7 = ndC d) :=
  ⟨fun _ => rfl, fun _ => rfl, fun _ => rfl, fun _ => rfl, fun _ => rfl, fun _ => rfl, fun _ => rfl, fun _ => rfl⟩
theorem M_lt {l : List Nd} (hg : Good l) {i : Nat} (hi : i < l.length) : Ms l i = 0 ∨ Ms l i = 1 ∨ Ms l i = 2 := by
  rw [Ms, Mn]
  split
  · next ho => rcases hg.op i hi ho with h | h <;> rw [h] <;> simp
  · exact .inl rfl
def eR (l : List Nd) (i : Nat) : Nat := EndR l.length (Ms l) (Ks l) i
def tlRe : List (TypeId × TI) := [tyInt, tyI64, tyBool, tyStr, tyErr, tyNode, tyNodes, tyInts]
theorem tlRe_ok : TyAll Tryz.prog (lookT tlRe) := tyAll_p tyInt_ok <| tyAll_p tyI64_ok <| tyAll_p tyBool_ok <| tyAll_p tyStr_ok <| tyAll_p tyErr_ok <| tyAll_p tyNode_ok <| tyAll_p tyNodes_ok <| tyAll_p tyInts_ok tyAll_nil
def rdH (l : List Nd) (A : Option Addr) (c : Nat) : Hp := [(1000, .recs A c 7 l.length fun i => ndC (ndAt l i))]
def kidI (l : List Nd) (i : Nat) : List Int := (kidsR l.length (Ms l) (Ks l) i).map fun p : Nat => (p : Int)
end Pr
end Go.Proofs.YtpkldfkmokeamaaGreatDoor
/-
The reference's depth of a subtree (chapter 15).
-/
set_option linter.unusedSimpArgs false
set_option linter.unusedVariables false
namespace Go.Proofs.YtpkldfkmokeamaaGreatDoor
namespace Pr
open Go Go.RowKit En
open Ex
def dpV (l : List Nd) (i : Nat) : Nat := Dep l.length (Ms l) (Ks l) i
section
variable (l : List Nd) (A : Option Addr) (c a : Nat) (B : Option Addr) (d : Nat)
end
end Pr
end Go.Proofs.YtpkldfkmokeamaaGreatDoor
/-
The reference's Check of an expression (chapter 15).
-/
set_option linter.unusedSimpArgs false
set_option linter.unusedVariables false
namespace Go.Proofs.YtpkldfkmokeamaaGreatDoor
namespace Pr
open Go Go.RowKit En
open Ex
section
variable (l : List Nd) (A : Option Addr) (c : Nat)
end
end Pr
end Go.Proofs.YtpkldfkmokeamaaGreatDoor
