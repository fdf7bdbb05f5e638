/-
Chapter 15: the walk of ExprTogether.
-/
import Derived.Test.YtpkldfkmokeamaaGreatDoorAx1
import Derived.Test.YtpkldfkmokeamaaGreatDoorExTree
set_option linter.unusedSimpArgs false
set_option linter.unusedVariables false
namespace Go.Proofs.YtpkldfkmokeamaaGreatDoor
namespace Pr
open Go Go.RowKit En
open Ex Rf
/-- what a law may know of an expression without errors -/
theorem ord_down {l : List Nd} (h0 : (chkV l).2 = 0) : Ord l.length (Ms l) (Ks l) 0 = down l.length fun p => !numb (Ks l) p := by
  have hg := (chk_ok h0).2.2.1
  obtain ⟨t1, t2, _⟩ := chk_tree h0
  rw [Ord_all hg.fine (plain_of hg (chk_bad h0)) t1 t2, down]
abbrev oN (l : List Nd) : List Nat := Ord l.length (Ms l) (Ks l) 0
theorem ordI_oN (l : List Nd) : ordI l 0 = (oN l).map fun p : Nat => (p : Int) := rfl
theorem oN_len (l : List Nd) : (ordI l 0).length = (oN l).length := by rw [ordI_oN, List.length_map]
theorem ordI_at {l : List Nd} {i p : Nat} (h : (oN l)[i]? = some p) : (ordI l 0).getD i 0 = (p : Int) := by
  rw [ordI_oN, List.getD_eq_getElem?_getD, List.getElem?_map, h]; rfl
theorem oN_lt {l : List Nd} (h0 : (chkV l).2 = 0) {i p : Nat} (h : (oN l)[i]? = some p) : p < l.length := by
  have hm := List.mem_of_getElem? h
  rw [oN, ord_down h0, down_mem] at hm
  exact hm.1
end Pr
end Go.Proofs.YtpkldfkmokeamaaGreatDoor
