/-
  No cell of these rows narrows 'for every input' (looked for: loops, veiled, ifaces, maps, wideKeys, modest, calm, conditions, laid).
  DERIVED. THE GIVEN ROWS OF THIS SEAT. 8 by the template 'for every input the law returns true; each argument reads behind the call as it read before'; 0 by the template 'total and deterministic' (their statements: YtdpeaimnbgdkeaaTotals.lean).
  GIVEN WITH THE SEED: the statements are not yours to turn. If you find one false, say at which input.
  Laid BY PROGRAM, IN A SANDBOX (cutbox-rows.mjs): the forced cells as the released guide's own fill.sh prints them over the translation eca21b62037121cb… (all of the seat's roots in one cut). By AI agents, Wed Nov 11 2026. No macro, syntax, notation, axiom, sorry.
-/
import Derived.Test.YtdpeaimnbgdkeaaChecked
import GoSem.Claim
import GoSem.ClaimJoined
import GoSem.ClaimMapViews
import Derived.JoinedTies
import Derived.KernelRfl
namespace Go.Proofs.Ytdpeaimnbgdkeaa
/- THE CELL 'sum', in the pinned program and in every row, IS THE sha256 OF THE DUMP (.gsa) THAT YtdpeaimnbgdkeaaProg.lean LOADS. Nothing in Lean hashes anything: it is a label: what it is worth is what the hold of that sum in a sandbox is worth. -/
noncomputable def Try.pinned : Pinned := { name := "ytdpeaimnbgdkeaa", sum := "eca21b62037121cb9d7d8f5899757727b34a84c74e9288c37aecb74230af74b1", checked := Try.checked }
namespace Rows
def none {H : Type} : Left H := { results := [], args := [] }

/-- 'invigilatorlaw09.ScalarsTwos': WHATEVER THE INPUT: true; the input reads as it did. -/
def scalarsTwosSpec : ChangeSpec := { name := "scalarsTwos", fn := fun _ => fun
  | [d1, d2, d3] => { results := [.lit (.bool true)], args := [d1, d2, d3] }
  | _ => none }
def scalarsTwosRow : OpenClaim := { program := "ytdpeaimnbgdkeaa", sum := "eca21b62037121cb9d7d8f5899757727b34a84c74e9288c37aecb74230af74b1", func := "invigilator/invigilatorlaw09.ScalarsTwos", spec := "scalarsTwos", unfollowed := true, recurses := true, apart := false }
def ScalarsTwosSaid : Prop := scalarsTwosRow.holds Try.pinned (OpenSpec.ofChange scalarsTwosSpec)

/-- ITS FALSE NEIGHBOUR: 'it returns false'. Refute it at one input. -/
def scalarsTwosWrong : ChangeSpec := { name := "scalarsTwos", fn := fun _ => fun
  | [d1, d2, d3] => { results := [.lit (.bool false)], args := [d1, d2, d3] }
  | _ => none }
def ScalarsTwosWrongFalsely : Prop := scalarsTwosRow.holds Try.pinned (OpenSpec.ofChange scalarsTwosWrong)

/-- 'invigilatorlaw09.ScalarsExact': WHATEVER THE INPUT: true; the input reads as it did. -/
def scalarsExactSpec : ChangeSpec := { name := "scalarsExact", fn := fun _ => fun
  | [d1, d2] => { results := [.lit (.bool true)], args := [d1, d2] }
  | _ => none }
def scalarsExactRow : OpenClaim := { program := "ytdpeaimnbgdkeaa", sum := "eca21b62037121cb9d7d8f5899757727b34a84c74e9288c37aecb74230af74b1", func := "invigilator/invigilatorlaw09.ScalarsExact", spec := "scalarsExact", unfollowed := true, recurses := true, apart := false }
def ScalarsExactSaid : Prop := scalarsExactRow.holds Try.pinned (OpenSpec.ofChange scalarsExactSpec)

/-- ITS FALSE NEIGHBOUR: 'it returns false'. Refute it at one input. -/
def scalarsExactWrong : ChangeSpec := { name := "scalarsExact", fn := fun _ => fun
  | [d1, d2] => { results := [.lit (.bool false)], args := [d1, d2] }
  | _ => none }
def ScalarsExactWrongFalsely : Prop := scalarsExactRow.holds Try.pinned (OpenSpec.ofChange scalarsExactWrong)

/-- 'invigilatorlaw09.ScalarsOverflow': WHATEVER THE INPUT: true; the input reads as it did. -/
def scalarsOverflowSpec : ChangeSpec := { name := "scalarsOverflow", fn := fun _ => fun
  | [d1, d2] => { results := [.lit (.bool true)], args := [d1, d2] }
  | _ => none }
def scalarsOverflowRow : OpenClaim := { program := "ytdpeaimnbgdkeaa", sum := "eca21b62037121cb9d7d8f5899757727b34a84c74e9288c37aecb74230af74b1", func := "invigilator/invigilatorlaw09.ScalarsOverflow", spec := "scalarsOverflow", unfollowed := true, recurses := true, apart := false }
def ScalarsOverflowSaid : Prop := scalarsOverflowRow.holds Try.pinned (OpenSpec.ofChange scalarsOverflowSpec)

/-- ITS FALSE NEIGHBOUR: 'it returns false'. Refute it at one input. -/
def scalarsOverflowWrong : ChangeSpec := { name := "scalarsOverflow", fn := fun _ => fun
  | [d1, d2] => { results := [.lit (.bool false)], args := [d1, d2] }
  | _ => none }
def ScalarsOverflowWrongFalsely : Prop := scalarsOverflowRow.holds Try.pinned (OpenSpec.ofChange scalarsOverflowWrong)

/-- 'invigilatorlaw09.ScalarsLimits': WHATEVER THE INPUT: true; the input reads as it did. -/
def scalarsLimitsSpec : ChangeSpec := { name := "scalarsLimits", fn := fun _ => fun
  | [d1, d2] => { results := [.lit (.bool true)], args := [d1, d2] }
  | _ => none }
def scalarsLimitsRow : OpenClaim := { program := "ytdpeaimnbgdkeaa", sum := "eca21b62037121cb9d7d8f5899757727b34a84c74e9288c37aecb74230af74b1", func := "invigilator/invigilatorlaw09.ScalarsLimits", spec := "scalarsLimits", unfollowed := true, recurses := true, apart := false }
def ScalarsLimitsSaid : Prop := scalarsLimitsRow.holds Try.pinned (OpenSpec.ofChange scalarsLimitsSpec)

/-- ITS FALSE NEIGHBOUR: 'it returns false'. Refute it at one input. -/
def scalarsLimitsWrong : ChangeSpec := { name := "scalarsLimits", fn := fun _ => fun
  | [d1, d2] => { results := [.lit (.bool false)], args := [d1, d2] }
  | _ => none }
def ScalarsLimitsWrongFalsely : Prop := scalarsLimitsRow.holds Try.pinned (OpenSpec.ofChange scalarsLimitsWrong)

/-- 'invigilatorlaw09.ScalarsOrders': WHATEVER THE INPUT: true; the input reads as it did. -/
def scalarsOrdersSpec : ChangeSpec := { name := "scalarsOrders", fn := fun _ => fun
  | [d1, d2, d3] => { results := [.lit (.bool true)], args := [d1, d2, d3] }
  | _ => none }
def scalarsOrdersRow : OpenClaim := { program := "ytdpeaimnbgdkeaa", sum := "eca21b62037121cb9d7d8f5899757727b34a84c74e9288c37aecb74230af74b1", func := "invigilator/invigilatorlaw09.ScalarsOrders", spec := "scalarsOrders", unfollowed := true, recurses := true, apart := false }
def ScalarsOrdersSaid : Prop := scalarsOrdersRow.holds Try.pinned (OpenSpec.ofChange scalarsOrdersSpec)

/-- ITS FALSE NEIGHBOUR: 'it returns false'. Refute it at one input. -/
def scalarsOrdersWrong : ChangeSpec := { name := "scalarsOrders", fn := fun _ => fun
  | [d1, d2, d3] => { results := [.lit (.bool false)], args := [d1, d2, d3] }
  | _ => none }
def ScalarsOrdersWrongFalsely : Prop := scalarsOrdersRow.holds Try.pinned (OpenSpec.ofChange scalarsOrdersWrong)

/-- 'invigilatorlaw09.ScalarsTruth': WHATEVER THE INPUT: true; the input reads as it did. -/
def scalarsTruthSpec : ChangeSpec := { name := "scalarsTruth", fn := fun _ => fun
  | [d1, d2, d3] => { results := [.lit (.bool true)], args := [d1, d2, d3] }
  | _ => none }
def scalarsTruthRow : OpenClaim := { program := "ytdpeaimnbgdkeaa", sum := "eca21b62037121cb9d7d8f5899757727b34a84c74e9288c37aecb74230af74b1", func := "invigilator/invigilatorlaw09.ScalarsTruth", spec := "scalarsTruth", unfollowed := true, recurses := true, apart := false }
def ScalarsTruthSaid : Prop := scalarsTruthRow.holds Try.pinned (OpenSpec.ofChange scalarsTruthSpec)

/-- ITS FALSE NEIGHBOUR: 'it returns false'. Refute it at one input. -/
def scalarsTruthWrong : ChangeSpec := { name := "scalarsTruth", fn := fun _ => fun
  | [d1, d2, d3] => { results := [.lit (.bool false)], args := [d1, d2, d3] }
  | _ => none }
def ScalarsTruthWrongFalsely : Prop := scalarsTruthRow.holds Try.pinned (OpenSpec.ofChange scalarsTruthWrong)

/-- 'invigilatorlaw09.ScalarsRings': WHATEVER THE INPUT: true; the input reads as it did. -/
def scalarsRingsSpec : ChangeSpec := { name := "scalarsRings", fn := fun _ => fun
  | [d1, d2, d3] => { results := [.lit (.bool true)], args := [d1, d2, d3] }
  | _ => none }
def scalarsRingsRow : OpenClaim := { program := "ytdpeaimnbgdkeaa", sum := "eca21b62037121cb9d7d8f5899757727b34a84c74e9288c37aecb74230af74b1", func := "invigilator/invigilatorlaw09.ScalarsRings", spec := "scalarsRings", unfollowed := true, recurses := true, apart := false }
def ScalarsRingsSaid : Prop := scalarsRingsRow.holds Try.pinned (OpenSpec.ofChange scalarsRingsSpec)

/-- ITS FALSE NEIGHBOUR: 'it returns false'. Refute it at one input. -/
def scalarsRingsWrong : ChangeSpec := { name := "scalarsRings", fn := fun _ => fun
  | [d1, d2, d3] => { results := [.lit (.bool false)], args := [d1, d2, d3] }
  | _ => none }
def ScalarsRingsWrongFalsely : Prop := scalarsRingsRow.holds Try.pinned (OpenSpec.ofChange scalarsRingsWrong)

/-- 'invigilatorlaw09.ScalarsOnes': WHATEVER THE INPUT: true; the input reads as it did. -/
def scalarsOnesSpec : ChangeSpec := { name := "scalarsOnes", fn := fun _ => fun
  | [d1, d2] => { results := [.lit (.bool true)], args := [d1, d2] }
  | _ => none }
def scalarsOnesRow : OpenClaim := { program := "ytdpeaimnbgdkeaa", sum := "eca21b62037121cb9d7d8f5899757727b34a84c74e9288c37aecb74230af74b1", func := "invigilator/invigilatorlaw09.ScalarsOnes", spec := "scalarsOnes", unfollowed := true, recurses := true, apart := false }
def ScalarsOnesSaid : Prop := scalarsOnesRow.holds Try.pinned (OpenSpec.ofChange scalarsOnesSpec)

/-- ITS FALSE NEIGHBOUR: 'it returns false'. Refute it at one input. -/
def scalarsOnesWrong : ChangeSpec := { name := "scalarsOnes", fn := fun _ => fun
  | [d1, d2] => { results := [.lit (.bool false)], args := [d1, d2] }
  | _ => none }
def ScalarsOnesWrongFalsely : Prop := scalarsOnesRow.holds Try.pinned (OpenSpec.ofChange scalarsOnesWrong)

/- THE SECOND FORM. 'bulk': how many values and letters a reading holds, each counted each time it is reached (what is shared counts as often as it is met; a slice's spare places count too). A statement '..UptoSaid' is the law's where the arguments, and the package variables that the reading takes, are together of bulk at most 1048576: NARROWER than '..Said'. Prove '..Said' where nothing that the law and all that it calls make is longer than what came in: it says more and counts as full. Else prove '..UptoSaid'. A law counts once. -/
mutual
def uptoBulk {H : Type} : DataW H → Nat
  | .lit (.string bytes) => bytes.length + 1
  | .lit _ => 1
  | .nil => 1
  | .ptr d => uptoBulk d + 1
  | .slice elems spare => uptoBulkAll elems + uptoBulkAll spare + 1
  | .agg parts => uptoBulkAll parts + 1
  | .iface _ d => uptoBulk d + 1
  | .map entries => uptoBulkEntries entries + 1
  | .held _ => 1
def uptoBulkAll {H : Type} : List (DataW H) → Nat
  | [] => 0
  | d :: r => uptoBulk d + uptoBulkAll r
def uptoBulkEntries {H : Type} : List (Lit × DataW H) → Nat
  | [] => 0
  | x :: r => uptoBulkEntry x + uptoBulkEntries r
def uptoBulkEntry {H : Type} : Lit × DataW H → Nat
  | (.string bytes, d) => bytes.length + uptoBulk d + 1
  | (_, d) => uptoBulk d + 1
 end
def uptoSmall : (H : Type) → List (DataW H) → Bool := fun _ ds => decide (uptoBulkAll ds ≤ 1048576)
def OpenSpec.upto (s : _root_.Go.ChangeSpec) : _root_.Go.OpenSpec := { _root_.Go.OpenSpec.ofChange s with cond := some uptoSmall }

/-- 'invigilatorlaw09.ScalarsTwos', WHERE WHAT IT READS IS OF BULK AT MOST 1048576: true; the input reads as it did. -/
def scalarsTwosUptoRow : OpenClaim := { program := "ytdpeaimnbgdkeaa", sum := "eca21b62037121cb9d7d8f5899757727b34a84c74e9288c37aecb74230af74b1", func := "invigilator/invigilatorlaw09.ScalarsTwos", spec := "scalarsTwos", unfollowed := true, recurses := true, apart := false, narrowed := true }
def ScalarsTwosUptoSaid : Prop := scalarsTwosUptoRow.holds Try.pinned (OpenSpec.upto scalarsTwosSpec)

/-- 'invigilatorlaw09.ScalarsExact', WHERE WHAT IT READS IS OF BULK AT MOST 1048576: true; the input reads as it did. -/
def scalarsExactUptoRow : OpenClaim := { program := "ytdpeaimnbgdkeaa", sum := "eca21b62037121cb9d7d8f5899757727b34a84c74e9288c37aecb74230af74b1", func := "invigilator/invigilatorlaw09.ScalarsExact", spec := "scalarsExact", unfollowed := true, recurses := true, apart := false, narrowed := true }
def ScalarsExactUptoSaid : Prop := scalarsExactUptoRow.holds Try.pinned (OpenSpec.upto scalarsExactSpec)

/-- 'invigilatorlaw09.ScalarsOverflow', WHERE WHAT IT READS IS OF BULK AT MOST 1048576: true; the input reads as it did. -/
def scalarsOverflowUptoRow : OpenClaim := { program := "ytdpeaimnbgdkeaa", sum := "eca21b62037121cb9d7d8f5899757727b34a84c74e9288c37aecb74230af74b1", func := "invigilator/invigilatorlaw09.ScalarsOverflow", spec := "scalarsOverflow", unfollowed := true, recurses := true, apart := false, narrowed := true }
def ScalarsOverflowUptoSaid : Prop := scalarsOverflowUptoRow.holds Try.pinned (OpenSpec.upto scalarsOverflowSpec)

/-- 'invigilatorlaw09.ScalarsLimits', WHERE WHAT IT READS IS OF BULK AT MOST 1048576: true; the input reads as it did. -/
def scalarsLimitsUptoRow : OpenClaim := { program := "ytdpeaimnbgdkeaa", sum := "eca21b62037121cb9d7d8f5899757727b34a84c74e9288c37aecb74230af74b1", func := "invigilator/invigilatorlaw09.ScalarsLimits", spec := "scalarsLimits", unfollowed := true, recurses := true, apart := false, narrowed := true }
def ScalarsLimitsUptoSaid : Prop := scalarsLimitsUptoRow.holds Try.pinned (OpenSpec.upto scalarsLimitsSpec)

/-- 'invigilatorlaw09.ScalarsOrders', WHERE WHAT IT READS IS OF BULK AT MOST 1048576: true; the input reads as it did. -/
def scalarsOrdersUptoRow : OpenClaim := { program := "ytdpeaimnbgdkeaa", sum := "eca21b62037121cb9d7d8f5899757727b34a84c74e9288c37aecb74230af74b1", func := "invigilator/invigilatorlaw09.ScalarsOrders", spec := "scalarsOrders", unfollowed := true, recurses := true, apart := false, narrowed := true }
def ScalarsOrdersUptoSaid : Prop := scalarsOrdersUptoRow.holds Try.pinned (OpenSpec.upto scalarsOrdersSpec)

/-- 'invigilatorlaw09.ScalarsTruth', WHERE WHAT IT READS IS OF BULK AT MOST 1048576: true; the input reads as it did. -/
def scalarsTruthUptoRow : OpenClaim := { program := "ytdpeaimnbgdkeaa", sum := "eca21b62037121cb9d7d8f5899757727b34a84c74e9288c37aecb74230af74b1", func := "invigilator/invigilatorlaw09.ScalarsTruth", spec := "scalarsTruth", unfollowed := true, recurses := true, apart := false, narrowed := true }
def ScalarsTruthUptoSaid : Prop := scalarsTruthUptoRow.holds Try.pinned (OpenSpec.upto scalarsTruthSpec)

/-- 'invigilatorlaw09.ScalarsRings', WHERE WHAT IT READS IS OF BULK AT MOST 1048576: true; the input reads as it did. -/
def scalarsRingsUptoRow : OpenClaim := { program := "ytdpeaimnbgdkeaa", sum := "eca21b62037121cb9d7d8f5899757727b34a84c74e9288c37aecb74230af74b1", func := "invigilator/invigilatorlaw09.ScalarsRings", spec := "scalarsRings", unfollowed := true, recurses := true, apart := false, narrowed := true }
def ScalarsRingsUptoSaid : Prop := scalarsRingsUptoRow.holds Try.pinned (OpenSpec.upto scalarsRingsSpec)

/-- 'invigilatorlaw09.ScalarsOnes', WHERE WHAT IT READS IS OF BULK AT MOST 1048576: true; the input reads as it did. -/
def scalarsOnesUptoRow : OpenClaim := { program := "ytdpeaimnbgdkeaa", sum := "eca21b62037121cb9d7d8f5899757727b34a84c74e9288c37aecb74230af74b1", func := "invigilator/invigilatorlaw09.ScalarsOnes", spec := "scalarsOnes", unfollowed := true, recurses := true, apart := false, narrowed := true }
def ScalarsOnesUptoSaid : Prop := scalarsOnesUptoRow.holds Try.pinned (OpenSpec.upto scalarsOnesSpec)

end Rows
end Go.Proofs.Ytdpeaimnbgdkeaa
