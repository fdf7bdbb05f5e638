/-
The table of primitives (chapter 12) as plain lists (printed by genPr.py).
-/
import Derived.Test.YtnpkmimbnjnicaaGreatDoorEnL
import Derived.Test.YtnpkmimbnjnicaaGreatDoorEa3
import Derived.Test.YtnpkmimbnjnicaaGreatDoorProg
set_option linter.unusedSimpArgs false
set_option linter.unusedVariables false
namespace Go.Proofs.YtnpkmimbnjnicaaGreatDoor
namespace Pr
open Go Go.RowKit En
def pNames : List ByteArray := [⟨#[]⟩, ⟨#[110, 101, 103]⟩, ⟨#[97, 98, 115]⟩, ⟨#[110, 111, 116]⟩, ⟨#[115, 104, 97, 112, 101]⟩, ⟨#[114, 97, 118, 101, 108]⟩, ⟨#[114, 101, 118, 101, 114, 115, 101]⟩, ⟨#[102, 108, 105, 112]⟩, ⟨#[105, 111, 116, 97]⟩, ⟨#[115, 117, 109]⟩, ⟨#[108, 101, 97, 115, 116]⟩, ⟨#[109, 111, 115, 116]⟩, ⟨#[99, 111, 117, 110, 116]⟩, ⟨#[115, 99, 97, 110]⟩, ⟨#[103, 114, 97, 100, 101]⟩, ⟨#[97, 100, 100]⟩, ⟨#[115, 117, 98]⟩, ⟨#[109, 117, 108]⟩, ⟨#[100, 105, 118]⟩, ⟨#[109, 111, 100]⟩, ⟨#[112, 108, 117, 115]⟩, ⟨#[109, 105, 110, 117, 115]⟩, ⟨#[116, 105, 109, 101, 115]⟩, ⟨#[101, 113]⟩, ⟨#[110, 101]⟩, ⟨#[108, 116]⟩, ⟨#[108, 101]⟩, ⟨#[103, 116]⟩, ⟨#[103, 101]⟩, ⟨#[97, 110, 100]⟩, ⟨#[111, 114]⟩, ⟨#[109, 105, 110]⟩, ⟨#[109, 97, 120]⟩, ⟨#[116, 97, 107, 101]⟩, ⟨#[100, 114, 111, 112]⟩, ⟨#[102, 105, 108, 108]⟩, ⟨#[103, 114, 105, 100]⟩, ⟨#[99, 97, 116]⟩, ⟨#[97, 116]⟩, ⟨#[105, 110]⟩, ⟨#[112, 105, 99, 107]⟩]
def pLines : List (List ByteArray) := [[], [⟨#[105, 110, 105, 110]⟩], [⟨#[105, 110, 105, 110]⟩], [⟨#[105, 110, 105, 110]⟩], [⟨#[107, 110, 105, 49]⟩], [⟨#[107, 110, 107, 49]⟩], [⟨#[107, 49, 107, 49]⟩, ⟨#[107, 50, 107, 50]⟩], [⟨#[107, 50, 107, 50]⟩], [⟨#[105, 48, 105, 49]⟩], [⟨#[105, 49, 105, 48]⟩, ⟨#[105, 50, 105, 49]⟩], [⟨#[105, 49, 105, 48]⟩, ⟨#[105, 50, 105, 49]⟩], [⟨#[105, 49, 105, 48]⟩, ⟨#[105, 50, 105, 49]⟩], [⟨#[107, 49, 105, 48]⟩, ⟨#[107, 50, 105, 49]⟩], [⟨#[105, 49, 105, 49]⟩, ⟨#[105, 50, 105, 50]⟩], [⟨#[105, 49, 105, 49]⟩], [⟨#[105, 48, 105, 110, 105, 110]⟩, ⟨#[105, 110, 105, 48, 105, 110]⟩, ⟨#[105, 110, 105, 110, 105, 110]⟩], [⟨#[105, 48, 105, 110, 105, 110]⟩, ⟨#[105, 110, 105, 48, 105, 110]⟩, ⟨#[105, 110, 105, 110, 105, 110]⟩], [⟨#[105, 48, 105, 110, 105, 110]⟩, ⟨#[105, 110, 105, 48, 105, 110]⟩, ⟨#[105, 110, 105, 110, 105, 110]⟩], [⟨#[105, 48, 105, 110, 105, 110]⟩, ⟨#[105, 110, 105, 48, 105, 110]⟩, ⟨#[105, 110, 105, 110, 105, 110]⟩], [⟨#[105, 48, 105, 110, 105, 110]⟩, ⟨#[105, 110, 105, 48, 105, 110]⟩, ⟨#[105, 110, 105, 110, 105, 110]⟩], [⟨#[105, 48, 105, 110, 105, 110]⟩, ⟨#[105, 110, 105, 48, 105, 110]⟩, ⟨#[105, 110, 105, 110, 105, 110]⟩], [⟨#[105, 48, 105, 110, 105, 110]⟩, ⟨#[105, 110, 105, 48, 105, 110]⟩, ⟨#[105, 110, 105, 110, 105, 110]⟩], [⟨#[105, 48, 105, 110, 105, 110]⟩, ⟨#[105, 110, 105, 48, 105, 110]⟩, ⟨#[105, 110, 105, 110, 105, 110]⟩], [⟨#[107, 48, 107, 110, 105, 110]⟩, ⟨#[107, 110, 107, 48, 105, 110]⟩, ⟨#[107, 110, 107, 110, 105, 110]⟩], [⟨#[107, 48, 107, 110, 105, 110]⟩, ⟨#[107, 110, 107, 48, 105, 110]⟩, ⟨#[107, 110, 107, 110, 105, 110]⟩], [⟨#[105, 48, 105, 110, 105, 110]⟩, ⟨#[105, 110, 105, 48, 105, 110]⟩, ⟨#[105, 110, 105, 110, 105, 110]⟩], [⟨#[105, 48, 105, 110, 105, 110]⟩, ⟨#[105, 110, 105, 48, 105, 110]⟩, ⟨#[105, 110, 105, 110, 105, 110]⟩], [⟨#[105, 48, 105, 110, 105, 110]⟩, ⟨#[105, 110, 105, 48, 105, 110]⟩, ⟨#[105, 110, 105, 110, 105, 110]⟩], [⟨#[105, 48, 105, 110, 105, 110]⟩, ⟨#[105, 110, 105, 48, 105, 110]⟩, ⟨#[105, 110, 105, 110, 105, 110]⟩], [⟨#[105, 48, 105, 110, 105, 110]⟩, ⟨#[105, 110, 105, 48, 105, 110]⟩, ⟨#[105, 110, 105, 110, 105, 110]⟩], [⟨#[105, 48, 105, 110, 105, 110]⟩, ⟨#[105, 110, 105, 48, 105, 110]⟩, ⟨#[105, 110, 105, 110, 105, 110]⟩], [⟨#[105, 48, 105, 110, 105, 110]⟩, ⟨#[105, 110, 105, 48, 105, 110]⟩, ⟨#[105, 110, 105, 110, 105, 110]⟩], [⟨#[105, 48, 105, 110, 105, 110]⟩, ⟨#[105, 110, 105, 48, 105, 110]⟩, ⟨#[105, 110, 105, 110, 105, 110]⟩], [⟨#[105, 48, 107, 49, 107, 49]⟩], [⟨#[105, 48, 107, 49, 107, 49]⟩], [⟨#[105, 48, 107, 48, 107, 49]⟩], [⟨#[105, 49, 107, 49, 107, 50]⟩], [⟨#[107, 49, 107, 49, 107, 49]⟩, ⟨#[107, 50, 107, 50, 107, 50]⟩], [⟨#[107, 49, 105, 48, 107, 48]⟩, ⟨#[107, 49, 105, 49, 107, 49]⟩], [⟨#[107, 110, 107, 49, 105, 110]⟩], [⟨#[105, 49, 107, 49, 107, 49]⟩]]
def pErrs : List (List Int) := [[], [12], [12], [], [], [], [], [], [13, 15], [12], [13], [13], [], [12], [], [11, 12], [11, 12], [11, 12], [11, 12, 13], [11, 13], [11], [11], [11], [11], [11], [11], [11], [11], [11], [11], [11], [11], [11], [], [], [13, 15], [11, 13, 15], [11, 15], [14], [], [11]]
def pOne : List Value := [.nilFunc, .nilFunc, .nilFunc, .nilFunc, .func (.func 130) #[] #[], .func (.func 131) #[] #[], .func (.func 132) #[] #[], .func (.func 133) #[] #[], .func (.func 134) #[] #[], .func (.func 135) #[] #[], .func (.func 136) #[] #[], .func (.func 137) #[] #[], .func (.func 138) #[] #[], .func (.func 139) #[] #[], .func (.func 140) #[] #[], .nilFunc, .nilFunc, .nilFunc, .nilFunc, .nilFunc, .nilFunc, .nilFunc, .nilFunc, .nilFunc, .nilFunc, .nilFunc, .nilFunc, .nilFunc, .nilFunc, .nilFunc, .nilFunc, .nilFunc, .nilFunc, .nilFunc, .nilFunc, .nilFunc, .nilFunc, .nilFunc, .nilFunc, .nilFunc, .nilFunc]
def pTwo : List Value := [.nilFunc, .nilFunc, .nilFunc, .nilFunc, .nilFunc, .nilFunc, .nilFunc, .nilFunc, .nilFunc, .nilFunc, .nilFunc, .nilFunc, .nilFunc, .nilFunc, .nilFunc, .nilFunc, .nilFunc, .nilFunc, .nilFunc, .nilFunc, .nilFunc, .nilFunc, .nilFunc, .nilFunc, .nilFunc, .nilFunc, .nilFunc, .nilFunc, .nilFunc, .nilFunc, .nilFunc, .nilFunc, .nilFunc, .func (.func 142) #[] #[], .func (.func 143) #[] #[], .func (.func 144) #[] #[], .func (.func 145) #[] #[], .func (.func 146) #[] #[], .func (.func 147) #[] #[], .func (.func 148) #[] #[], .func (.func 149) #[] #[]]
def nameAt (p : Int) : ByteArray := pNames.getD p.toNat ByteArray.empty
def linesAt (p : Int) : List ByteArray := pLines.getD p.toNat []
def errsAt (p : Int) : List Int := pErrs.getD p.toNat []
def oneAt (p : Int) : Value := pOne.getD p.toNat .nilFunc
def twoAt (p : Int) : Value := pTwo.getD p.toNat .nilFunc
def known40 (p : Int) : Bool := !(decide (p < 1) || decide (40 < p))
def arityOf (p : Int) : Int := (((linesAt p).getD 0 ByteArray.empty).size : Int).tdiv 2 - 1
def allLines : List ByteArray := [⟨#[105, 110, 105, 110]⟩, ⟨#[107, 110, 105, 49]⟩, ⟨#[107, 110, 107, 49]⟩, ⟨#[107, 49, 107, 49]⟩, ⟨#[107, 50, 107, 50]⟩, ⟨#[105, 48, 105, 49]⟩, ⟨#[105, 49, 105, 48]⟩, ⟨#[105, 50, 105, 49]⟩, ⟨#[107, 49, 105, 48]⟩, ⟨#[107, 50, 105, 49]⟩, ⟨#[105, 49, 105, 49]⟩, ⟨#[105, 50, 105, 50]⟩, ⟨#[105, 48, 105, 110, 105, 110]⟩, ⟨#[105, 110, 105, 48, 105, 110]⟩, ⟨#[105, 110, 105, 110, 105, 110]⟩, ⟨#[107, 48, 107, 110, 105, 110]⟩, ⟨#[107, 110, 107, 48, 105, 110]⟩, ⟨#[107, 110, 107, 110, 105, 110]⟩, ⟨#[105, 48, 107, 49, 107, 49]⟩, ⟨#[105, 48, 107, 48, 107, 49]⟩, ⟨#[105, 49, 107, 49, 107, 50]⟩, ⟨#[107, 49, 107, 49, 107, 49]⟩, ⟨#[107, 50, 107, 50, 107, 50]⟩, ⟨#[107, 49, 105, 48, 107, 48]⟩, ⟨#[107, 49, 105, 49, 107, 49]⟩, ⟨#[107, 110, 107, 49, 105, 110]⟩, ⟨#[105, 49, 107, 49, 107, 49]⟩]
end Pr
end Go.Proofs.YtnpkmimbnjnicaaGreatDoor
/-
prims.match (chapter 12): a line against kinds and ranks.
-/
set_option linter.unusedSimpArgs false
set_option linter.unusedVariables false
namespace Go.Proofs.YtnpkmimbnjnicaaGreatDoor
namespace Pr
open Go Go.RowKit En
structure MS where
  kind : Int
  rank : Int
  k : Int
  n : Int
  fst : Bool
  snd : Bool
def stepM (kinds ranks : List Int) (s : MS) (i : Nat) (c : Int) : MS :=
  if i / 2 = kinds.length then
    (if c = 105 then { s with kind := 1 } else if c = 107 then { s with kind := s.k } else if c = 110 then { s with rank := s.n } else { s with rank := c - 48 })
  else if c = 105 then { s with fst := bif s.fst then kinds.getD (i / 2) 0 == 1 else false }
  else if c = 107 then { s with fst := bif (bif s.fst then (bif kinds.getD (i / 2) 0 == 1 then true else kinds.getD (i / 2) 0 == 2) else false) then (bif s.k == 0 then true else s.k == kinds.getD (i / 2) 0) else false, k := kinds.getD (i / 2) 0 }
  else if c = 110 then { s with snd := bif (bif (bif s.snd then decide (0 ≤ ranks.getD (i / 2) 0) else false) then decide (ranks.getD (i / 2) 0 ≤ 2) else false) then (bif decide (s.n < 0) then true else s.n == ranks.getD (i / 2) 0) else false, n := ranks.getD (i / 2) 0 }
  else { s with snd := bif s.snd then ranks.getD (i / 2) 0 == c - 48 else false }
def matchF (kinds ranks : List Int) : MS → Nat → List Int → MS
  | s, _, [] => s
  | s, i, c :: l => matchF kinds ranks (stepM kinds ranks s i c) (i + 1) l
def matchM (line : ByteArray) (kinds ranks : List Int) : MS := matchF kinds ranks ⟨0, 0, 0, -1, true, true⟩ 0 (line.data.toList.map fun b => (b.toNat : Int))
def getIC (A : Option Addr) (n c : Nat) : Ch → Prop × List Int
  | .ints A' c' .i64 xs => (A = A' ∧ n = xs.length ∧ c = c', xs)
  | _ => (False, [])
def intsOf : List SV → Option (List Int)
  | [] => some []
  | .v (.int .i64 x) :: l => (intsOf l).map (x :: ·)
  | _ => none
def getIB (b o n : Nat) : Ch → Prop × List Int
  | .blk b' cs _ => match intsOf (cut cs o n) with
    | some xs => (b = b' ∧ o + n ≤ lenS cs, xs)
    | none => (False, [])
  | _ => (False, [])
def getI (H : Nat → Ch) : SV → Prop × List Int
  | .g key A n c => getIC A n c (H key)
  | .gp key b o n c => getIB b o n (H key)
  | .v (.slice none 0 0) => (True, [])
  | _ => (False, [])
def tiM : List (TypeId × TI) :=
  [(3, ⟨true, false, 1, [.v (.int .i64 0)], [], 0, 0, 0, 13, 0⟩),
   (4, ⟨true, false, 1, [.v (.bool false)], [], 0, 0, 0, 5, 0⟩),
   (9, ⟨true, false, 1, [.v (.string ⟨#[]⟩)], [], 0, 0, 0, 3, 0⟩),
   (21, ⟨true, false, 1, [.v (.int .i32 0)], [], 0, 0, 0, 12, 0⟩),
   (62, ⟨true, false, 1, [.v (.slice none 0 0)], [], 3, 0, 8, 1, 1⟩)]
theorem tiM_ok : TyAll Tryz.prog (lookT tiM) :=
  tyAll_cons (.mk' (by kernel_rfl) (by kernel_rfl) (by decide) (by decide) (by kernel_rfl) (by kernel_rfl)) <|
  tyAll_cons (.mk' (by kernel_rfl) (by kernel_rfl) (by decide) (by decide) (by kernel_rfl) (by kernel_rfl)) <|
  tyAll_cons (.mk' (by kernel_rfl) (by kernel_rfl) (by decide) (by decide) (by kernel_rfl) (by kernel_rfl)) <|
  tyAll_cons (.mk' (by kernel_rfl) (by kernel_rfl) (by decide) (by decide) (by kernel_rfl) (by kernel_rfl)) <|
  tyAll_cons (.mk' (by kernel_rfl) (by kernel_rfl) (by decide) (by decide) (by kernel_rfl) (by kernel_rfl)) tyAll_nil
theorem followP : Tryz.prog.follows .mixedOrders = true := by kernel_rfl
def linesRun : List (ByteArray × List (Nat × Int)) := allLines.map fun s => (s, itL s s.size 0)
end Pr
end Go.Proofs.YtnpkmimbnjnicaaGreatDoor
/-
Words for the table of primitives (chapter 12): what a slice of strings or numbers tells, in whatever chunk it lies; the package's two variables.
-/
set_option linter.unusedSimpArgs false
set_option linter.unusedVariables false
namespace Go.Proofs.YtnpkmimbnjnicaaGreatDoor
namespace Pr
open Go Go.RowKit En
def strsOf : List SV → Option (List ByteArray)
  | [] => some []
  | .v (.string x) :: l => (strsOf l).map (x :: ·)
  | _ => none
theorem strsOf_map : ∀ {l : List SV} {xs : List ByteArray}, strsOf l = some xs → dens l = xs.map .string := by
  intro l
  induction l with
  | nil => intro xs h; cases h; rfl
  | cons x l ih =>
    intro xs h
    unfold strsOf at h
    split at h
    · next e => cases e
    · next y l' e =>
      cases e
      cases hs : strsOf l with
      | none => rw [hs] at h; cases h
      | some ys => rw [hs] at h; cases h; simp [dens, den, ih hs]
    · cases h
theorem intsOf_map : ∀ {l : List SV} {xs : List Int}, intsOf l = some xs → dens l = xs.map (.int .i64) := by
  intro l
  induction l with
  | nil => intro xs h; cases h; rfl
  | cons x l ih =>
    intro xs h
    unfold intsOf at h
    split at h
    · next e => cases e
    · next y l' e =>
      cases e
      cases hs : intsOf l with
      | none => rw [hs] at h; cases h
      | some ys => rw [hs] at h; cases h; simp [dens, den, ih hs]
    · cases h
def CellsAt (w : World) (b o : Nat) (vs : List Value) : Prop := b < w.heap.size ∧ ∀ j v, vs[j]? = some v → w.cell? ⟨b, o + j, none⟩ = some v
theorem CellsAt.part {w : World} {b o : Nat} {vs : List Value} (h : CellsAt w b o vs) (d n : Nat) : CellsAt w b (o + d) ((vs.drop d).take n) := by
  refine ⟨h.1, fun j v hv => ?_⟩
  rw [List.getElem?_take] at hv
  split at hv
  · rw [List.getElem?_drop] at hv
    have := h.2 _ _ hv
    rwa [← Nat.add_assoc] at this
  · cases hv
theorem CellsAt.sl {w : World} {b o c n : Nat} {vs : List Value} {f : Nat → Nat → Value} (h : CellsAt w b o vs) (hn : vs.length = n) (hc : n ≤ c) (hf : ∀ i, i < n → vs.getD i undef = f i 0) : SlOk w (some ⟨b, o, none⟩) c 1 n f := by
  refine ⟨hc, fun _ => ⟨b, o, rfl, h.1, fun i hi j hj => ?_⟩⟩
  have : j = 0 := by omega
  subst this
  rw [Nat.mul_one, Nat.add_zero, ← hf i hi]
  refine h.2 i _ ?_
  have : i < vs.length := by omega
  simp [List.getD, this]
theorem blk_cells {B : Nat} {w : World} {b : Nat} {cs : List SV} {t : TypeId} (h : Hold B w (.blk b cs t)) : CellsAt w b 0 (dens cs) := by
  refine ⟨lt_of_cells h.2, fun j v hv => ?_⟩
  rw [Nat.zero_add, cell_blk h.2]
  simpa using hv
def showC (b o n : Nat) : Ch → Option (List SV)
  | .blk b' cs _ => if b = b' ∧ o + n ≤ lenS cs then some (cut cs o n) else none
  | .cst b' o' cs => if b = b' ∧ o' ≤ o ∧ (o - o') + n ≤ lenS cs then some (cut cs (o - o') n) else none
  | _ => none
theorem showC_at {B : Nat} {w : World} {b o n : Nat} {c : Ch} {cs : List SV} (h : Hold B w c) (hs : showC b o n c = some cs) : CellsAt w b o (dens cs) ∧ cs.length = n ∧ foot c b := by
  unfold showC at hs
  split at hs
  · next b' ds t =>
    split at hs
    · next hc =>
      obtain ⟨rfl, hl⟩ := hc
      cases hs
      rw [lenS_eq] at hl
      refine ⟨?_, by rw [cut_eq]; simp; omega, rfl⟩
      have := (blk_cells h).part o n
      rwa [Nat.zero_add, ← cut_eq, ← dens_cut] at this
    · cases hs
  · next b' o' ds =>
    split at hs
    · next hc =>
      obtain ⟨rfl, hle, hl⟩ := hc
      cases hs
      rw [lenS_eq] at hl
      refine ⟨?_, by rw [cut_eq]; simp; omega, rfl⟩
      have := CellsAt.part (w := w) (b := b) (o := o') (vs := dens ds) h (o - o') n
      rwa [show o' + (o - o') = o by omega, ← cut_eq, ← dens_cut] at this
    · cases hs
  · cases hs
def keyS : SV → Nat
  | .g k _ _ _ | .gp k _ _ _ _ => k
  | _ => 0
def ownS (H : Nat → Ch) : SV → Bool
  | .g k _ _ _ | .gp k _ _ _ _ => mutb (H k)
  | .v (.slice none 0 0) => true
  | _ => false
def getS (H : Nat → Ch) : SV → Option (List ByteArray)
  | .g key A n c => (match H key with | .strs A' c' xs => if A = A' ∧ n = xs.length ∧ c = c' then some xs else none | _ => none)
  | .gp key b o n c => if n ≤ c then (showC b o n (H key)).bind strsOf else none
  | .v (.slice none 0 0) => some []
  | _ => none
def getN (H : Nat → Ch) : SV → Option (List Int)
  | .g key A n c => (match H key with
    | .ints A' c' .i64 xs => if A = A' ∧ n = xs.length ∧ c = c' then some xs else none
    | .rowV A' c' _ 1 n' cs => if A = A' ∧ n = n' ∧ c = c' ∧ cs.length = n then intsOf cs else none
    | _ => none)
  | .gp key b o n c => if n ≤ c then (showC b o n (H key)).bind intsOf else none
  | .v (.slice none 0 0) => some []
  | _ => none
theorem getS_ok {O : Nat → Prop} {w0 w : World} {hp : Hp} {x : SV} {xs : List ByteArray} (H : HH w0 O hp w) (h : getS (lookH hp) x = some xs) :
    ∃ A c, den x = .slice A xs.length c ∧ SlOk w A c 1 xs.length (fS xs) ∧ (xs ≠ [] → ∀ i, (∃ a, A = some a ∧ a.block = i) → foot (lookH hp (keyS x)) i) := by
  unfold getS at h
  split at h
  · next key A n c =>
    have hk := H.hold key
    split at h
    · next A' c' ys e =>
      split at h
      · next hc =>
        obtain ⟨rfl, rfl, rfl⟩ := hc
        cases h
        rw [e] at hk
        exact ⟨A, c, rfl, hk, fun hne i hi => by show foot (lookH hp key) i; rw [e]; exact ⟨hne, hi⟩⟩
      · cases h
    · cases h
  · next key b o n c =>
    split at h
    · next hc =>
      cases hs : showC b o n (lookH hp key) with
      | none => rw [hs] at h; cases h
      | some cs =>
        rw [hs] at h
        obtain ⟨h1, h2, h3⟩ := showC_at (H.hold key) hs
        have hm := strsOf_map h
        have hl : xs.length = n := by have := congrArg List.length hm; rw [dens_len] at this; simp at this; omega
        refine ⟨some ⟨b, o, none⟩, c, by rw [hl]; rfl, h1.sl (by rw [dens_len]; omega) (by omega) fun i hi => ?_, fun _ i hi => ?_⟩
        · rw [hm]; simp [List.getD, fS, hi]
        · obtain ⟨a, e, rfl⟩ := hi; cases e; exact h3
    · cases h
  · cases h; exact ⟨none, 0, rfl, ⟨Nat.le_refl _, fun h => absurd rfl h⟩, fun h => absurd rfl h⟩
  · cases h
theorem getN_ok {O : Nat → Prop} {w0 w : World} {hp : Hp} {x : SV} {xs : List Int} (H : HH w0 O hp w) (h : getN (lookH hp) x = some xs) :
    ∃ A c, den x = .slice A xs.length c ∧ SlOk w A c 1 xs.length (fI .i64 xs) ∧ (xs ≠ [] → ∀ i, (∃ a, A = some a ∧ a.block = i) → foot (lookH hp (keyS x)) i) := by
  unfold getN at h
  split at h
  · next key A n c =>
    have hk := H.hold key
    split at h
    · next A' c' ys e =>
      split at h
      · next hc =>
        obtain ⟨rfl, rfl, rfl⟩ := hc
        cases h
        rw [e] at hk
        exact ⟨A, c, rfl, hk, fun hne i hi => by show foot (lookH hp key) i; rw [e]; exact ⟨hne, hi⟩⟩
      · cases h
    · next A' c' t n' cs e =>
      split at h
      · next hc =>
        obtain ⟨rfl, rfl, rfl, hl⟩ := hc
        rw [e] at hk
        have hm := intsOf_map h
        have hl' : xs.length = n := by have := congrArg List.length hm; rw [dens_len] at this; simp at this; omega
        refine ⟨A, c, by rw [hl']; rfl, ?_, fun hne i hi => by show foot (lookH hp key) i; rw [e]; exact hi⟩
        have := row_sl hk
        rw [hl']
        refine this.congr fun i hi j hj => ?_
        have : j = 0 := by omega
        subst this
        rw [hm]; simp [List.getD, fI, hl', hi]
      · cases h
    · cases h
  · next key b o n c =>
    split at h
    · next hc =>
      cases hs : showC b o n (lookH hp key) with
      | none => rw [hs] at h; cases h
      | some cs =>
        rw [hs] at h
        obtain ⟨h1, h2, h3⟩ := showC_at (H.hold key) hs
        have hm := intsOf_map h
        have hl : xs.length = n := by have := congrArg List.length hm; rw [dens_len] at this; simp at this; omega
        refine ⟨some ⟨b, o, none⟩, c, by rw [hl]; rfl, h1.sl (by rw [dens_len]; omega) (by omega) fun i hi => ?_, fun _ i hi => ?_⟩
        · rw [hm]; simp [List.getD, fI, hi]
        · obtain ⟨a, e, rfl⟩ := hi; cases e; exact h3
    · cases h
  · cases h; exact ⟨none, 0, rfl, ⟨Nat.le_refl _, fun h => absurd rfl h⟩, fun h => absurd rfl h⟩
  · cases h
def allRd (B : Nat) (w : World) : Hp → Prop
  | [] => True
  | (_, c) :: l => (Hold B w c ∧ mutb c = false) ∧ allRd B w l
theorem allRd_look {B : Nat} {w : World} {l : Hp} (h : allRd B w l) (k : Nat) : Hold B w (lookH l k) ∧ mutb (lookH l k) = false := by
  induction l with
  | nil => exact ⟨trivial, rfl⟩
  | cons x l ih =>
    obtain ⟨i, c⟩ := x
    simp only [lookH]
    cases i == k
    · exact ih h.2
    · exact h.1
theorem hh_list {w : World} {hp : Hp} (h : allRd w.heap.size w hp) : HH w (oldOf hp) hp w :=
  ⟨Below.refl _ _, fun k b hb => .inr ⟨k, hb⟩, fun k => (allRd_look h k).1, fun k j _ hm => by rw [(allRd_look h k).2] at hm; cases hm⟩
theorem Stp.rd {w0 w w' : World} {hp ups : Hp} (hb : Below w.heap.size w w') (h : allRd w0.heap.size w' ups)
    (hf : ∀ k b, foot (lookH ups k) b → w.heap.size ≤ b ∨ ∃ j, foot (lookH hp j) b ∧ mutb (lookH hp j) = false) : Stp w0 hp w none ups w' :=
  ⟨hb.os, hb.tape, hb.output, hb.size, fun b hl _ => hb.block b hl, (by intro k hk; cases hk), fun k _ => (allRd_look h k).1,
   fun k _ b hbf => (hf k b hbf).imp id fun ⟨j, h1, h2⟩ => ⟨j, h1, .inr ⟨h2, (allRd_look h k).2⟩⟩,
   fun i j _ _ _ hm => by rw [(allRd_look h i).2] at hm; cases hm⟩
def numsL : List SV := [.v (.string ⟨#[105, 110, 105, 110]⟩), .v (.string ⟨#[105, 48, 105, 110, 105, 110]⟩), .v (.string ⟨#[105, 110, 105, 48, 105, 110]⟩), .v (.string ⟨#[105, 110, 105, 110, 105, 110]⟩)]
def alikeL : List SV := [.v (.string ⟨#[107, 48, 107, 110, 105, 110]⟩), .v (.string ⟨#[107, 110, 107, 48, 105, 110]⟩), .v (.string ⟨#[107, 110, 107, 110, 105, 110]⟩)]
def gHp (bn on cn ba oa ca : Nat) : Hp := [(0, .cst 0 0 [.gp 2 bn on 4 cn]), (1, .cst 1 0 [.gp 3 ba oa 3 ca]), (2, .cst bn on numsL), (3, .cst ba oa alikeL)]
def globR : Ch → Ch → Ch → Ch → Prop
  | .cst 0 0 [.gp 2 bn on 4 cn], .cst 1 0 [.gp 3 ba oa 3 ca], .cst bn' on' l, .cst ba' oa' l' => bn' = bn ∧ on' = on ∧ l = numsL ∧ ba' = ba ∧ oa' = oa ∧ l' = alikeL ∧ 4 ≤ cn ∧ 3 ≤ ca
  | _, _, _, _ => False
theorem globR_q {bn on cn ba oa ca bn' on' ba' oa' : Nat} {l l' : List SV} : globR (.cst 0 0 [.gp 2 bn on 4 cn]) (.cst 1 0 [.gp 3 ba oa 3 ca]) (.cst bn' on' l) (.cst ba' oa' l') = (bn' = bn ∧ on' = on ∧ l = numsL ∧ ba' = ba ∧ oa' = oa ∧ l' = alikeL ∧ 4 ≤ cn ∧ 3 ≤ ca) := rfl
theorem globR_ok {O : Nat → Prop} {w0 w : World} {hp : Hp} (H : HH w0 O hp w) (h : globR (lookH hp 0) (lookH hp 1) (lookH hp 2) (lookH hp 3)) :
    ∃ bn on cn ba oa ca, allRd w.heap.size w (gHp bn on cn ba oa ca) ∧ 4 ≤ cn ∧ 3 ≤ ca ∧ ∀ k, k < 4 → lookH hp k = lookH (gHp bn on cn ba oa ca) k := by
  unfold globR at h
  split at h
  · next bn on cn ba oa ca bn' on' l ba' oa' l' e0 e1 e2 e3 =>
    obtain ⟨rfl, rfl, rfl, rfl, rfl, rfl, h4, h3⟩ := h
    have k0 := H.hold 0; have k1 := H.hold 1; have k2 := H.hold 2; have k3 := H.hold 3
    rw [e0] at k0; rw [e1] at k1; rw [e2] at k2; rw [e3] at k3
    refine ⟨_, _, _, _, _, _, ⟨⟨k0, rfl⟩, ⟨k1, rfl⟩, ⟨k2, rfl⟩, ⟨k3, rfl⟩, trivial⟩, h4, h3, fun k hk => ?_⟩
    match k, hk with
    | 0, _ => exact e0
    | 1, _ => exact e1
    | 2, _ => exact e2
    | 3, _ => exact e3
  · exact h.elim
end Pr
end Go.Proofs.YtnpkmimbnjnicaaGreatDoor
/-
Words for slices of numbers (for every seat).
-/
set_option linter.unusedSimpArgs false
set_option linter.unusedVariables false
namespace Go.Proofs.YtnpkmimbnjnicaaGreatDoor
namespace Pr
open Go Go.RowKit En
def getNC (A : Option Addr) (n c : Nat) : Ch → Option (List Int)
  | .ints A' c' .i64 xs => if A = A' ∧ n = xs.length ∧ c = c' then some xs else none
  | .rowV A' c' _ 1 n' cs => if A = A' ∧ n = n' ∧ c = c' ∧ cs.length = n then intsOf cs else none
  | _ => none
theorem getN_q {H : Nat → Ch} {key : Nat} {A : Option Addr} {n c : Nat} : getN H (.g key A n c) = getNC A n c (H key) := by
  unfold getN getNC
  rfl
theorem getN_gp {H : Nat → Ch} {key b o n c : Nat} : getN H (.gp key b o n c) = if n ≤ c then (showC b o n (H key)).bind intsOf else none := (rfl)
theorem getN_nil {H : Nat → Ch} : getN H (.v (.slice none 0 0)) = some [] := (rfl)
theorem getNC_i {A A' : Option Addr} {n c c' : Nat} {xs : List Int} : getNC A n c (.ints A' c' .i64 xs) = if A = A' ∧ n = xs.length ∧ c = c' then some xs else none := (rfl)
theorem intsOf_mapv (xs : List Int) : intsOf (xs.map fun x => .v (.int .i64 x)) = some xs := by
  induction xs with
  | nil => rfl
  | cons x l ih => simp only [List.map_cons, intsOf, ih]; rfl
theorem allOne_mapv (k : IntKind) (xs : List Int) : allOne (xs.map fun x => .v (.int k x)) = true := by
  induction xs with
  | nil => rfl
  | cons x l ih => simp only [List.map_cons, allOne, ih]; rfl
theorem free_list {hp : Hp} {n : Nat} (h : allLt n hp) : ∀ k, n ≤ k → lookH hp k = .no := fun k hk => has_lookH (lookH_big h hk)
end Pr
end Go.Proofs.YtnpkmimbnjnicaaGreatDoor
/-
prims.errs, prims.pair (chapter 12).
-/
set_option linter.unusedSimpArgs false
set_option linter.unusedVariables false
namespace Go.Proofs.YtnpkmimbnjnicaaGreatDoor
namespace Pr
open Go Go.RowKit En
def tiP : List (TypeId × TI) :=
  [(9, ⟨true, false, 1, [.v (.string ⟨#[]⟩)], [], 0, 0, 0, 3, 0⟩),
   (30, ⟨true, false, 1, [.v (.slice none 0 0)], [], 9, 0, 16, 1, 1⟩),
   (22, ⟨true, false, 1, [.v (.slice none 0 0)], [], 23, 0, 8, 1, 1⟩),
   (23, ⟨true, false, 1, [.v (.int .i64 0)], [], 0, 0, 0, 13, 0⟩),
   (108, ⟨true, true, 5, [.v (.string ⟨#[]⟩), .v (.slice none 0 0), .v (.slice none 0 0), .v .nilFunc, .v .nilFunc], [(0, 1), (1, 1), (2, 1), (3, 1), (4, 1)], 0, 0, 0, 4, 0⟩),
   (3, ⟨true, false, 1, [.v (.int .i64 0)], [], 0, 0, 0, 13, 0⟩)]
theorem tiP_ok : TyAll Tryz.prog (lookT tiP) :=
  tyAll_cons (.mk' (by kernel_rfl) (by kernel_rfl) (by decide) (by decide) (by kernel_rfl) (by kernel_rfl)) <|
  tyAll_cons (.mk' (by kernel_rfl) (by kernel_rfl) (by decide) (by decide) (by kernel_rfl) (by kernel_rfl)) <|
  tyAll_cons (.mk' (by kernel_rfl) (by kernel_rfl) (by decide) (by decide) (by kernel_rfl) (by kernel_rfl)) <|
  tyAll_cons (.mk' (by kernel_rfl) (by kernel_rfl) (by decide) (by decide) (by kernel_rfl) (by kernel_rfl)) <|
  tyAll_cons (.mk' (by kernel_rfl) (by kernel_rfl) (by decide) (by decide) (by kernel_rfl) (by kernel_rfl)) <|
  tyAll_cons (.mk' (by kernel_rfl) (by kernel_rfl) (by decide) (by decide) (by kernel_rfl) (by kernel_rfl)) tyAll_nil
theorem errs_any (y : Value) (w : World) : Calls Tryz.prog 129 #[y] w fun e w' => e = .returned y ∧ Below w.heap.size w w' := by
  refine calls_run (args := [.v y]) (hp := []) (nx := 1000) (n := 100) (U := []) (V := []) (T := lookT tiP) (G := gnil) (post := fun s xs => xs = [.v y])
    followP tiP_ok gOk_nil Tryz.func129 rfl (by kernel_rfl) (by show 1 ≤ 4; decide) (hh_list trivial) (fun _ _ => rfl) ?_ ?_
  · rintro s xs w' rfl H
    exact ⟨rfl, H.below⟩
  rw [Tryz.results129]
  simp only [En.E, En.evsC, List.map_cons, List.map_nil, ne_eq, En.bitN, Nat.testBit, seval]
def spErrs : Spc
  | [x], _, _ => .is True x
  | _, _, _ => .bad
theorem spErrs_q {x : SV} {H : Nat → Ch} {nx : Nat} : spErrs [x] H nx = .is True x := rfl
theorem spErrs_ok : SpecOk Tryz.prog 129 spErrs := by
  intro args hp nx w0 O w H hv
  match args, hv with
  | [x], _ =>
    refine (errs_any (den x) w).mono ?_
    rintro e w' ⟨rfl, hb⟩
    exact ⟨⟨0, none, 0, none, 0, mz⟩, rfl, .still hb⟩
def gamErrs : Gam := gcons 129 spErrs gnil
theorem gamErrs_ok : GOk Tryz.prog gamErrs := gOk_cons (by kernel_rfl) spErrs_ok gOk_nil
def rowE (H : Nat → Ch) : SV → List Int → Prop
  | .g key A n c, l => (match H key with | .rowV A' c' e 1 n' cs => A = A' ∧ c = c' ∧ n = n' ∧ e = 23 ∧ intsOf cs = some l ∧ n = l.length | _ => False)
  | .gp key b 0 n c, l => (match H key with | .blk b' cs e => b = b' ∧ n = c ∧ e = 23 ∧ intsOf cs = some l ∧ n = l.length ∧ n ≤ 1000 | _ => False)
  | _, _ => False
theorem rowE_ok {O : Nat → Prop} {w0 w : World} {hp : Hp} {E : SV} {l : List Int} (H : HH w0 O hp w) (h : rowE (lookH hp) E l) :
    ∃ A c, den E = .slice A l.length c ∧ w.ownsRow w0.heap.size 23 1 (.slice A l.length c) l.length (l.map (.int .i64)) := by
  unfold rowE at h
  split at h
  · next key A n c =>
    have hk := H.hold key
    split at h
    · next A' c' e n' cs ec =>
      obtain ⟨rfl, rfl, rfl, rfl, h1, rfl⟩ := h
      rw [ec] at hk
      rw [← intsOf_map h1]
      exact ⟨A, c, rfl, hk⟩
    · exact h.elim
  · next key b n c =>
    have hk := H.hold key
    split at h
    · next b' cs e ec =>
      obtain ⟨rfl, rfl, rfl, h1, rfl, hn⟩ := h
      rw [ec] at hk
      have hm := intsOf_map h1
      have hl : cs.length = l.length := by have := congrArg List.length hm; rw [dens_len] at this; simpa using this
      rw [← hm]
      refine ⟨_, _, rfl, by rw [dens_len]; omega, .inr ⟨b, _, _, rfl, hk.1, hk.2, Nat.le_refl _, by simp only [maxLen]; omega, by simp [dens_len, hl], ?_⟩⟩
      simp only [List.toList_toArray, Nat.mul_one]
      rw [← hl, ← dens_len cs]; exact List.take_length
    · exact h.elim
  · exact h.elim
def PairRet (nm : ByteArray) (bn on cn : Nat) (xs : List Int) (w : World) (e : Ending) (w' : World) : Prop :=
  Below w.heap.size w w' ∧ ∃ A c, e = .returned (.agg #[.string nm, .slice (some ⟨bn, on + 1, none⟩) 3 (cn - 1), .slice A xs.length c, .nilFunc, .nilFunc]) ∧ w'.ownsRow w.heap.size 23 1 (.slice A xs.length c) xs.length (xs.map (.int .i64))
def pairPost (nm : ByteArray) (bn on cn : Nat) (l : List Int) (s : SS) (xs : List SV) : Prop :=
  ∃ E, xs = [.agg [.v (.string nm), .gp 2 bn (on + 1) 3 (cn - 1), E, .v .nilFunc, .v .nilFunc]] ∧ rowE (lookH s.hp) E l
theorem pair_of {nm : ByteArray} {bn on cn : Nat} {l : List Int} {s : SS} {xs : List SV} {O : Nat → Prop} {w w' : World} (hp : pairPost nm bn on cn l s xs) (H : HH w O s.hp w') : PairRet nm bn on cn l w (.returned (oneV xs)) w' := by
  obtain ⟨E, rfl, h1⟩ := hp
  obtain ⟨A, c, e, hs⟩ := rowE_ok H h1
  exact ⟨H.below, A, c, by simp [oneV, den, dens, e], hs⟩
set_option maxRecDepth 100000 in
set_option maxHeartbeats 8000000 in
theorem pair0 (nm : ByteArray) (bn on cn ba oa ca : Nat) (h4 : 4 ≤ cn) (w : World) (hg : allRd w.heap.size w (gHp bn on cn ba oa ca)) :
    Calls Tryz.prog 141 #[.string nm, .slice none 0 0] w (PairRet nm bn on cn [11] w) := by
  have hc : (1 == cn) = false := by simp; omega
  have h4' : (4 : Int) ≤ cn := by omega
  refine calls_run (args := [.v (.string nm), .v (.slice none 0 0)]) (hp := gHp bn on cn ba oa ca) (nx := 1001) (n := 200) (U := []) (V := [(1, ([(6, 3049)], [(1, [3049]), (2, [3049])]))]) (T := lookT tiP) (G := gamErrs) (post := pairPost nm bn on cn [11])
    followP tiP_ok gamErrs_ok Tryz.func141 rfl (by kernel_rfl) (by show 2 ≤ 13; decide) (hh_list hg) (free_list (by simp [allLt, gHp])) ?_ ?_
  · exact fun s xs w' hp H => pair_of hp H
  rw [Tryz.results141]
  simp (maxSteps := 10000000) only [En.E, En.evsC, List.map_cons, List.map_nil, ne_eq, En.bitN, Nat.testBit, seval, tiP, gamErrs, spErrs_q, gHp, hc, h4']
  intro b b1
  exact ⟨_, rfl, by simp [rowE, lookH, intsOf]⟩
set_option maxRecDepth 100000 in
set_option maxHeartbeats 8000000 in
theorem pair1 (nm : ByteArray) (bn on cn ba oa ca : Nat) (h4 : 4 ≤ cn) (b o c : Nat) (x : Int) (w : World) (hg : allRd w.heap.size w (gHp bn on cn ba oa ca)) (hx : Hold w.heap.size w (.cst b o [.v (.int .i64 x)])) :
    Calls Tryz.prog 141 #[.string nm, .slice (some ⟨b, o, none⟩) 1 c] w (PairRet nm bn on cn [11, x] w) := by
  have hc : (1 == cn) = false := by simp; omega
  have h4' : (4 : Int) ≤ cn := by omega
  refine calls_run (args := [.v (.string nm), .gp 1000 b o 1 c]) (hp := (1000, .cst b o [.v (.int .i64 x)]) :: gHp bn on cn ba oa ca) (nx := 1001) (n := 200) (U := []) (V := [(1, ([(6, 3049)], [(1, [3049]), (2, [3049])]))]) (T := lookT tiP) (G := gamErrs) (post := pairPost nm bn on cn [11, x])
    followP tiP_ok gamErrs_ok Tryz.func141 rfl (by kernel_rfl) (by show 2 ≤ 13; decide) (hh_list ⟨⟨hx, rfl⟩, hg⟩) (free_list (by simp [allLt, gHp])) ?_ ?_
  · exact fun s xs w' hp H => pair_of hp H
  rw [Tryz.results141]
  simp (maxSteps := 10000000) only [En.E, En.evsC, List.map_cons, List.map_nil, ne_eq, En.bitN, Nat.testBit, seval, tiP, gamErrs, spErrs_q, gHp, hc, h4']
  intro b1 b2 A c1
  exact ⟨_, rfl, by simp [rowE, lookH, intsOf]⟩
set_option maxRecDepth 100000 in
set_option maxHeartbeats 8000000 in
theorem pair2 (nm : ByteArray) (bn on cn ba oa ca : Nat) (h4 : 4 ≤ cn) (b o c : Nat) (x y : Int) (w : World) (hg : allRd w.heap.size w (gHp bn on cn ba oa ca)) (hx : Hold w.heap.size w (.cst b o [.v (.int .i64 x), .v (.int .i64 y)])) :
    Calls Tryz.prog 141 #[.string nm, .slice (some ⟨b, o, none⟩) 2 c] w (PairRet nm bn on cn [11, x, y] w) := by
  have hc : (1 == cn) = false := by simp; omega
  have h4' : (4 : Int) ≤ cn := by omega
  refine calls_run (args := [.v (.string nm), .gp 1000 b o 2 c]) (hp := (1000, .cst b o [.v (.int .i64 x), .v (.int .i64 y)]) :: gHp bn on cn ba oa ca) (nx := 1001) (n := 200) (U := []) (V := [(1, ([(6, 3049)], [(1, [3049]), (2, [3049])]))]) (T := lookT tiP) (G := gamErrs) (post := pairPost nm bn on cn [11, x, y])
    followP tiP_ok gamErrs_ok Tryz.func141 rfl (by kernel_rfl) (by show 2 ≤ 13; decide) (hh_list ⟨⟨hx, rfl⟩, hg⟩) (free_list (by simp [allLt, gHp])) ?_ ?_
  · exact fun s xs w' hp H => pair_of hp H
  rw [Tryz.results141]
  simp (maxSteps := 10000000) only [En.E, En.evsC, List.map_cons, List.map_nil, ne_eq, En.bitN, Nat.testBit, seval, tiP, gamErrs, spErrs_q, gHp, hc, h4']
  intro b1 b2 A c1
  exact ⟨_, rfl, by simp [rowE, lookH, intsOf]⟩
end Pr
end Go.Proofs.YtnpkmimbnjnicaaGreatDoor
/-
prims.table (chapter 12), run.
-/
set_option linter.unusedSimpArgs false
set_option linter.unusedVariables false
namespace Go.Proofs.YtnpkmimbnjnicaaGreatDoor
namespace Pr
open Go Go.RowKit En
def cellsI : List Int → List SV
  | [] => []
  | x :: l => .v (.int .i64 x) :: cellsI l
theorem cellsI_nil : cellsI [] = [] := rfl
theorem cellsI_cons {x : Int} {l : List Int} : cellsI (x :: l) = .v (.int .i64 x) :: cellsI l := rfl
theorem cellsI_den (l : List Int) : dens (cellsI l) = l.map (.int .i64) := by
  induction l with
  | nil => rfl
  | cons x l ih => simp [cellsI, dens, den, ih]
def pairRes (nm : ByteArray) (l : List Int) (g : Prop) (nx : Nat) : Ch → Res
  | .cst 0 0 [.gp 2 bn on 4 cn] => .val g fun A c => (.agg [.v (.string nm), .gp 2 bn (on + 1) 3 (cn - 1), .g nx A (lenS l + 1) c, .v .nilFunc, .v .nilFunc], [(nx, .rowV A c 23 1 (lenS l + 1) (.v (.int .i64 11) :: cellsI l))])
  | _ => .bad
def pairB (nm : ByteArray) (b n : Nat) (g : Prop) (h0 : Ch) (nx : Nat) : Ch → Res
  | .blk b' [.v (.int .i64 x)] _ => pairRes nm [x] (g ∧ b = b' ∧ n = 1) nx h0
  | .blk b' [.v (.int .i64 x), .v (.int .i64 y)] _ => pairRes nm [x, y] (g ∧ b = b' ∧ n = 2) nx h0
  | _ => .bad
def spPair : Spc
  | [.v (.string nm), .v (.slice none 0 0)], H, nx => pairRes nm [] (globR (H 0) (H 1) (H 2) (H 3)) nx (H 0)
  | [.v (.string nm), .gp key b 0 n c], H, nx => pairB nm b n (globR (H 0) (H 1) (H 2) (H 3) ∧ n ≤ c) (H 0) nx (H key)
  | _, _, _ => .bad
theorem spPair_q0 {nm : ByteArray} {H : Nat → Ch} {nx : Nat} : spPair [.v (.string nm), .v (.slice none 0 0)] H nx = pairRes nm [] (globR (H 0) (H 1) (H 2) (H 3)) nx (H 0) := rfl
theorem spPair_q1 {nm : ByteArray} {key b n c : Nat} {H : Nat → Ch} {nx : Nat} : spPair [.v (.string nm), .gp key b 0 n c] H nx = pairB nm b n (globR (H 0) (H 1) (H 2) (H 3) ∧ n ≤ c) (H 0) nx (H key) := rfl
theorem pairB_q1 {nm : ByteArray} {b n b' nx : Nat} {g : Prop} {h0 : Ch} {x : Int} {t : TypeId} : pairB nm b n g h0 nx (.blk b' [.v (.int .i64 x)] t) = pairRes nm [x] (g ∧ b = b' ∧ n = 1) nx h0 := rfl
theorem pairB_q2 {nm : ByteArray} {b n b' nx : Nat} {g : Prop} {h0 : Ch} {x y : Int} {t : TypeId} : pairB nm b n g h0 nx (.blk b' [.v (.int .i64 x), .v (.int .i64 y)] t) = pairRes nm [x, y] (g ∧ b = b' ∧ n = 2) nx h0 := rfl
theorem pairRes_q {nm : ByteArray} {l : List Int} {g : Prop} {nx bn on cn : Nat} : pairRes nm l g nx (.cst 0 0 [.gp 2 bn on 4 cn]) = .val g fun A c => (.agg [.v (.string nm), .gp 2 bn (on + 1) 3 (cn - 1), .g nx A (lenS l + 1) c, .v .nilFunc, .v .nilFunc], [(nx, .rowV A c 23 1 (lenS l + 1) (.v (.int .i64 11) :: cellsI l))]) := rfl
theorem lenI_nil : lenS ([] : List Int) = 0 := rfl
theorem lenI_cons {x : Int} {l : List Int} : lenS (x :: l) = lenS l + 1 := rfl
theorem pairRes_ok {nm : ByteArray} {l : List Int} {g : Prop} {nx : Nat} {O : Nat → Prop} {w0 w : World} {hp : Hp} {args : Array Value} (H : HH w0 O hp w) (hg : g → globR (lookH hp 0) (lookH hp 1) (lookH hp 2) (lookH hp 3)) (hv : (pairRes nm l g nx (lookH hp 0)).vc)
    (h : ∀ bn on cn ba oa ca, 4 ≤ cn → allRd w.heap.size w (gHp bn on cn ba oa ca) → g → Calls Tryz.prog 141 args w (PairRet nm bn on cn (11 :: l) w)) :
    Calls Tryz.prog 141 args w (fun e w' => ∃ u, e = .returned (den ((pairRes nm l g nx (lookH hp 0)).out u).1) ∧ Stp w0 hp w (pairRes nm l g nx (lookH hp 0)).wr ((pairRes nm l g nx (lookH hp 0)).out u).2 w') := by
  unfold pairRes at hv
  split at hv
  · next bn on cn e =>
    obtain ⟨bn', on', cn', ba, oa, ca, hr, h4, h3, hk⟩ := globR_ok H (hg hv)
    have k0 := hk 0 (by decide)
    rw [e] at k0
    simp only [gHp, lookH, beq_self_eq_true, cond_true] at k0
    injection k0 with _ _ k0
    injection k0 with k0
    injection k0 with _ e1 e2 _ e3
    subst e1 e2 e3
    refine (h _ _ _ _ _ _ h4 hr hv).mono ?_
    rintro f w' ⟨hb, A, c, rfl, hs⟩
    rw [e]
    have hs' : Hold w.heap.size w' (.rowV A c 23 1 (lenS l + 1) (.v (.int .i64 11) :: cellsI l)) := by
      have e : dens (SV.v (.int .i64 11) :: cellsI l) = (11 :: l).map (.int .i64) := by simp [dens, den, cellsI_den]
      have e2 : lenS l + 1 = (11 :: l).length := by simp [lenS_eq]
      simp only [Hold]
      rw [e, e2]; exact hs
    refine ⟨⟨0, A, c, none, 0, mz⟩, by simp [pairRes, Res.out, den, dens, lenS_eq], Stp.one hb (c := .rowV A c 23 1 (lenS l + 1) (.v (.int .i64 11) :: cellsI l)) ?_ fun b hfb => .inl (hs'.ge rfl b hfb)⟩
    exact own_weak hs' H.below.size
  · exact hv.elim
theorem spPair_ok : SpecOk Tryz.prog 141 spPair := by
  intro args hp nx w0 O w H hv
  unfold spPair at hv ⊢
  split at hv
  · next nm =>
    refine pairRes_ok H (fun h => h) hv fun bn on cn ba oa ca h4 hr hg => ?_
    exact pair0 nm bn on cn ba oa ca h4 w hr
  · next nm key b n c =>
    have hk := H.hold key
    unfold pairB at hv ⊢
    split at hv
    · next b' x t e =>
      rw [e] at hk
      refine pairRes_ok H (fun h => h.1.1) hv fun bn on cn ba oa ca h4 hr hg => ?_
      obtain ⟨⟨_, _⟩, rfl, rfl⟩ := hg
      exact pair1 nm bn on cn ba oa ca h4 b 0 c x w hr (blk_cells hk)
    · next b' x y t e =>
      rw [e] at hk
      refine pairRes_ok H (fun h => h.1.1) hv fun bn on cn ba oa ca h4 hr hg => ?_
      obtain ⟨⟨_, _⟩, rfl, rfl⟩ := hg
      exact pair2 nm bn on cn ba oa ca h4 b 0 c x y w hr (blk_cells hk)
    · exact hv.elim
  · exact hv.elim
def gamTable : Gam := gcons 129 spErrs (gcons 141 spPair gnil)
theorem gamTable_ok : GOk Tryz.prog gamTable := gOk_cons (by kernel_rfl) spErrs_ok <| gOk_cons (by kernel_rfl) spPair_ok gOk_nil
end Pr
end Go.Proofs.YtnpkmimbnjnicaaGreatDoor
