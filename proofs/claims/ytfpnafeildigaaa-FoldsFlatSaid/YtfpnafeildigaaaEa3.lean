/-
The engine: its rules, one by one (printed by genK.py; for every seat).
-/
import Derived.Test.YtfpnafeildigaaaEa2
import Derived.Test.YtfpnafeildigaaaBa5
import Derived.Test.YtfpnafeildigaaaRows
set_option linter.unusedSimpArgs false
set_option linter.unusedVariables false
namespace Go.Proofs.Ytfpnafeildigaaa
namespace En
open Go Go.RowKit
def lookB (b : Bool) (x : SV) (l : List (Nat × SV)) (u : Nat) : SV := bif b then x else look l u
def lookHB (b : Bool) (x : Ch) (l : Hp) (u : Nat) : Ch := bif b then x else lookH l u
def visB (b : Bool) (mp : Nat) (u : Hp) (l : List Ent) (h : Hp) : Hp := bif b then app u (visH mp l h) else visH mp l h
def mpB (b : Bool) (i : Nat) (u : Hp) (mp : Nat) (l : List Ent) (j : Nat) : Nat := bif b then consE i u mp else mpE l j
def mpOfB (b : Bool) (x y : Nat) : Nat := bif b then x ||| y else y
def fltB (b : Bool) (n t : Nat) (x : SV) (l : List (Nat × SV)) : List (Nat × SV) := bif b then (t, x) :: fltS (n + 1) l else fltS (n + 1) l
def setHB (b : Bool) (k : Nat) (c : Ch) (t : Nat) (d : Ch) (l : Hp) : Hp := bif b then (t, c) :: l else (t, d) :: setH k c l
def lookNB (b : Bool) (x : Nat) (l : List (Nat × Nat)) (u : Nat) : Nat := bif b then x else lookN l u
def fillP (p : Prop) (r : Prop × List SV) : Prop × List SV := (p ∧ r.1, r.2)
def fillG (pl : Nat → Option (Nat × Nat)) (cs : List SV) (x : SV) (is : List Nat) (xs : List SV) : Option (Nat × Nat) → Prop × List SV
  | some (d, n) => fillP (cells x ≠ [] ∧ lenS (cells x) = n ∧ d + n ≤ lenS cs) (fillS pl (putAt cs d (cells x)) is xs)
  | none => (False, cs)
def bltA (ti tj : TI) (q : Bool) (H : Nat → Ch) (nx : Nat) (xs : List SV) : Res := bif q && ti.ok && ti.sort == 1 && tj.ok && tj.size == ti.esz && lenS tj.zero == ti.esz then appR ti H nx xs else .bad
def appDB (ti : TI) (nx m : Nat) (p : Prop) (cs : List SV) (k b n c : Nat) : Ch → Res
  | .blk b' ds t => .app (p ∧ n + m ≤ 9223372036854775807 ∧ (n + m) * ti.bytes ≤ 140737488355328 ∧ lenS cs = m * ti.esz ∧ allOne cs = true ∧ b = b' ∧ n = c ∧ t = ti.elem ∧ lenS ds = n * ti.esz) k fun A c => (.g nx A (n + m) c, [(k, .no), (nx, .rowV A c ti.elem ti.esz (n + m) (ds ++ cs))])
  | _ => .bad
def appDR (ti : TI) (nx m : Nat) (p : Prop) (cs : List SV) (k : Nat) (A : Option Addr) (n c : Nat) : Ch → Res
  | .rowV A' c' e z n' ds => .app (p ∧ n + m ≤ 9223372036854775807 ∧ (n + m) * ti.bytes ≤ 140737488355328 ∧ lenS cs = m * ti.esz ∧ allOne cs = true ∧ A = A' ∧ c = c' ∧ e = ti.elem ∧ z = ti.esz ∧ n = n') k fun A c => (.g nx A (n + m) c, [(k, .no), (nx, .rowV A c ti.elem ti.esz (n + m) (ds ++ cs))])
  | _ => .bad
def appB (ti : TI) (nx : Nat) (H : Nat → Ch) (m : Nat) (r : Prop × List SV) (x : SV) : Res := appD ti H nx m r.1 r.2 x
def viewB (b : Bool) (hd : List Nat) (mp : Nat) (E : List Ent) (hp : Hp) : Hp := bif b then hideH hd (visH mp E hp) else []
def lookVB (b : Bool) (x : XT × YT) (l : VT) (u : Nat) : XT × YT := bif b then x else lookV l u
def lookXB (b : Bool) (x : Nat) (l : XT) (u : Nat) : Option Nat := bif b then some x else lookX l u
def lookYB (b : Bool) (x : List Nat) (l : YT) (u : Nat) : List Nat := bif b then x else lookY l u
def coreB (b : Bool) (P : Prop) (T : TypeId → TI) (G : Gam) (H : Nat → Ch) (nx : Nat) (op : Op) (xs : List SV) : Res := bif b then addVc P (core T G H nx op xs) else .bad
def ifB (R : List It → SS → Prop) (c c3 : Code) (k : List It) (s : SS) (p : Bool) : Prop := (p = true → R (.code c :: k) s) ∧ (p = false → R (.code c3 :: k) s)
def stF (F : List Ent → List (Nat × SV) → Prop) (T : TypeId → TI) (G : Gam) (all : List Oper) (i : Nat) (d : Option Tmp) (op : Op) (g : Option (Nat × Bool)) (mp : Nat) (xk : Option Nat) (lo : Nat) (V : Hp) (E : List Ent) (sl : List (Nat × SV)) : Prop :=
  stD F i d mp (mayW op) xk lo (lookH V) E sl (opG (coreS T G (lookH V) lo op (mapS sl (opds' op))) (guardV all sl g))
def skipB (b : Bool) (id : Nat) (k : List It) : List It := bif b then k else skipTo id k
def lookTB (b : Bool) (x : TI) (l : List (TypeId × TI)) (u : TypeId) : TI := bif b then x else lookT l u
def gB (b : Bool) (sp : Spc) (G : Gam) (g : FuncId) (args : List SV) (H : Nat → Ch) (nx : Nat) : Res := bif b then sp args H nx else G g args H nx
def cellsB (b : Bool) (nx : Nat) (l : List SV) (t : TypeId) : Res := bif b then .new True fun b => (.p nx b 0, [(nx, .blk b l t)]) else .bad
def putB (b : Bool) (P : Prop) (k : Nat) (c : Ch) : Res := bif b then .put P k c else .bad
theorem q0 {u : Nat} {x : SV} {sl : List (Nat × SV)} : (lookB true x sl u) = (x) := rfl
theorem q1 {u : Nat} {x : SV} {sl : List (Nat × SV)} : (lookB false x sl u) = (look sl u) := rfl
theorem q2 {t : Nat} {u : Nat} {x : SV} {sl : List (Nat × SV)} : (look ((t, x) :: sl) u) = (lookB (t == u) x sl u) := rfl
theorem q3 {u : Nat} : (look [] u) = (.un) := rfl
theorem q4 {u : Nat} {hp : Hp} {ch : Ch} : (lookHB true ch hp u) = (ch) := rfl
theorem q5 {u : Nat} {hp : Hp} {ch : Ch} : (lookHB false ch hp u) = (lookH hp u) := rfl
theorem q6 {t : Nat} {u : Nat} {hp : Hp} {ch : Ch} : (lookH ((t, ch) :: hp) u) = (lookHB (t == u) ch hp u) := rfl
theorem q7 {u : Nat} : (lookH [] u) = (.no) := rfl
theorem q8 {hp : Hp} : (app [] hp) = (hp) := rfl
theorem q9 {t : Nat} {hp : Hp} {hq : Hp} {ch : Ch} : (app ((t, ch) :: hp) hq) = ((t, ch) :: app hp hq) := rfl
theorem q10 {hp : Hp} {hq : Hp} {E : List Ent} {mp : Nat} : (visB true mp hq E hp) = (app hq (visH mp E hp)) := rfl
theorem q11 {hp : Hp} {hq : Hp} {E : List Ent} {mp : Nat} : (visB false mp hq E hp) = (visH mp E hp) := rfl
theorem q12 {i : Nat} {x : SV} {hp : Hp} {hq : Hp} {E : List Ent} {mp : Nat} {mq : Nat} {dst : Option Tmp} : (visH mp (⟨i, dst, x, hq, mq⟩ :: E) hp) = (visB (bitN mp i) mp hq E hp) := rfl
theorem q13 {hp : Hp} {mp : Nat} : (visH mp [] hp) = (hp) := rfl
theorem q14 {i : Nat} {x : SV} {hp : Hp} {hq : Hp} {E : List Ent} {mq : Nat} {dst : Option Tmp} : (allH (⟨i, dst, x, hq, mq⟩ :: E) hp) = (app hq (allH E hp)) := rfl
theorem q15 {hp : Hp} : (allH [] hp) = (hp) := rfl
theorem q16 {i : Nat} {mp : Nat} : (consE i [] mp) = (mp) := rfl
theorem q17 {i : Nat} {t : Nat} {hp : Hp} {mp : Nat} {ch : Ch} : (consE i ((t, ch) :: hp) mp) = (mp ||| 1 <<< i) := rfl
theorem q18 {i : Nat} {j : Nat} {hp : Hp} {E : List Ent} {mp : Nat} : (mpB true i hp mp E j) = (consE i hp mp) := rfl
theorem q19 {i : Nat} {j : Nat} {hp : Hp} {E : List Ent} {mp : Nat} : (mpB false i hp mp E j) = (mpE E j) := rfl
theorem q20 {i : Nat} {j : Nat} {x : SV} {hp : Hp} {E : List Ent} {mp : Nat} {dst : Option Tmp} : (mpE (⟨i, dst, x, hp, mp⟩ :: E) j) = (mpB (i == j) i hp mp E j) := rfl
theorem q21 {j : Nat} : (mpE [] j) = (0) := rfl
theorem q22 {j : Nat} {E : List Ent} {es : List Edge} {gr : Ground} : (mpOf (⟨j, gr⟩ :: es) E) = (mpOfB (bnd ⟨j, gr⟩) (mpE E j) (mpOf es E)) := rfl
theorem q23 {mp : Nat} {mq : Nat} : (mpOfB true mp mq) = (mp ||| mq) := rfl
theorem q24 {mp : Nat} {mq : Nat} : (mpOfB false mp mq) = (mq) := rfl
theorem q25 {j : Nat} : (bnd ⟨j, .data⟩) = (true) := rfl
theorem q26 {j : Nat} : (bnd ⟨j, .phase⟩) = (true) := rfl
theorem q27 {j : Nat} : (bnd ⟨j, .chain⟩) = (true) := rfl
theorem q28 {j : Nat} : (bnd ⟨j, .guard⟩) = (true) := rfl
theorem q29 {j : Nat} {dp : Departure} : (bnd ⟨j, .textOnly dp⟩) = (false) := rfl
theorem q30 {j : Nat} {dp : Departure} : (bnd ⟨j, .gcOnly dp⟩) = (false) := rfl
theorem q31 {E : List Ent} : (mpOf [] E) = (0) := rfl
theorem q32 {n : Nat} {u : Nat} {U : List (Nat × Nat)} : (lookNB true n U u) = (n) := rfl
theorem q33 {n : Nat} {u : Nat} {U : List (Nat × Nat)} : (lookNB false n U u) = (lookN U u) := rfl
theorem q34 {n : Nat} {t : Nat} {u : Nat} {U : List (Nat × Nat)} : (lookN ((t, n) :: U) u) = (lookNB (t == u) n U u) := rfl
theorem q35 {u : Nat} : (lookN [] u) = (0) := rfl
theorem q36 {hp : Hp} {E : List Ent} {mp : Nat} {hd : List Nat} : (viewB true hd mp E hp) = (hideH hd (visH mp E hp)) := rfl
theorem q37 {hp : Hp} {E : List Ent} {mp : Nat} {hd : List Nat} : (viewB false hd mp E hp) = ([]) := rfl
theorem q38 {hp : Hp} {E : List Ent} {mp : Nat} {hd : List Nat} {op : Op} : (viewH op hd mp E hp) = (viewB (touch op) hd mp E hp) := rfl
theorem q39 {t : Nat} {x : SV} {sl : List (Nat × SV)} : (consS (some t) x sl) = ((t, x) :: sl) := rfl
theorem q40 {x : SV} {sl : List (Nat × SV)} : (consS none x sl) = (sl) := rfl
theorem q41 {x : SV} {l : List SV} : (nth (x :: l) 0) = (x) := rfl
theorem q42 {n : Nat} {x : SV} {l : List SV} : (nth (x :: l) (n + 1)) = (nth l n) := rfl
theorem q43 {n : Nat} {l : List SV} : (cut l n 0) = ([]) := (by cases l <;> rfl)
theorem q44 {n : Nat} {x : SV} {l : List SV} : (cut (x :: l) 0 (n + 1)) = (x :: cut l 0 n) := rfl
theorem q45 {n : Nat} {j : Nat} {x : SV} {l : List SV} : (cut (x :: l) (j + 1) (n + 1)) = (cut l j (n + 1)) := rfl
theorem q46 {n : Nat} {l : List SV} : (putAt l n []) = (l) := (by cases l <;> rfl)
theorem q47 {x : SV} {y : SV} {l : List SV} {m : List SV} : (putAt (x :: l) 0 (y :: m)) = (y :: putAt l 0 m) := rfl
theorem q48 {n : Nat} {x : SV} {y : SV} {l : List SV} {m : List SV} : (putAt (x :: l) (n + 1) (y :: m)) = (x :: putAt l n (y :: m)) := rfl
theorem q49  : (lenS ([] : List SV)) = (0) := rfl
theorem q50 {x : SV} {l : List SV} : (lenS (x :: l)) = (lenS l + 1) := rfl
theorem q51 {t : Nat} {u : Nat} {offs : List (Nat × Nat)} : (offAt ((t, u) :: offs) 0) = (some (t, u)) := rfl
theorem q52 {n : Nat} {t : Nat} {u : Nat} {offs : List (Nat × Nat)} : (offAt ((t, u) :: offs) (n + 1)) = (offAt offs n) := rfl
theorem q53 {acc : List SV} : (revS [] acc) = (acc) := rfl
theorem q54 {x : SV} {l : List SV} {acc : List SV} : (revS (x :: l) acc) = (revS l (x :: acc)) := rfl
theorem q55 {i : Nat} : (slots i []) = ([]) := rfl
theorem q56 {i : Nat} {x : SV} {l : List SV} : (slots i (x :: l)) = ((i, x) :: slots (i + 1) l) := rfl
theorem q57 {ol : List Oper} {dst : Option Tmp} {op : Op} {ty : TypeId} {pos : String} {ae : Array Edge} {gd : Option (Nat × Bool)} : (dstAt (⟨dst, op, ty, pos, ae, gd⟩ :: ol) 0) = (dst) := rfl
theorem q58 {n : Nat} {ol : List Oper} {o : Oper} : (dstAt (o :: ol) (n + 1)) = (dstAt ol n) := rfl
theorem q59 {t : Nat} {sl : List (Nat × SV)} : (lookO sl (some t)) = (look sl t) := rfl
theorem q60 {sl : List (Nat × SV)} : (lookO sl none) = (.un) := rfl
theorem q61 {val : Value} : (strip1 (.v val : SV)) = ((.v val : SV)) := rfl
theorem q62 {val : Value} : (stripP1 (.v val : SV)) = (True) := rfl
theorem q63 {val : Value} : (known (.v val : SV)) = (true) := rfl
theorem q64 {val : Value} : (retT (.v val : SV)) = (.is True (.v val : SV)) := rfl
theorem q65 {b : Nat} {key : Nat} {off : Nat} : (strip1 (.p key b off : SV)) = ((.p key b off : SV)) := rfl
theorem q66 {b : Nat} {key : Nat} {off : Nat} : (stripP1 (.p key b off : SV)) = (True) := rfl
theorem q67 {b : Nat} {key : Nat} {off : Nat} : (known (.p key b off : SV)) = (true) := rfl
theorem q68 {b : Nat} {key : Nat} {off : Nat} : (retT (.p key b off : SV)) = (.is True (.p key b off : SV)) := rfl
theorem q69 {b : Nat} {key : Nat} {off : Nat} : (oneC (.p key b off : SV)) = (true) := rfl
theorem q70 {b : Nat} {key : Nat} {off : Nat} : (cells (.p key b off : SV)) = ([(.p key b off : SV)]) := rfl
theorem q71 {n : Nat} {cp : Nat} {key : Nat} {A : Option Addr} : (strip1 (.g key A n cp : SV)) = ((.g key A n cp : SV)) := rfl
theorem q72 {n : Nat} {cp : Nat} {key : Nat} {A : Option Addr} : (stripP1 (.g key A n cp : SV)) = (True) := rfl
theorem q73 {n : Nat} {cp : Nat} {key : Nat} {A : Option Addr} : (known (.g key A n cp : SV)) = (true) := rfl
theorem q74 {n : Nat} {cp : Nat} {key : Nat} {A : Option Addr} : (retT (.g key A n cp : SV)) = (.is True (.g key A n cp : SV)) := rfl
theorem q75 {n : Nat} {cp : Nat} {key : Nat} {A : Option Addr} : (oneC (.g key A n cp : SV)) = (true) := rfl
theorem q76 {n : Nat} {cp : Nat} {key : Nat} {A : Option Addr} : (cells (.g key A n cp : SV)) = ([(.g key A n cp : SV)]) := rfl
theorem q77 {n : Nat} {b : Nat} {cp : Nat} {key : Nat} {off : Nat} : (strip1 (.gp key b off n cp : SV)) = ((.gp key b off n cp : SV)) := rfl
theorem q78 {n : Nat} {b : Nat} {cp : Nat} {key : Nat} {off : Nat} : (stripP1 (.gp key b off n cp : SV)) = (True) := rfl
theorem q79 {n : Nat} {b : Nat} {cp : Nat} {key : Nat} {off : Nat} : (known (.gp key b off n cp : SV)) = (true) := rfl
theorem q80 {n : Nat} {b : Nat} {cp : Nat} {key : Nat} {off : Nat} : (retT (.gp key b off n cp : SV)) = (.is True (.gp key b off n cp : SV)) := rfl
theorem q81 {n : Nat} {b : Nat} {cp : Nat} {key : Nat} {off : Nat} : (oneC (.gp key b off n cp : SV)) = (true) := rfl
theorem q82 {n : Nat} {b : Nat} {cp : Nat} {key : Nat} {off : Nat} : (cells (.gp key b off n cp : SV)) = ([(.gp key b off n cp : SV)]) := rfl
theorem q83 {z : Nat} {key : Nat} {off : Nat} {A : Option Addr} {ia : Int} : (strip1 (.e key A z ia off : SV)) = ((.e key A z ia off : SV)) := rfl
theorem q84 {z : Nat} {key : Nat} {off : Nat} {A : Option Addr} {ia : Int} : (stripP1 (.e key A z ia off : SV)) = (True) := rfl
theorem q85 {z : Nat} {key : Nat} {off : Nat} {A : Option Addr} {ia : Int} : (known (.e key A z ia off : SV)) = (true) := rfl
theorem q86 {z : Nat} {key : Nat} {off : Nat} {A : Option Addr} {ia : Int} : (retT (.e key A z ia off : SV)) = (.is True (.e key A z ia off : SV)) := rfl
theorem q87 {z : Nat} {key : Nat} {off : Nat} {A : Option Addr} {ia : Int} : (oneC (.e key A z ia off : SV)) = (false) := rfl
theorem q88 {z : Nat} {key : Nat} {off : Nat} {A : Option Addr} {ia : Int} : (cells (.e key A z ia off : SV)) = ([(.e key A z ia off : SV)]) := rfl
theorem q89 {l : List SV} : (strip1 (.agg l : SV)) = ((.agg l : SV)) := rfl
theorem q90 {l : List SV} : (stripP1 (.agg l : SV)) = (True) := rfl
theorem q91 {l : List SV} : (known (.agg l : SV)) = (true) := rfl
theorem q92 {l : List SV} : (retT (.agg l : SV)) = (.is True (.agg l : SV)) := rfl
theorem q93 {l : List SV} : (oneC (.agg l : SV)) = (false) := rfl
theorem q94 {l : List SV} : (cells (.agg l : SV)) = (l) := rfl
theorem q95 {l : List SV} : (strip1 (.tup l : SV)) = ((.tup l : SV)) := rfl
theorem q96 {l : List SV} : (stripP1 (.tup l : SV)) = (True) := rfl
theorem q97 {l : List SV} : (known (.tup l : SV)) = (true) := rfl
theorem q98 {l : List SV} : (retT (.tup l : SV)) = (.is True (.tup l : SV)) := rfl
theorem q99 {l : List SV} : (oneC (.tup l : SV)) = (false) := rfl
theorem q100 {l : List SV} : (cells (.tup l : SV)) = ([(.tup l : SV)]) := rfl
theorem q101 {fi : List SV} {ca : List SV} {fk : Fn} : (strip1 (.fn fk fi ca : SV)) = ((.fn fk fi ca : SV)) := rfl
theorem q102 {fi : List SV} {ca : List SV} {fk : Fn} : (stripP1 (.fn fk fi ca : SV)) = (True) := rfl
theorem q103 {fi : List SV} {ca : List SV} {fk : Fn} : (known (.fn fk fi ca : SV)) = (true) := rfl
theorem q104 {fi : List SV} {ca : List SV} {fk : Fn} : (retT (.fn fk fi ca : SV)) = (.is True (.fn fk fi ca : SV)) := rfl
theorem q105 {fi : List SV} {ca : List SV} {fk : Fn} : (oneC (.fn fk fi ca : SV)) = (true) := rfl
theorem q106 {fi : List SV} {ca : List SV} {fk : Fn} : (cells (.fn fk fi ca : SV)) = ([(.fn fk fi ca : SV)]) := rfl
theorem q107 {x : SV} {p : Bool} : (strip1 (.c p x : SV)) = (x) := rfl
theorem q108 {x : SV} {p : Bool} : (stripP1 (.c p x : SV)) = (p = true) := rfl
theorem q109 {x : SV} {p : Bool} : (known (.c p x : SV)) = (false) := rfl
theorem q110 {x : SV} {p : Bool} : (retT (.c p x : SV)) = (.is (p = true) x) := rfl
theorem q111 {x : SV} {p : Bool} : (oneC (.c p x : SV)) = (false) := rfl
theorem q112 {x : SV} {p : Bool} : (cells (.c p x : SV)) = ([]) := rfl
theorem q113  : (strip1 (.un : SV)) = ((.un : SV)) := rfl
theorem q114  : (stripP1 (.un : SV)) = (True) := rfl
theorem q115  : (known (.un : SV)) = (false) := rfl
theorem q116  : (retT (.un : SV)) = (.bad) := rfl
theorem q117  : (oneC (.un : SV)) = (false) := rfl
theorem q118  : (cells (.un : SV)) = ([]) := rfl
theorem q119 {ik : IntKind} {ia : Int} : (oneC (.v (.int ik ia))) = (true) := rfl
theorem q120 {ik : IntKind} {ia : Int} : (cells (.v (.int ik ia))) = ([.v (.int ik ia)]) := rfl
theorem q121 {p : Bool} : (oneC (.v (.bool p))) = (true) := rfl
theorem q122 {p : Bool} : (cells (.v (.bool p))) = ([.v (.bool p)]) := rfl
theorem q123 {sa : ByteArray} : (oneC (.v (.string sa))) = (true) := rfl
theorem q124 {sa : ByteArray} : (cells (.v (.string sa))) = ([.v (.string sa)]) := rfl
theorem q125 {n : Nat} {cp : Nat} {A : Option Addr} : (oneC (.v (.slice A n cp))) = (true) := rfl
theorem q126 {n : Nat} {cp : Nat} {A : Option Addr} : (cells (.v (.slice A n cp))) = ([.v (.slice A n cp)]) := rfl
theorem q127  : (oneC (.v (.pointer none))) = (true) := rfl
theorem q128  : (cells (.v (.pointer none))) = ([.v (.pointer none)]) := rfl
theorem q129  : (oneC (.v (.nilFunc))) = (true) := rfl
theorem q130  : (cells (.v (.nilFunc))) = ([.v (.nilFunc)]) := rfl
theorem q131  : (oneC (.v (.nilIface))) = (true) := rfl
theorem q132  : (cells (.v (.nilIface))) = ([.v (.nilIface)]) := rfl
theorem q133  : (stripL []) = ([]) := rfl
theorem q134 {x : SV} {l : List SV} : (stripL (x :: l)) = (strip1 x :: stripL l) := rfl
theorem q135  : (stripP []) = (True) := rfl
theorem q136 {x : SV} {l : List SV} : (stripP (x :: l)) = ((stripP1 x ∧ stripP l)) := rfl
theorem q137  : (allK []) = (true) := rfl
theorem q138 {x : SV} {l : List SV} : (allK (x :: l)) = ((known x && allK l)) := rfl
theorem q139  : (allOne []) = (true) := rfl
theorem q140 {x : SV} {l : List SV} : (allOne (x :: l)) = ((oneC x && allOne l)) := rfl
theorem q141  : (nonE []) = (false) := rfl
theorem q142 {x : SV} {l : List SV} : (nonE (x :: l)) = (true) := rfl
theorem q143 {t : Nat} {sl : List (Nat × SV)} : (evalS sl (.tmp t)) = (look sl t) := rfl
theorem q144 {sl : List (Nat × SV)} {val : Value} : (evalS sl (.const val)) = (.v val) := rfl
theorem q145 {sl : List (Nat × SV)} {f : FuncId} : (evalS sl (.func f)) = (.v (.func (.func f) #[] #[])) := rfl
theorem q146 {t : Nat} {sl : List (Nat × SV)} : (evalS sl (.global t)) = (.p t t 0) := rfl
theorem q147 {sl : List (Nat × SV)} : (mapS sl []) = ([]) := rfl
theorem q148 {sl : List (Nat × SV)} {a0 : Operand} {ops : List Operand} : (mapS sl (a0 :: ops)) = (evalS sl a0 :: mapS sl ops) := rfl
theorem q149  : (sameK .i8 .i8) = (true) := rfl
theorem q150  : (sameK .i16 .i16) = (true) := rfl
theorem q151  : (sameK .i32 .i32) = (true) := rfl
theorem q152  : (sameK .i64 .i64) = (true) := rfl
theorem q153  : (sameK .u8 .u8) = (true) := rfl
theorem q154  : (sameK .u16 .u16) = (true) := rfl
theorem q155  : (sameK .u32 .u32) = (true) := rfl
theorem q156  : (sameK .u64 .u64) = (true) := rfl
theorem q157 {r : Res} : (addVc True r) = (r) := (by cases r <;> simp [addVc])
theorem q158 {x : SV} {vc : Prop} {P : Prop} : (addVc P (.is vc x)) = (.is (P ∧ vc) x) := rfl
theorem q159 {i : Nat} {vc : Prop} {P : Prop} {ch : Ch} : (addVc P (.put vc i ch)) = (.put (P ∧ vc) i ch) := rfl
theorem q160 {vc : Prop} {P : Prop} {fn : Nat → SV × Hp} : (addVc P (.new vc fn)) = (.new (P ∧ vc) fn) := rfl
theorem q161 {vc : Prop} {P : Prop} {fv : Option Addr → Nat → SV × Hp} : (addVc P (.val vc fv)) = (.val (P ∧ vc) fv) := rfl
theorem q162 {vc : Prop} {P : Prop} {fw : Option Addr → Nat → Option Addr → Nat → SV × Hp} : (addVc P (.val2 vc fw)) = (.val2 (P ∧ vc) fw) := rfl
theorem q163 {i : Nat} {vc : Prop} {P : Prop} {fv : Option Addr → Nat → SV × Hp} : (addVc P (.app vc i fv)) = (.app (P ∧ vc) i fv) := rfl
theorem q164 {P : Prop} : (addVc P .bad) = (.bad) := rfl
theorem q165 {x : SV} {vc : Prop} {p : Bool} : (grd p (.is vc x)) = (.is (p = true → vc) (.c p x)) := rfl
theorem q166 {r : Res} {p : Bool} : (grdO r (some p)) = (grd p r) := rfl
theorem q167 {r : Res} : (grdO r none) = (.bad) := rfl
theorem q168 {r : Res} : (opG r none) = (r) := rfl
theorem q169 {r : Res} {og : Option Bool} : (opG r (some og)) = (grdO r og) := rfl
theorem q170 {want : Bool} {p : Bool} : (gval want (.v (.bool p))) = (some (p == want)) := rfl
theorem q171 {want : Bool} {p : Bool} {q : Bool} : (gval want (.c q (.v (.bool p)))) = (some (q && (p == want))) := rfl
theorem q172 {all : List Oper} {sl : List (Nat × SV)} : (guardV all sl none) = (none) := rfl
theorem q173 {j : Nat} {all : List Oper} {sl : List (Nat × SV)} {want : Bool} : (guardV all sl (some (j, want))) = (some (gval want (lookO sl (dstAt all j)))) := rfl
theorem q174 {x : SV} {y : SV} {w : SV} : (pickR [x, y, w]) = (addVc (stripP1 x) (pick3 y w (stripP1 y) (stripP1 w) (strip1 x) (strip1 y) (strip1 w))) := rfl
theorem q175 {x : SV} {y : SV} {want : Bool} {P : Prop} {Q : Prop} {p : Bool} {q : Bool} : (pick3 x y P Q (.v (.bool p)) (.v (.bool q)) (.v (.bool want))) = (.is ((p = true → P) ∧ (p = false → Q)) (.v (.bool (bif p then q else want)))) := rfl
theorem q176 {a0 : Operand} : (opds' (.move a0)) = ([a0]) := rfl
theorem q177 {a0 : Operand} : (touch (.move a0)) = (false) := rfl
theorem q178 {a0 : Operand} : (mayW (.move a0)) = (false) := rfl
theorem q179 {T : TypeId → TI} {G : Gam} {H : Nat → Ch} {nx : Nat} {l : List SV} {a0 : Operand} : (coreS T G H nx (.move a0) l) = (coreB (allK (stripL l)) (stripP l) T G H nx (.move a0) (stripL l)) := rfl
theorem q180 {a0 : Operand} : (opds' (.assign a0)) = ([a0]) := rfl
theorem q181 {a0 : Operand} : (touch (.assign a0)) = (false) := rfl
theorem q182 {a0 : Operand} : (mayW (.assign a0)) = (false) := rfl
theorem q183 {T : TypeId → TI} {G : Gam} {H : Nat → Ch} {nx : Nat} {l : List SV} {a0 : Operand} : (coreS T G H nx (.assign a0) l) = (coreB (allK (stripL l)) (stripP l) T G H nx (.assign a0) (stripL l)) := rfl
theorem q184 {a0 : Operand} {ot : TypeId} : (opds' (.load ot a0)) = ([a0]) := rfl
theorem q185 {a0 : Operand} {ot : TypeId} : (touch (.load ot a0)) = (true) := rfl
theorem q186 {a0 : Operand} {ot : TypeId} : (mayW (.load ot a0)) = (false) := rfl
theorem q187 {T : TypeId → TI} {G : Gam} {H : Nat → Ch} {nx : Nat} {l : List SV} {a0 : Operand} {ot : TypeId} : (coreS T G H nx (.load ot a0) l) = (coreB (allK (stripL l)) (stripP l) T G H nx (.load ot a0) (stripL l)) := rfl
theorem q188 {a0 : Operand} {a1 : Operand} {ot : TypeId} : (opds' (.store ot a0 a1)) = ([a0, a1]) := rfl
theorem q189 {a0 : Operand} {a1 : Operand} {ot : TypeId} : (touch (.store ot a0 a1)) = (true) := rfl
theorem q190 {a0 : Operand} {a1 : Operand} {ot : TypeId} : (mayW (.store ot a0 a1)) = (true) := rfl
theorem q191 {T : TypeId → TI} {G : Gam} {H : Nat → Ch} {nx : Nat} {l : List SV} {a0 : Operand} {a1 : Operand} {ot : TypeId} : (coreS T G H nx (.store ot a0 a1) l) = (coreB (allK (stripL l)) (stripP l) T G H nx (.store ot a0 a1) (stripL l)) := rfl
theorem q192 {ot : TypeId} : (opds' (.alloc ot)) = ([]) := rfl
theorem q193 {ot : TypeId} : (touch (.alloc ot)) = (false) := rfl
theorem q194 {ot : TypeId} : (mayW (.alloc ot)) = (false) := rfl
theorem q195 {T : TypeId → TI} {G : Gam} {H : Nat → Ch} {nx : Nat} {l : List SV} {ot : TypeId} : (coreS T G H nx (.alloc ot) l) = (coreB (allK (stripL l)) (stripP l) T G H nx (.alloc ot) (stripL l)) := rfl
theorem q196 {a0 : Operand} {ot : TypeId} : (opds' (.box ot a0)) = ([a0]) := rfl
theorem q197 {a0 : Operand} {ot : TypeId} : (touch (.box ot a0)) = (false) := rfl
theorem q198 {a0 : Operand} {ot : TypeId} : (mayW (.box ot a0)) = (false) := rfl
theorem q199 {T : TypeId → TI} {G : Gam} {H : Nat → Ch} {nx : Nat} {l : List SV} {a0 : Operand} {ot : TypeId} : (coreS T G H nx (.box ot a0) l) = (coreB (allK (stripL l)) (stripP l) T G H nx (.box ot a0) (stripL l)) := rfl
theorem q200 {ps : List (Nat × Operand)} {ot : TypeId} : (opds' (.build ot ps.toArray)) = ((ps.map (·.2))) := (by simp [opds', opds])
theorem q201 {ps : List (Nat × Operand)} {ot : TypeId} : (touch (.build ot ps.toArray)) = (false) := rfl
theorem q202 {ps : List (Nat × Operand)} {ot : TypeId} : (mayW (.build ot ps.toArray)) = (false) := rfl
theorem q203 {T : TypeId → TI} {G : Gam} {H : Nat → Ch} {nx : Nat} {l : List SV} {ps : List (Nat × Operand)} {ot : TypeId} : (coreS T G H nx (.build ot ps.toArray) l) = (coreB (allK (stripL l)) (stripP l) T G H nx (.build ot ps.toArray) (stripL l)) := rfl
theorem q204 {a0 : Operand} {a1 : Operand} {bo : BinOp} {ot : TypeId} {ot2 : TypeId} : (opds' (.binOp bo ot a0 a1 ot2)) = ([a0, a1]) := rfl
theorem q205 {a0 : Operand} {a1 : Operand} {bo : BinOp} {ot : TypeId} {ot2 : TypeId} : (touch (.binOp bo ot a0 a1 ot2)) = (false) := rfl
theorem q206 {a0 : Operand} {a1 : Operand} {bo : BinOp} {ot : TypeId} {ot2 : TypeId} : (mayW (.binOp bo ot a0 a1 ot2)) = (false) := rfl
theorem q207 {T : TypeId → TI} {G : Gam} {H : Nat → Ch} {nx : Nat} {l : List SV} {a0 : Operand} {a1 : Operand} {bo : BinOp} {ot : TypeId} {ot2 : TypeId} : (coreS T G H nx (.binOp bo ot a0 a1 ot2) l) = (coreB (allK (stripL l)) (stripP l) T G H nx (.binOp bo ot a0 a1 ot2) (stripL l)) := rfl
theorem q208 {a0 : Operand} {ot : TypeId} {uo : UnOp} : (opds' (.unOp uo ot a0)) = ([a0]) := rfl
theorem q209 {a0 : Operand} {ot : TypeId} {uo : UnOp} : (touch (.unOp uo ot a0)) = (false) := rfl
theorem q210 {a0 : Operand} {ot : TypeId} {uo : UnOp} : (mayW (.unOp uo ot a0)) = (false) := rfl
theorem q211 {T : TypeId → TI} {G : Gam} {H : Nat → Ch} {nx : Nat} {l : List SV} {a0 : Operand} {ot : TypeId} {uo : UnOp} : (coreS T G H nx (.unOp uo ot a0) l) = (coreB (allK (stripL l)) (stripP l) T G H nx (.unOp uo ot a0) (stripL l)) := rfl
theorem q212 {i : Nat} {a0 : Operand} {ot : TypeId} : (opds' (.fieldAddr ot a0 i)) = ([a0]) := rfl
theorem q213 {i : Nat} {a0 : Operand} {ot : TypeId} : (touch (.fieldAddr ot a0 i)) = (false) := rfl
theorem q214 {i : Nat} {a0 : Operand} {ot : TypeId} : (mayW (.fieldAddr ot a0 i)) = (false) := rfl
theorem q215 {T : TypeId → TI} {G : Gam} {H : Nat → Ch} {i : Nat} {nx : Nat} {l : List SV} {a0 : Operand} {ot : TypeId} : (coreS T G H nx (.fieldAddr ot a0 i) l) = (coreB (allK (stripL l)) (stripP l) T G H nx (.fieldAddr ot a0 i) (stripL l)) := rfl
theorem q216 {a0 : Operand} {a1 : Operand} {ot : TypeId} : (opds' (.indexAddr ot a0 a1)) = ([a0, a1]) := rfl
theorem q217 {a0 : Operand} {a1 : Operand} {ot : TypeId} : (touch (.indexAddr ot a0 a1)) = (true) := rfl
theorem q218 {a0 : Operand} {a1 : Operand} {ot : TypeId} : (mayW (.indexAddr ot a0 a1)) = (false) := rfl
theorem q219 {T : TypeId → TI} {G : Gam} {H : Nat → Ch} {nx : Nat} {l : List SV} {a0 : Operand} {a1 : Operand} {ot : TypeId} : (coreS T G H nx (.indexAddr ot a0 a1) l) = (coreB (allK (stripL l)) (stripP l) T G H nx (.indexAddr ot a0 a1) (stripL l)) := rfl
theorem q220 {a0 : Operand} {a1 : Operand} {ot : TypeId} : (opds' (.index ot a0 a1)) = ([a0, a1]) := rfl
theorem q221 {a0 : Operand} {a1 : Operand} {ot : TypeId} : (touch (.index ot a0 a1)) = (false) := rfl
theorem q222 {a0 : Operand} {a1 : Operand} {ot : TypeId} : (mayW (.index ot a0 a1)) = (false) := rfl
theorem q223 {T : TypeId → TI} {G : Gam} {H : Nat → Ch} {nx : Nat} {l : List SV} {a0 : Operand} {a1 : Operand} {ot : TypeId} : (coreS T G H nx (.index ot a0 a1) l) = (coreB (allK (stripL l)) (stripP l) T G H nx (.index ot a0 a1) (stripL l)) := rfl
theorem q224 {i : Nat} {a0 : Operand} : (opds' (.extract a0 i)) = ([a0]) := rfl
theorem q225 {i : Nat} {a0 : Operand} : (touch (.extract a0 i)) = (false) := rfl
theorem q226 {i : Nat} {a0 : Operand} : (mayW (.extract a0 i)) = (false) := rfl
theorem q227 {T : TypeId → TI} {G : Gam} {H : Nat → Ch} {i : Nat} {nx : Nat} {l : List SV} {a0 : Operand} : (coreS T G H nx (.extract a0 i) l) = (coreB (allK (stripL l)) (stripP l) T G H nx (.extract a0 i) (stripL l)) := rfl
theorem q228 {a0 : Operand} {args : List Operand} {ats : List TypeId} : (opds' (.call ⟨.value a0, args.toArray, ats.toArray⟩)) = ((a0 :: args)) := (by simp [opds', opds])
theorem q229 {a0 : Operand} {args : List Operand} {ats : List TypeId} : (touch (.call ⟨.value a0, args.toArray, ats.toArray⟩)) = (true) := rfl
theorem q230 {a0 : Operand} {args : List Operand} {ats : List TypeId} : (mayW (.call ⟨.value a0, args.toArray, ats.toArray⟩)) = (false) := rfl
theorem q231 {T : TypeId → TI} {G : Gam} {H : Nat → Ch} {nx : Nat} {l : List SV} {a0 : Operand} {args : List Operand} {ats : List TypeId} : (coreS T G H nx (.call ⟨.value a0, args.toArray, ats.toArray⟩) l) = (coreB (allK (stripL l)) (stripP l) T G H nx (.call ⟨.value a0, args.toArray, ats.toArray⟩) (stripL l)) := rfl
theorem q232 {args : List Operand} {ats : List TypeId} : (opds' (.call ⟨.builtin .len, args.toArray, ats.toArray⟩)) = (args) := (by simp [opds', opds])
theorem q233 {args : List Operand} {ats : List TypeId} : (touch (.call ⟨.builtin .len, args.toArray, ats.toArray⟩)) = (false) := rfl
theorem q234 {args : List Operand} {ats : List TypeId} : (mayW (.call ⟨.builtin .len, args.toArray, ats.toArray⟩)) = (false) := rfl
theorem q235 {T : TypeId → TI} {G : Gam} {H : Nat → Ch} {nx : Nat} {l : List SV} {args : List Operand} {ats : List TypeId} : (coreS T G H nx (.call ⟨.builtin .len, args.toArray, ats.toArray⟩) l) = (coreB (allK (stripL l)) (stripP l) T G H nx (.call ⟨.builtin .len, args.toArray, ats.toArray⟩) (stripL l)) := rfl
theorem q236 {args : List Operand} {ats : List TypeId} : (opds' (.call ⟨.builtin .append, args.toArray, ats.toArray⟩)) = (args) := (by simp [opds', opds])
theorem q237 {args : List Operand} {ats : List TypeId} : (touch (.call ⟨.builtin .append, args.toArray, ats.toArray⟩)) = (true) := rfl
theorem q238 {args : List Operand} {ats : List TypeId} : (mayW (.call ⟨.builtin .append, args.toArray, ats.toArray⟩)) = (true) := rfl
theorem q239 {T : TypeId → TI} {G : Gam} {H : Nat → Ch} {nx : Nat} {l : List SV} {args : List Operand} {ats : List TypeId} : (coreS T G H nx (.call ⟨.builtin .append, args.toArray, ats.toArray⟩) l) = (coreB (allK (stripL l)) (stripP l) T G H nx (.call ⟨.builtin .append, args.toArray, ats.toArray⟩) (stripL l)) := rfl
theorem q240 {n : Nat} {ps : List (Nat × Operand)} {ot : TypeId} : (opds' (.buildSlice ot n ps.toArray)) = ((ps.map (·.2))) := (by simp [opds', opds])
theorem q241 {n : Nat} {ps : List (Nat × Operand)} {ot : TypeId} : (touch (.buildSlice ot n ps.toArray)) = (false) := rfl
theorem q242 {n : Nat} {ps : List (Nat × Operand)} {ot : TypeId} : (mayW (.buildSlice ot n ps.toArray)) = (false) := rfl
theorem q243 {T : TypeId → TI} {G : Gam} {H : Nat → Ch} {n : Nat} {nx : Nat} {l : List SV} {ps : List (Nat × Operand)} {ot : TypeId} : (coreS T G H nx (.buildSlice ot n ps.toArray) l) = (coreB (allK (stripL l)) (stripP l) T G H nx (.buildSlice ot n ps.toArray) (stripL l)) := rfl
theorem q244 {ops : List Operand} {args : List Operand} {fk : Fn} : (opds' (.makeFunc fk args.toArray ops.toArray)) = ((args ++ ops)) := (by simp [opds', opds])
theorem q245 {ops : List Operand} {args : List Operand} {fk : Fn} : (touch (.makeFunc fk args.toArray ops.toArray)) = (false) := rfl
theorem q246 {ops : List Operand} {args : List Operand} {fk : Fn} : (mayW (.makeFunc fk args.toArray ops.toArray)) = (false) := rfl
theorem q247 {T : TypeId → TI} {G : Gam} {H : Nat → Ch} {nx : Nat} {l : List SV} {ops : List Operand} {args : List Operand} {fk : Fn} : (coreS T G H nx (.makeFunc fk args.toArray ops.toArray) l) = (coreB (allK (stripL l)) (stripP l) T G H nx (.makeFunc fk args.toArray ops.toArray) (stripL l)) := rfl
theorem q248 {a0 : Operand} {ot : TypeId} : (opds' (.slice ot a0 none none none)) = ([a0]) := rfl
theorem q249 {a0 : Operand} {ot : TypeId} : (touch (.slice ot a0 none none none)) = (true) := rfl
theorem q250 {a0 : Operand} {ot : TypeId} : (mayW (.slice ot a0 none none none)) = (false) := rfl
theorem q251 {T : TypeId → TI} {G : Gam} {H : Nat → Ch} {nx : Nat} {l : List SV} {a0 : Operand} {ot : TypeId} : (coreS T G H nx (.slice ot a0 none none none) l) = (coreB (allK (stripL l)) (stripP l) T G H nx (.slice ot a0 none none none) (stripL l)) := rfl
theorem q252 {a0 : Operand} {a1 : Operand} {ot : TypeId} : (opds' (.slice ot a0 (some a1) none none)) = ([a0, a1]) := rfl
theorem q253 {a0 : Operand} {a1 : Operand} {ot : TypeId} : (touch (.slice ot a0 (some a1) none none)) = (true) := rfl
theorem q254 {a0 : Operand} {a1 : Operand} {ot : TypeId} : (mayW (.slice ot a0 (some a1) none none)) = (false) := rfl
theorem q255 {T : TypeId → TI} {G : Gam} {H : Nat → Ch} {nx : Nat} {l : List SV} {a0 : Operand} {a1 : Operand} {ot : TypeId} : (coreS T G H nx (.slice ot a0 (some a1) none none) l) = (coreB (allK (stripL l)) (stripP l) T G H nx (.slice ot a0 (some a1) none none) (stripL l)) := rfl
theorem q256 {a0 : Operand} {a1 : Operand} {ot : TypeId} : (opds' (.slice ot a0 none (some a1) none)) = ([a0, a1]) := rfl
theorem q257 {a0 : Operand} {a1 : Operand} {ot : TypeId} : (touch (.slice ot a0 none (some a1) none)) = (true) := rfl
theorem q258 {a0 : Operand} {a1 : Operand} {ot : TypeId} : (mayW (.slice ot a0 none (some a1) none)) = (false) := rfl
theorem q259 {T : TypeId → TI} {G : Gam} {H : Nat → Ch} {nx : Nat} {l : List SV} {a0 : Operand} {a1 : Operand} {ot : TypeId} : (coreS T G H nx (.slice ot a0 none (some a1) none) l) = (coreB (allK (stripL l)) (stripP l) T G H nx (.slice ot a0 none (some a1) none) (stripL l)) := rfl
theorem q260 {a0 : Operand} {a1 : Operand} {a2 : Operand} {ot : TypeId} : (opds' (.slice ot a0 (some a1) (some a2) none)) = ([a0, a1, a2]) := rfl
theorem q261 {a0 : Operand} {a1 : Operand} {a2 : Operand} {ot : TypeId} : (touch (.slice ot a0 (some a1) (some a2) none)) = (true) := rfl
theorem q262 {a0 : Operand} {a1 : Operand} {a2 : Operand} {ot : TypeId} : (mayW (.slice ot a0 (some a1) (some a2) none)) = (false) := rfl
theorem q263 {T : TypeId → TI} {G : Gam} {H : Nat → Ch} {nx : Nat} {l : List SV} {a0 : Operand} {a1 : Operand} {a2 : Operand} {ot : TypeId} : (coreS T G H nx (.slice ot a0 (some a1) (some a2) none) l) = (coreB (allK (stripL l)) (stripP l) T G H nx (.slice ot a0 (some a1) (some a2) none) (stripL l)) := rfl
theorem q264 {a0 : Operand} {ot : TypeId} {ot2 : TypeId} : (opds' (.convert ot ot2 a0)) = ([a0]) := rfl
theorem q265 {a0 : Operand} {ot : TypeId} {ot2 : TypeId} : (touch (.convert ot ot2 a0)) = (false) := rfl
theorem q266 {a0 : Operand} {ot : TypeId} {ot2 : TypeId} : (mayW (.convert ot ot2 a0)) = (false) := rfl
theorem q267 {T : TypeId → TI} {G : Gam} {H : Nat → Ch} {nx : Nat} {l : List SV} {a0 : Operand} {ot : TypeId} {ot2 : TypeId} : (coreS T G H nx (.convert ot ot2 a0) l) = (coreB (allK (stripL l)) (stripP l) T G H nx (.convert ot ot2 a0) (stripL l)) := rfl
theorem q268 {a0 : Operand} {ot : TypeId} : (opds' (.range ot a0)) = ([a0]) := rfl
theorem q269 {a0 : Operand} {ot : TypeId} : (touch (.range ot a0)) = (false) := rfl
theorem q270 {a0 : Operand} {ot : TypeId} : (mayW (.range ot a0)) = (false) := rfl
theorem q271 {T : TypeId → TI} {G : Gam} {H : Nat → Ch} {nx : Nat} {l : List SV} {a0 : Operand} {ot : TypeId} : (coreS T G H nx (.range ot a0) l) = (coreB (allK (stripL l)) (stripP l) T G H nx (.range ot a0) (stripL l)) := rfl
theorem q272 {a0 : Operand} : (opds' (.next a0 true)) = ([a0]) := rfl
theorem q273 {a0 : Operand} : (touch (.next a0 true)) = (true) := rfl
theorem q274 {a0 : Operand} : (mayW (.next a0 true)) = (true) := rfl
theorem q275 {T : TypeId → TI} {G : Gam} {H : Nat → Ch} {nx : Nat} {l : List SV} {a0 : Operand} : (coreS T G H nx (.next a0 true) l) = (coreB (allK (stripL l)) (stripP l) T G H nx (.next a0 true) (stripL l)) := rfl
theorem q276 {args : List Operand} {ats : List TypeId} : (opds' (.call ⟨.builtin .max, args.toArray, ats.toArray⟩)) = (args) := (by simp [opds', opds])
theorem q277 {args : List Operand} {ats : List TypeId} : (touch (.call ⟨.builtin .max, args.toArray, ats.toArray⟩)) = (false) := rfl
theorem q278 {args : List Operand} {ats : List TypeId} : (mayW (.call ⟨.builtin .max, args.toArray, ats.toArray⟩)) = (false) := rfl
theorem q279 {T : TypeId → TI} {G : Gam} {H : Nat → Ch} {nx : Nat} {l : List SV} {args : List Operand} {ats : List TypeId} : (coreS T G H nx (.call ⟨.builtin .max, args.toArray, ats.toArray⟩) l) = (coreB (allK (stripL l)) (stripP l) T G H nx (.call ⟨.builtin .max, args.toArray, ats.toArray⟩) (stripL l)) := rfl
theorem q280 {args : List Operand} {ats : List TypeId} : (opds' (.call ⟨.builtin .min, args.toArray, ats.toArray⟩)) = (args) := (by simp [opds', opds])
theorem q281 {args : List Operand} {ats : List TypeId} : (touch (.call ⟨.builtin .min, args.toArray, ats.toArray⟩)) = (false) := rfl
theorem q282 {args : List Operand} {ats : List TypeId} : (mayW (.call ⟨.builtin .min, args.toArray, ats.toArray⟩)) = (false) := rfl
theorem q283 {T : TypeId → TI} {G : Gam} {H : Nat → Ch} {nx : Nat} {l : List SV} {args : List Operand} {ats : List TypeId} : (coreS T G H nx (.call ⟨.builtin .min, args.toArray, ats.toArray⟩) l) = (coreB (allK (stripL l)) (stripP l) T G H nx (.call ⟨.builtin .min, args.toArray, ats.toArray⟩) (stripL l)) := rfl
theorem q284 {a0 : Operand} {a1 : Operand} {a2 : Operand} : (opds' (.pick a0 a1 a2)) = ([a0, a1, a2]) := rfl
theorem q285 {a0 : Operand} {a1 : Operand} {a2 : Operand} : (touch (.pick a0 a1 a2)) = (false) := rfl
theorem q286 {a0 : Operand} {a1 : Operand} {a2 : Operand} : (mayW (.pick a0 a1 a2)) = (false) := rfl
theorem q287 {T : TypeId → TI} {G : Gam} {H : Nat → Ch} {nx : Nat} {l : List SV} {a0 : Operand} {a1 : Operand} {a2 : Operand} : (coreS T G H nx (.pick a0 a1 a2) l) = (pickR l) := rfl
theorem q288 {T : TypeId → TI} {G : Gam} {H : Nat → Ch} {nx : Nat} {l : List SV} {op : Op} {P : Prop} : (coreB true P T G H nx op l) = (addVc P (core T G H nx op l)) := rfl
theorem q289 {T : TypeId → TI} {G : Gam} {H : Nat → Ch} {nx : Nat} {l : List SV} {op : Op} {P : Prop} : (coreB false P T G H nx op l) = (.bad) := rfl
theorem q290 {T : TypeId → TI} {G : Gam} {H : Nat → Ch} {nx : Nat} {x : SV} {a0 : Operand} : (core T G H nx (.move a0) [x]) = (.is True x) := rfl
theorem q291 {T : TypeId → TI} {G : Gam} {H : Nat → Ch} {nx : Nat} {x : SV} {a0 : Operand} : (core T G H nx (.assign a0) [x]) = (.is True x) := rfl
theorem q292 {T : TypeId → TI} {G : Gam} {H : Nat → Ch} {nx : Nat} {x : SV} {a0 : Operand} {ot : TypeId} : (core T G H nx (.load ot a0) [x]) = (isLit (T ot) (loadR (T ot) H x)) := rfl
theorem q293 {T : TypeId → TI} {G : Gam} {H : Nat → Ch} {nx : Nat} {x : SV} {y : SV} {a0 : Operand} {a1 : Operand} {ot : TypeId} : (core T G H nx (.store ot a0 a1) [x, y]) = (isLit (T ot) (storeR (T ot) H x y)) := rfl
theorem q294 {T : TypeId → TI} {G : Gam} {H : Nat → Ch} {nx : Nat} {l : List SV} {ot : TypeId} : (core T G H nx (.alloc ot) l) = (isLit (T ot) (.new True fun b => (.p nx b 0, [(nx, .blk b (T ot).zero ot)]))) := rfl
theorem q295 {T : TypeId → TI} {G : Gam} {H : Nat → Ch} {nx : Nat} {x : SV} {a0 : Operand} {ot : TypeId} : (core T G H nx (.box ot a0) [x]) = (cellsB (nonE (cells x)) nx (cells x) ot) := rfl
theorem q296 {nx : Nat} {l : List SV} {ot : TypeId} : (cellsB true nx l ot) = (.new True fun b => (.p nx b 0, [(nx, .blk b l ot)])) := rfl
theorem q297 {T : TypeId → TI} {G : Gam} {H : Nat → Ch} {nx : Nat} {x : SV} {y : SV} {a0 : Operand} {a1 : Operand} {bo : BinOp} {ot : TypeId} {ot2 : TypeId} : (core T G H nx (.binOp bo ot a0 a1 ot2) [x, y]) = (bin (T ot) bo x y) := rfl
theorem q298 {T : TypeId → TI} {G : Gam} {H : Nat → Ch} {nx : Nat} {x : SV} {a0 : Operand} {ot : TypeId} {uo : UnOp} : (core T G H nx (.unOp uo ot a0) [x]) = (un1 uo x) := rfl
theorem q299 {T : TypeId → TI} {G : Gam} {H : Nat → Ch} {i : Nat} {nx : Nat} {x : SV} {a0 : Operand} {ot : TypeId} : (core T G H nx (.fieldAddr ot a0 i) [x]) = (bif ((T ot).ok && (T ot).sort == 4) then fldR (T ot) x (offAt (T ot).offs i) else .bad) := rfl
theorem q300 {T : TypeId → TI} {G : Gam} {H : Nat → Ch} {nx : Nat} {l : List SV} {ps : List (Nat × Operand)} {ot : TypeId} : (core T G H nx (.build ot ps.toArray) l) = (bif ((T ot).ok && (T ot).sort == 4) then buildR (fillS (offAt (T ot).offs) (T ot).zero (ps.map (·.1)) l) else .bad) := rfl
theorem q301 {T : TypeId → TI} {G : Gam} {H : Nat → Ch} {nx : Nat} {x : SV} {y : SV} {a0 : Operand} {a1 : Operand} {ot : TypeId} : (core T G H nx (.indexAddr ot a0 a1) [x, y]) = (isLit (T ot) (idxR (T ot) H x y)) := rfl
theorem q302 {T : TypeId → TI} {G : Gam} {H : Nat → Ch} {nx : Nat} {x : SV} {y : SV} {a0 : Operand} {a1 : Operand} {ot : TypeId} : (core T G H nx (.index ot a0 a1) [x, y]) = (bif ((T ot).ok && (T ot).sort == 3) then strI x y else .bad) := rfl
theorem q303 {T : TypeId → TI} {G : Gam} {H : Nat → Ch} {i : Nat} {nx : Nat} {x : SV} {a0 : Operand} : (core T G H nx (.extract a0 i) [x]) = (extR i x) := rfl
theorem q304 {T : TypeId → TI} {G : Gam} {H : Nat → Ch} {nx : Nat} {l : List SV} {a0 : Operand} {args : List Operand} {ats : List TypeId} : (core T G H nx (.call ⟨.value a0, args.toArray, ats.toArray⟩) l) = (goR G H nx l) := rfl
theorem q305 {T : TypeId → TI} {G : Gam} {H : Nat → Ch} {nx : Nat} {l : List SV} {args : List Operand} {ot : TypeId} : (core T G H nx (.call ⟨.builtin .len, args.toArray, [ot].toArray⟩) l) = (bif (T ot).ok then (bif (T ot).sort == 1 then lenR l else (bif (T ot).sort == 3 then lenT l else .bad)) else .bad) := rfl
theorem q306 {T : TypeId → TI} {G : Gam} {H : Nat → Ch} {nx : Nat} {l : List SV} {args : List Operand} {ot : TypeId} {ot2 : TypeId} : (core T G H nx (.call ⟨.builtin .append, args.toArray, [ot, ot2].toArray⟩) l) = (bltA (T ot) (T (T ot).elem) (ot == ot2) H nx l) := rfl
theorem q307 {H : Nat → Ch} {ln : Nat} {nx : Nat} {sz : Nat} {esz : Nat} {l : List SV} {ti : TI} {agg : Bool} {zero : List SV} {offs : List (Nat × Nat)} {el : TypeId} {by_ : Nat} : (bltA ⟨true, agg, sz, zero, offs, el, ln, by_, 1, esz⟩ ti true H nx l) = (bif ti.ok && ti.size == esz && lenS ti.zero == esz then appR ⟨true, agg, sz, zero, offs, el, ln, by_, 1, esz⟩ H nx l else .bad) := rfl
theorem q308 {T : TypeId → TI} {G : Gam} {H : Nat → Ch} {n : Nat} {nx : Nat} {l : List SV} {ps : List (Nat × Operand)} {ot : TypeId} : (core T G H nx (.buildSlice ot n ps.toArray) l) = (bif ((T ot).ok && (T ot).sort == 1 && (T (T ot).elem).ok && (T (T ot).elem).size == (T ot).esz) then addP (n * (T ot).esz ≤ 16777216 ∧ lenS (T (T ot).elem).zero = (T ot).esz) (bsR nx n (T ot).elem (fillS (plS (T ot).esz) (rep n (T (T ot).elem).zero) (ps.map (·.1)) l)) else .bad) := rfl
theorem q309 {T : TypeId → TI} {G : Gam} {H : Nat → Ch} {nx : Nat} {l : List SV} {ops : List Operand} {args : List Operand} {fk : Fn} : (core T G H nx (.makeFunc fk args.toArray ops.toArray) l) = (.is True (.fn fk (cutL args.length l) (dropL args.length l))) := rfl
theorem q310 {T : TypeId → TI} {G : Gam} {H : Nat → Ch} {nx : Nat} {l : List SV} {a0 : Operand} {ot : TypeId} : (core T G H nx (.slice ot a0 none none none) l) = (isLit (T ot) (sliceO (T ot) false false l)) := rfl
theorem q311 {T : TypeId → TI} {G : Gam} {H : Nat → Ch} {nx : Nat} {l : List SV} {a0 : Operand} {a1 : Operand} {ot : TypeId} : (core T G H nx (.slice ot a0 (some a1) none none) l) = (isLit (T ot) (sliceO (T ot) true false l)) := rfl
theorem q312 {T : TypeId → TI} {G : Gam} {H : Nat → Ch} {nx : Nat} {l : List SV} {a0 : Operand} {a1 : Operand} {ot : TypeId} : (core T G H nx (.slice ot a0 none (some a1) none) l) = (isLit (T ot) (sliceO (T ot) false true l)) := rfl
theorem q313 {T : TypeId → TI} {G : Gam} {H : Nat → Ch} {nx : Nat} {l : List SV} {a0 : Operand} {a1 : Operand} {a2 : Operand} {ot : TypeId} : (core T G H nx (.slice ot a0 (some a1) (some a2) none) l) = (isLit (T ot) (sliceO (T ot) true true l)) := rfl
theorem q314 {l : List SV} : (cutL 0 l) = ([]) := rfl
theorem q315 {n : Nat} {x : SV} {l : List SV} : (cutL (n + 1) (x :: l)) = (x :: cutL n l) := rfl
theorem q316 {l : List SV} : (dropL 0 l) = (l) := rfl
theorem q317 {n : Nat} {x : SV} {l : List SV} : (dropL (n + 1) (x :: l)) = (dropL n l) := rfl
theorem q318 {l : List SV} : (rep 0 l) = ([]) := rfl
theorem q319 {n : Nat} {l : List SV} : (rep (n + 1) l) = (l ++ rep n l) := rfl
theorem q320 {i : Nat} {esz : Nat} : (plS esz i) = (some (i * esz, esz)) := rfl
theorem q321 {vc : Prop} {P : Prop} {fn : Nat → SV × Hp} : (addP P (.new vc fn)) = (.new (P ∧ vc) fn) := rfl
theorem q322 {n : Nat} {nx : Nat} {P : Prop} {cs : List SV} {ot : TypeId} : (bsR nx n ot (P, cs)) = (.new P fun b => (.gp nx b 0 n n, [(nx, .blk b cs ot)])) := rfl
theorem q323 {x : SV} {ti : TI} : (sliceO ti false false [x]) = (sliceR ti x (some 0) (some (endS x))) := rfl
theorem q324 {x : SV} {y : SV} {ti : TI} : (sliceO ti true false [x, y]) = (sliceR ti x (boundS 0 (some y)) (some (endS x))) := rfl
theorem q325 {x : SV} {y : SV} {ti : TI} : (sliceO ti false true [x, y]) = (sliceR ti x (some 0) (boundS 0 (some y))) := rfl
theorem q326 {x : SV} {y : SV} {w : SV} {ti : TI} : (sliceO ti true true [x, y, w]) = (sliceR ti x (boundS 0 (some y)) (boundS 0 (some w))) := rfl
theorem q327 {ik : IntKind} {ia : Int} {ib : Int} : (boundS ib (some (.v (.int ik ia)))) = (some ia) := rfl
theorem q328 {n : Nat} {b : Nat} {cp : Nat} {key : Nat} {off : Nat} : (endS (.gp key b off n cp)) = ((n : Int)) := rfl
theorem q329 {n : Nat} {cp : Nat} {key : Nat} {A : Option Addr} : (endS (.g key A n cp)) = ((n : Int)) := rfl
theorem q330 {sa : ByteArray} : (endS (.v (.string sa))) = ((sa.size : Int)) := rfl
theorem q331 {n : Nat} {b : Nat} {cp : Nat} {ln : Nat} {key : Nat} {sz : Nat} {off : Nat} {esz : Nat} {ia : Int} {ib : Int} {agg : Bool} {zero : List SV} {offs : List (Nat × Nat)} {el : TypeId} {by_ : Nat} : (sliceR ⟨true, agg, sz, zero, offs, el, ln, by_, 1, esz⟩ (.gp key b off n cp) (some ia) (some ib)) = (.is (0 ≤ ia ∧ ia ≤ ib ∧ ib ≤ cp) (.gp key b (bif ia.toNat == cp then off else off + ia.toNat * esz) (ib.toNat - ia.toNat) (cp - ia.toNat))) := rfl
theorem q332 {ln : Nat} {sz : Nat} {esz : Nat} {ia : Int} {ib : Int} {sa : ByteArray} {agg : Bool} {zero : List SV} {offs : List (Nat × Nat)} {el : TypeId} {by_ : Nat} : (sliceR ⟨true, agg, sz, zero, offs, el, ln, by_, 3, esz⟩ (.v (.string sa)) (some ia) (some ib)) = (.is (0 ≤ ia ∧ ia ≤ ib ∧ ib ≤ sa.size) (.v (.string (sa.extract ia.toNat ib.toNat)))) := rfl
theorem q333 {n : Nat} {b : Nat} {b2 : Nat} {off : Nat} {cs : List SV} {ot : TypeId} : (srcC b off n (.blk b2 cs ot)) = ((b = b2 ∧ off + n ≤ lenS cs, cut cs off n)) := rfl
theorem q334 {n : Nat} {b : Nat} {b2 : Nat} {off : Nat} {cs : List SV} : (srcC b off n (.cst b2 cs)) = ((b = b2 ∧ off + n ≤ lenS cs, cut cs off n)) := rfl
theorem q335 {n : Nat} {b : Nat} {cp : Nat} {key : Nat} {off : Nat} : (capS (.gp key b off n cp)) = (some (n, cp)) := rfl
theorem q336 {n : Nat} {cp : Nat} {key : Nat} {A : Option Addr} : (capS (.g key A n cp)) = (some (n, cp)) := rfl
theorem q337  : (capS (.v (.slice none 0 0))) = (some (0, 0)) := rfl
theorem q338 {n : Nat} {cp : Nat} {x : SV} : (appN x (some (n, cp))) = (.is (n ≤ cp) x) := rfl
theorem q339 {H : Nat → Ch} {nx : Nat} {x : SV} {ti : TI} : (appR ti H nx [x, .v (.slice none 0 0)]) = (appN x (capS x)) := rfl
theorem q340 {H : Nat → Ch} {n : Nat} {b : Nat} {cp : Nat} {nx : Nat} {key : Nat} {off : Nat} {x : SV} {ti : TI} : (appR ti H nx [x, .gp key b off n cp]) = (appB ti nx H n (srcC b off (n * ti.esz) (H key)) x) := rfl
theorem q341 {H : Nat → Ch} {n : Nat} {nx : Nat} {x : SV} {P : Prop} {ti : TI} {cs : List SV} : (appB ti nx H n (P, cs) x) = (appD ti H nx n P cs x) := rfl
theorem q342 {H : Nat → Ch} {n : Nat} {nx : Nat} {P : Prop} {ti : TI} {cs : List SV} : (appD ti H nx n P cs (.v (.slice none 0 0))) = (.val (P ∧ n ≤ 9223372036854775807 ∧ n * ti.bytes ≤ 140737488355328 ∧ lenS cs = n * ti.esz ∧ allOne cs = true) fun A c => (.g nx A n c, [(nx, .rowV A c ti.elem ti.esz n cs)])) := rfl
theorem q343 {H : Nat → Ch} {n : Nat} {b : Nat} {cp : Nat} {nx : Nat} {key : Nat} {m2 : Nat} {P : Prop} {ti : TI} {cs : List SV} : (appD ti H nx m2 P cs (.gp key b 0 n cp)) = (appDB ti nx m2 P cs key b n cp (H key)) := rfl
theorem q344 {H : Nat → Ch} {n : Nat} {cp : Nat} {nx : Nat} {key : Nat} {m2 : Nat} {P : Prop} {A : Option Addr} {ti : TI} {cs : List SV} : (appD ti H nx m2 P cs (.g key A n cp)) = (appDR ti nx m2 P cs key A n cp (H key)) := rfl
theorem q345 {n : Nat} {b : Nat} {b2 : Nat} {cp : Nat} {nx : Nat} {key : Nat} {m2 : Nat} {l : List SV} {P : Prop} {ti : TI} {cs : List SV} {ot : TypeId} : (appDB ti nx m2 P cs key b n cp (.blk b2 l ot)) = (.app (P ∧ n + m2 ≤ 9223372036854775807 ∧ (n + m2) * ti.bytes ≤ 140737488355328 ∧ lenS cs = m2 * ti.esz ∧ allOne cs = true ∧ b = b2 ∧ n = cp ∧ ot = ti.elem ∧ lenS l = n * ti.esz) key fun A c => (.g nx A (n + m2) c, [(key, .no), (nx, .rowV A c ti.elem ti.esz (n + m2) (l ++ cs))])) := rfl
theorem q346 {n : Nat} {z : Nat} {z2 : Nat} {cp : Nat} {c2 : Nat} {nx : Nat} {key : Nat} {m2 : Nat} {l : List SV} {P : Prop} {A : Option Addr} {A2 : Option Addr} {ti : TI} {cs : List SV} {ot : TypeId} : (appDR ti nx m2 P cs key A n cp (.rowV A2 c2 ot z z2 l)) = (.app (P ∧ n + m2 ≤ 9223372036854775807 ∧ (n + m2) * ti.bytes ≤ 140737488355328 ∧ lenS cs = m2 * ti.esz ∧ allOne cs = true ∧ A = A2 ∧ cp = c2 ∧ ot = ti.elem ∧ z = ti.esz ∧ n = z2) key fun A c => (.g nx A (n + m2) c, [(key, .no), (nx, .rowV A c ti.elem ti.esz (n + m2) (l ++ cs))])) := rfl
theorem q347 {G : Gam} {H : Nat → Ch} {nx : Nat} {l : List SV} {f : FuncId} : (goR G H nx (.v (.func (.func f) #[] #[]) :: l)) = (G f l H nx) := rfl
theorem q348 {G : Gam} {H : Nat → Ch} {nx : Nat} {l : List SV} {fi : List SV} {ca : List SV} {f : FuncId} : (goR G H nx (.fn (.func f) fi ca :: l)) = (G f (fi ++ l ++ ca) H nx) := rfl
theorem q349 {ln : Nat} {sz : Nat} {esz : Nat} {r : Res} {agg : Bool} {zero : List SV} {offs : List (Nat × Nat)} {el : TypeId} {by_ : Nat} {so : Nat} : (isLit ⟨true, agg, sz, zero, offs, el, ln, by_, so, esz⟩ r) = (r) := rfl
theorem q350 {H : Nat → Ch} {b : Nat} {key : Nat} {off : Nat} {ti : TI} : (loadR ti H (.p key b off)) = (loadB ti b off (H key)) := rfl
theorem q351 {H : Nat → Ch} {z : Nat} {key : Nat} {off : Nat} {A : Option Addr} {ia : Int} {ti : TI} : (loadR ti H (.e key A z ia off)) = (loadE ti (H key) A z ia off (rd (H key))) := rfl
theorem q352 {b : Nat} {b2 : Nat} {ln : Nat} {sz : Nat} {off : Nat} {esz : Nat} {cs : List SV} {zero : List SV} {offs : List (Nat × Nat)} {el : TypeId} {by_ : Nat} {so : Nat} {ot : TypeId} : (loadB ⟨true, true, sz, zero, offs, el, ln, by_, so, esz⟩ b off (.blk b2 cs ot)) = (.is (b = b2 ∧ off + sz ≤ lenS cs) (.agg (cut cs off sz))) := rfl
theorem q353 {b : Nat} {b2 : Nat} {ln : Nat} {sz : Nat} {off : Nat} {esz : Nat} {cs : List SV} {zero : List SV} {offs : List (Nat × Nat)} {el : TypeId} {by_ : Nat} {so : Nat} {ot : TypeId} : (loadB ⟨true, false, sz, zero, offs, el, ln, by_, so, esz⟩ b off (.blk b2 cs ot)) = (.is (b = b2 ∧ off + sz ≤ lenS cs) (nth cs off)) := rfl
theorem q354 {b : Nat} {b2 : Nat} {ln : Nat} {sz : Nat} {off : Nat} {esz : Nat} {cs : List SV} {zero : List SV} {offs : List (Nat × Nat)} {el : TypeId} {by_ : Nat} {so : Nat} : (loadB ⟨true, true, sz, zero, offs, el, ln, by_, so, esz⟩ b off (.cst b2 cs)) = (.is (b = b2 ∧ off + sz ≤ lenS cs) (.agg (cut cs off sz))) := rfl
theorem q355 {b : Nat} {b2 : Nat} {ln : Nat} {sz : Nat} {off : Nat} {esz : Nat} {cs : List SV} {zero : List SV} {offs : List (Nat × Nat)} {el : TypeId} {by_ : Nat} {so : Nat} : (loadB ⟨true, false, sz, zero, offs, el, ln, by_, so, esz⟩ b off (.cst b2 cs)) = (.is (b = b2 ∧ off + sz ≤ lenS cs) (nth cs off)) := rfl
theorem q356 {n : Nat} {z : Nat} {z2 : Nat} {c2 : Nat} {ln : Nat} {sz : Nat} {off : Nat} {esz : Nat} {ch : Ch} {A : Option Addr} {A2 : Option Addr} {ia : Int} {agg : Bool} {zero : List SV} {offs : List (Nat × Nat)} {el : TypeId} {by_ : Nat} {so : Nat} : (loadE ⟨true, agg, sz, zero, offs, el, ln, by_, so, esz⟩ ch A z ia off (some (A2, c2, z2, n))) = (loadV ⟨true, agg, sz, zero, offs, el, ln, by_, so, esz⟩ ch (A = A2 ∧ z = z2 ∧ 0 ≤ ia ∧ ia.toNat < n ∧ off + sz ≤ z) z ia off (vcells ch)) := rfl
theorem q357 {z : Nat} {ln : Nat} {sz : Nat} {off : Nat} {esz : Nat} {P : Prop} {ch : Ch} {ia : Int} {zero : List SV} {offs : List (Nat × Nat)} {el : TypeId} {by_ : Nat} {so : Nat} : (loadV ⟨true, true, sz, zero, offs, el, ln, by_, so, esz⟩ ch P z ia off none) = (.is P (.agg (elemCells ch ia.toNat off sz))) := rfl
theorem q358 {z : Nat} {ln : Nat} {sz : Nat} {off : Nat} {esz : Nat} {P : Prop} {ch : Ch} {ia : Int} {zero : List SV} {offs : List (Nat × Nat)} {el : TypeId} {by_ : Nat} {so : Nat} : (loadV ⟨true, false, sz, zero, offs, el, ln, by_, so, esz⟩ ch P z ia off none) = (.is P (.v (fc ch ia.toNat off))) := rfl
theorem q359 {z : Nat} {ln : Nat} {sz : Nat} {off : Nat} {esz : Nat} {P : Prop} {ch : Ch} {ia : Int} {cs : List SV} {zero : List SV} {offs : List (Nat × Nat)} {el : TypeId} {by_ : Nat} {so : Nat} : (loadV ⟨true, true, sz, zero, offs, el, ln, by_, so, esz⟩ ch P z ia off (some cs)) = (.is (P ∧ ia.toNat * z + off + sz ≤ lenS cs) (.agg (cut cs (ia.toNat * z + off) sz))) := rfl
theorem q360 {z : Nat} {ln : Nat} {sz : Nat} {off : Nat} {esz : Nat} {P : Prop} {ch : Ch} {ia : Int} {cs : List SV} {zero : List SV} {offs : List (Nat × Nat)} {el : TypeId} {by_ : Nat} {so : Nat} : (loadV ⟨true, false, sz, zero, offs, el, ln, by_, so, esz⟩ ch P z ia off (some cs)) = (.is (P ∧ ia.toNat * z + off + sz ≤ lenS cs) (nth cs (ia.toNat * z + off))) := rfl
theorem q361 {i : Nat} {off : Nat} {ch : Ch} : (elemCells ch i off 0) = ([]) := rfl
theorem q362 {n : Nat} {i : Nat} {off : Nat} {ch : Ch} : (elemCells ch i off (n + 1)) = (.v (fc ch i off) :: elemCells ch i (off + 1) n) := rfl
theorem q363 {cp : Nat} {A : Option Addr} {ik : IntKind} {xs : List Int} : (vcells (.ints A cp ik xs)) = (none) := rfl
theorem q364 {cp : Nat} {A : Option Addr} {ik : IntKind} {xs : List Int} : (rd (.ints A cp ik xs)) = (some (A, cp, 1, xs.length)) := rfl
theorem q365 {i : Nat} {cp : Nat} {off : Nat} {A : Option Addr} {ik : IntKind} {xs : List Int} : (fc (.ints A cp ik xs) i off) = (.int ik (xs.getD i 0)) := rfl
theorem q366 {cp : Nat} {A : Option Addr} {ik : IntKind} {xs : List Int} {el : TypeId} : (vcells (.rowI A cp el ik xs)) = (none) := rfl
theorem q367 {cp : Nat} {A : Option Addr} {ik : IntKind} {xs : List Int} {el : TypeId} : (rd (.rowI A cp el ik xs)) = (some (A, cp, 1, xs.length)) := rfl
theorem q368 {i : Nat} {cp : Nat} {off : Nat} {A : Option Addr} {ik : IntKind} {xs : List Int} {el : TypeId} : (fc (.rowI A cp el ik xs) i off) = (.int ik (xs.getD i 0)) := rfl
theorem q369 {cp : Nat} {A : Option Addr} {ys : List ByteArray} : (vcells (.strs A cp ys)) = (none) := rfl
theorem q370 {cp : Nat} {A : Option Addr} {ys : List ByteArray} : (rd (.strs A cp ys)) = (some (A, cp, 1, ys.length)) := rfl
theorem q371 {i : Nat} {cp : Nat} {off : Nat} {A : Option Addr} {ys : List ByteArray} : (fc (.strs A cp ys) i off) = (.string (ys.getD i ByteArray.empty)) := rfl
theorem q372 {cp : Nat} {A : Option Addr} {ys : List ByteArray} {el : TypeId} : (vcells (.rowS A cp el ys)) = (none) := rfl
theorem q373 {cp : Nat} {A : Option Addr} {ys : List ByteArray} {el : TypeId} : (rd (.rowS A cp el ys)) = (some (A, cp, 1, ys.length)) := rfl
theorem q374 {i : Nat} {cp : Nat} {off : Nat} {A : Option Addr} {ys : List ByteArray} {el : TypeId} : (fc (.rowS A cp el ys) i off) = (.string (ys.getD i ByteArray.empty)) := rfl
theorem q375 {z : Nat} {cp : Nat} {A : Option Addr} {zs : List (List Value)} : (vcells (.raw A cp z zs)) = (none) := rfl
theorem q376 {z : Nat} {cp : Nat} {A : Option Addr} {zs : List (List Value)} : (rd (.raw A cp z zs)) = (some (A, cp, z, zs.length)) := rfl
theorem q377 {i : Nat} {z : Nat} {cp : Nat} {off : Nat} {A : Option Addr} {zs : List (List Value)} : (fc (.raw A cp z zs) i off) = ((zs.getD i []).getD off undef) := rfl
theorem q378 {n : Nat} {z : Nat} {cp : Nat} {A : Option Addr} {cs : List SV} {el : TypeId} : (vcells (.rowV A cp el z n cs)) = (some cs) := rfl
theorem q379 {n : Nat} {z : Nat} {cp : Nat} {A : Option Addr} {cs : List SV} {el : TypeId} : (rd (.rowV A cp el z n cs)) = (some (A, cp, z, n)) := rfl
theorem q380 {n : Nat} {z : Nat} {cp : Nat} {A : Option Addr} {cs : List SV} : (vcells (.rawV A cp z n cs)) = (some cs) := rfl
theorem q381 {n : Nat} {z : Nat} {cp : Nat} {A : Option Addr} {cs : List SV} : (rd (.rawV A cp z n cs)) = (some (A, cp, z, n)) := rfl
theorem q382  : (isNo (.no)) = (true) := rfl
theorem q383 {b : Nat} {cs : List SV} {ot : TypeId} : (isNo (.blk b cs ot)) = (false) := rfl
theorem q384 {cp : Nat} {A : Option Addr} {ik : IntKind} {xs : List Int} : (isNo (.ints A cp ik xs)) = (false) := rfl
theorem q385 {cp : Nat} {A : Option Addr} {ik : IntKind} {xs : List Int} {el : TypeId} : (isNo (.rowI A cp el ik xs)) = (false) := rfl
theorem q386 {cp : Nat} {A : Option Addr} {ys : List ByteArray} : (isNo (.strs A cp ys)) = (false) := rfl
theorem q387 {cp : Nat} {A : Option Addr} {ys : List ByteArray} {el : TypeId} : (isNo (.rowS A cp el ys)) = (false) := rfl
theorem q388 {z : Nat} {cp : Nat} {A : Option Addr} {zs : List (List Value)} : (isNo (.raw A cp z zs)) = (false) := rfl
theorem q389 {n : Nat} {z : Nat} {cp : Nat} {A : Option Addr} {cs : List SV} {el : TypeId} : (isNo (.rowV A cp el z n cs)) = (false) := rfl
theorem q390 {n : Nat} {z : Nat} {cp : Nat} {A : Option Addr} {cs : List SV} : (isNo (.rawV A cp z n cs)) = (false) := rfl
theorem q391 {b : Nat} {cs : List SV} : (isNo (.cst b cs)) = (false) := rfl
theorem q392 {b : Nat} {il : List (Nat × Int)} {sa : ByteArray} : (isNo (.iter b sa il)) = (false) := rfl
theorem q393 {H : Nat → Ch} {b : Nat} {key : Nat} {off : Nat} {y : SV} {ti : TI} : (storeR ti H (.p key b off) y) = (storeB ti key b off (cells y) (H key)) := rfl
theorem q394 {b : Nat} {b2 : Nat} {ln : Nat} {key : Nat} {sz : Nat} {off : Nat} {esz : Nat} {l : List SV} {cs : List SV} {agg : Bool} {zero : List SV} {offs : List (Nat × Nat)} {el : TypeId} {by_ : Nat} {so : Nat} {ot : TypeId} : (storeB ⟨true, agg, sz, zero, offs, el, ln, by_, so, esz⟩ key b off l (.blk b2 cs ot)) = (putB (allOne l) (b = b2 ∧ lenS l = sz ∧ off + sz ≤ lenS cs) key (.blk b2 (putAt cs off l) ot)) := rfl
theorem q395 {key : Nat} {P : Prop} {ch : Ch} : (putB true P key ch) = (.put P key ch) := rfl
theorem q396 {n : Nat} {b : Nat} {d : Nat} {key : Nat} {off : Nat} {ti : TI} : (fldR ti (.p key b off) (some (d, n))) = (.is (n ≠ 0) (.p key b (off + d))) := rfl
theorem q397 {n : Nat} {d : Nat} {z : Nat} {key : Nat} {off : Nat} {A : Option Addr} {ia : Int} {ti : TI} : (fldR ti (.e key A z ia off) (some (d, n))) = (.is (n ≠ 0 ∧ A ≠ none) (.e key A z ia (off + d))) := rfl
theorem q398 {i : Nat} {l : List SV} : (extR i (.tup l)) = (.is (i < lenS l) (nth l i)) := rfl
theorem q399 {n : Nat} {cp : Nat} {key : Nat} {A : Option Addr} : (lenR [.g key A n cp]) = (.is True (.v (.int .i64 n))) := rfl
theorem q400 {n : Nat} {b : Nat} {cp : Nat} {key : Nat} {off : Nat} : (lenR [.gp key b off n cp]) = (.is True (.v (.int .i64 n))) := rfl
theorem q401 {n : Nat} {cp : Nat} {A : Option Addr} : (lenR [.v (.slice A n cp)]) = (.is True (.v (.int .i64 n))) := rfl
theorem q402 {sa : ByteArray} : (lenT [.v (.string sa)]) = (.is True (.v (.int .i64 sa.size))) := rfl
theorem q403 {ia : Int} {ib : Int} {ti : TI} : (bin ti .eql (.v (.int .i64 ia)) (.v (.int .i64 ib))) = (.is True (.v (.bool (ia == ib)))) := rfl
theorem q404 {ia : Int} {ib : Int} {ti : TI} : (bin ti .eql (.v (.int .u8 ia)) (.v (.int .u8 ib))) = (.is True (.v (.bool (ia == ib)))) := rfl
theorem q405 {ia : Int} {ib : Int} {ti : TI} : (bin ti .eql (.v (.int .i32 ia)) (.v (.int .i32 ib))) = (.is True (.v (.bool (ia == ib)))) := rfl
theorem q406 {ia : Int} {ib : Int} {ti : TI} : (bin ti .eql (.v (.int .u16 ia)) (.v (.int .u16 ib))) = (.is True (.v (.bool (ia == ib)))) := rfl
theorem q407 {ia : Int} {ib : Int} {ti : TI} : (bin ti .neq (.v (.int .i64 ia)) (.v (.int .i64 ib))) = (.is True (.v (.bool (ia != ib)))) := rfl
theorem q408 {ia : Int} {ib : Int} {ti : TI} : (bin ti .neq (.v (.int .u8 ia)) (.v (.int .u8 ib))) = (.is True (.v (.bool (ia != ib)))) := rfl
theorem q409 {ia : Int} {ib : Int} {ti : TI} : (bin ti .neq (.v (.int .i32 ia)) (.v (.int .i32 ib))) = (.is True (.v (.bool (ia != ib)))) := rfl
theorem q410 {ia : Int} {ib : Int} {ti : TI} : (bin ti .neq (.v (.int .u16 ia)) (.v (.int .u16 ib))) = (.is True (.v (.bool (ia != ib)))) := rfl
theorem q411 {ia : Int} {ib : Int} {ti : TI} : (bin ti .lss (.v (.int .i64 ia)) (.v (.int .i64 ib))) = (.is True (.v (.bool (decide (ia < ib))))) := rfl
theorem q412 {ia : Int} {ib : Int} {ti : TI} : (bin ti .lss (.v (.int .u8 ia)) (.v (.int .u8 ib))) = (.is True (.v (.bool (decide (ia < ib))))) := rfl
theorem q413 {ia : Int} {ib : Int} {ti : TI} : (bin ti .lss (.v (.int .i32 ia)) (.v (.int .i32 ib))) = (.is True (.v (.bool (decide (ia < ib))))) := rfl
theorem q414 {ia : Int} {ib : Int} {ti : TI} : (bin ti .lss (.v (.int .u16 ia)) (.v (.int .u16 ib))) = (.is True (.v (.bool (decide (ia < ib))))) := rfl
theorem q415 {ia : Int} {ib : Int} {ti : TI} : (bin ti .leq (.v (.int .i64 ia)) (.v (.int .i64 ib))) = (.is True (.v (.bool (decide (ia ≤ ib))))) := rfl
theorem q416 {ia : Int} {ib : Int} {ti : TI} : (bin ti .leq (.v (.int .u8 ia)) (.v (.int .u8 ib))) = (.is True (.v (.bool (decide (ia ≤ ib))))) := rfl
theorem q417 {ia : Int} {ib : Int} {ti : TI} : (bin ti .leq (.v (.int .i32 ia)) (.v (.int .i32 ib))) = (.is True (.v (.bool (decide (ia ≤ ib))))) := rfl
theorem q418 {ia : Int} {ib : Int} {ti : TI} : (bin ti .leq (.v (.int .u16 ia)) (.v (.int .u16 ib))) = (.is True (.v (.bool (decide (ia ≤ ib))))) := rfl
theorem q419 {ia : Int} {ib : Int} {ti : TI} : (bin ti .gtr (.v (.int .i64 ia)) (.v (.int .i64 ib))) = (.is True (.v (.bool (decide (ib < ia))))) := rfl
theorem q420 {ia : Int} {ib : Int} {ti : TI} : (bin ti .gtr (.v (.int .u8 ia)) (.v (.int .u8 ib))) = (.is True (.v (.bool (decide (ib < ia))))) := rfl
theorem q421 {ia : Int} {ib : Int} {ti : TI} : (bin ti .gtr (.v (.int .i32 ia)) (.v (.int .i32 ib))) = (.is True (.v (.bool (decide (ib < ia))))) := rfl
theorem q422 {ia : Int} {ib : Int} {ti : TI} : (bin ti .gtr (.v (.int .u16 ia)) (.v (.int .u16 ib))) = (.is True (.v (.bool (decide (ib < ia))))) := rfl
theorem q423 {ia : Int} {ib : Int} {ti : TI} : (bin ti .geq (.v (.int .i64 ia)) (.v (.int .i64 ib))) = (.is True (.v (.bool (decide (ib ≤ ia))))) := rfl
theorem q424 {ia : Int} {ib : Int} {ti : TI} : (bin ti .geq (.v (.int .u8 ia)) (.v (.int .u8 ib))) = (.is True (.v (.bool (decide (ib ≤ ia))))) := rfl
theorem q425 {ia : Int} {ib : Int} {ti : TI} : (bin ti .geq (.v (.int .i32 ia)) (.v (.int .i32 ib))) = (.is True (.v (.bool (decide (ib ≤ ia))))) := rfl
theorem q426 {ia : Int} {ib : Int} {ti : TI} : (bin ti .geq (.v (.int .u16 ia)) (.v (.int .u16 ib))) = (.is True (.v (.bool (decide (ib ≤ ia))))) := rfl
theorem q427 {ia : Int} {ib : Int} {ti : TI} : (bin ti .add (.v (.int .i64 ia)) (.v (.int .i64 ib))) = (.is (inr .i64 (ia + ib)) (.v (.int .i64 (ia + ib)))) := rfl
theorem q428 {ia : Int} {ib : Int} {ti : TI} : (bin ti .add (.v (.int .u8 ia)) (.v (.int .u8 ib))) = (.is (inr .u8 (ia + ib)) (.v (.int .u8 (ia + ib)))) := rfl
theorem q429 {ia : Int} {ib : Int} {ti : TI} : (bin ti .add (.v (.int .i32 ia)) (.v (.int .i32 ib))) = (.is (inr .i32 (ia + ib)) (.v (.int .i32 (ia + ib)))) := rfl
theorem q430 {ia : Int} {ib : Int} {ti : TI} : (bin ti .add (.v (.int .u16 ia)) (.v (.int .u16 ib))) = (.is (inr .u16 (ia + ib)) (.v (.int .u16 (ia + ib)))) := rfl
theorem q431 {ia : Int} {ib : Int} {ti : TI} : (bin ti .sub (.v (.int .i64 ia)) (.v (.int .i64 ib))) = (.is (inr .i64 (ia - ib)) (.v (.int .i64 (ia - ib)))) := rfl
theorem q432 {ia : Int} {ib : Int} {ti : TI} : (bin ti .sub (.v (.int .u8 ia)) (.v (.int .u8 ib))) = (.is (inr .u8 (ia - ib)) (.v (.int .u8 (ia - ib)))) := rfl
theorem q433 {ia : Int} {ib : Int} {ti : TI} : (bin ti .sub (.v (.int .i32 ia)) (.v (.int .i32 ib))) = (.is (inr .i32 (ia - ib)) (.v (.int .i32 (ia - ib)))) := rfl
theorem q434 {ia : Int} {ib : Int} {ti : TI} : (bin ti .sub (.v (.int .u16 ia)) (.v (.int .u16 ib))) = (.is (inr .u16 (ia - ib)) (.v (.int .u16 (ia - ib)))) := rfl
theorem q435 {ia : Int} {ib : Int} {ti : TI} : (bin ti .mul (.v (.int .i64 ia)) (.v (.int .i64 ib))) = (.is (inr .i64 (ia * ib)) (.v (.int .i64 (ia * ib)))) := rfl
theorem q436 {ia : Int} {ib : Int} {ti : TI} : (bin ti .mul (.v (.int .u8 ia)) (.v (.int .u8 ib))) = (.is (inr .u8 (ia * ib)) (.v (.int .u8 (ia * ib)))) := rfl
theorem q437 {ia : Int} {ib : Int} {ti : TI} : (bin ti .mul (.v (.int .i32 ia)) (.v (.int .i32 ib))) = (.is (inr .i32 (ia * ib)) (.v (.int .i32 (ia * ib)))) := rfl
theorem q438 {ia : Int} {ib : Int} {ti : TI} : (bin ti .mul (.v (.int .u16 ia)) (.v (.int .u16 ib))) = (.is (inr .u16 (ia * ib)) (.v (.int .u16 (ia * ib)))) := rfl
theorem q439 {ia : Int} {ib : Int} {ti : TI} : (bin ti .quo (.v (.int .i64 ia)) (.v (.int .i64 ib))) = (.is (ib ≠ 0 ∧ inr .i64 (ia.tdiv ib)) (.v (.int .i64 (ia.tdiv ib)))) := rfl
theorem q440 {ia : Int} {ib : Int} {ti : TI} : (bin ti .quo (.v (.int .u8 ia)) (.v (.int .u8 ib))) = (.is (ib ≠ 0 ∧ inr .u8 (ia.tdiv ib)) (.v (.int .u8 (ia.tdiv ib)))) := rfl
theorem q441 {ia : Int} {ib : Int} {ti : TI} : (bin ti .quo (.v (.int .i32 ia)) (.v (.int .i32 ib))) = (.is (ib ≠ 0 ∧ inr .i32 (ia.tdiv ib)) (.v (.int .i32 (ia.tdiv ib)))) := rfl
theorem q442 {ia : Int} {ib : Int} {ti : TI} : (bin ti .quo (.v (.int .u16 ia)) (.v (.int .u16 ib))) = (.is (ib ≠ 0 ∧ inr .u16 (ia.tdiv ib)) (.v (.int .u16 (ia.tdiv ib)))) := rfl
theorem q443 {ia : Int} {ib : Int} {ti : TI} : (bin ti .rem (.v (.int .i64 ia)) (.v (.int .i64 ib))) = (.is (ib ≠ 0) (.v (.int .i64 (ia.tmod ib)))) := rfl
theorem q444 {ia : Int} {ib : Int} {ti : TI} : (bin ti .rem (.v (.int .u8 ia)) (.v (.int .u8 ib))) = (.is (ib ≠ 0) (.v (.int .u8 (ia.tmod ib)))) := rfl
theorem q445 {ia : Int} {ib : Int} {ti : TI} : (bin ti .rem (.v (.int .i32 ia)) (.v (.int .i32 ib))) = (.is (ib ≠ 0) (.v (.int .i32 (ia.tmod ib)))) := rfl
theorem q446 {ia : Int} {ib : Int} {ti : TI} : (bin ti .rem (.v (.int .u16 ia)) (.v (.int .u16 ib))) = (.is (ib ≠ 0) (.v (.int .u16 (ia.tmod ib)))) := rfl
theorem q447 {ia : Int} {ib : Int} {ti : TI} : (bin ti .and (.v (.int .i64 ia)) (.v (.int .i64 ib))) = (.is True (.v (.int .i64 (bits .and .i64 ia ib)))) := rfl
theorem q448 {ia : Int} {ib : Int} {ti : TI} : (bin ti .and (.v (.int .u8 ia)) (.v (.int .u8 ib))) = (.is True (.v (.int .u8 (bits .and .u8 ia ib)))) := rfl
theorem q449 {ia : Int} {ib : Int} {ti : TI} : (bin ti .and (.v (.int .i32 ia)) (.v (.int .i32 ib))) = (.is True (.v (.int .i32 (bits .and .i32 ia ib)))) := rfl
theorem q450 {ia : Int} {ib : Int} {ti : TI} : (bin ti .and (.v (.int .u16 ia)) (.v (.int .u16 ib))) = (.is True (.v (.int .u16 (bits .and .u16 ia ib)))) := rfl
theorem q451 {ia : Int} {ib : Int} {ti : TI} : (bin ti .or (.v (.int .i64 ia)) (.v (.int .i64 ib))) = (.is True (.v (.int .i64 (bits .or .i64 ia ib)))) := rfl
theorem q452 {ia : Int} {ib : Int} {ti : TI} : (bin ti .or (.v (.int .u8 ia)) (.v (.int .u8 ib))) = (.is True (.v (.int .u8 (bits .or .u8 ia ib)))) := rfl
theorem q453 {ia : Int} {ib : Int} {ti : TI} : (bin ti .or (.v (.int .i32 ia)) (.v (.int .i32 ib))) = (.is True (.v (.int .i32 (bits .or .i32 ia ib)))) := rfl
theorem q454 {ia : Int} {ib : Int} {ti : TI} : (bin ti .or (.v (.int .u16 ia)) (.v (.int .u16 ib))) = (.is True (.v (.int .u16 (bits .or .u16 ia ib)))) := rfl
theorem q455 {ln : Nat} {sz : Nat} {esz : Nat} {p : Bool} {q : Bool} {agg : Bool} {zero : List SV} {offs : List (Nat × Nat)} {el : TypeId} {by_ : Nat} : (bin ⟨true, agg, sz, zero, offs, el, ln, by_, 5, esz⟩ .eql (.v (.bool p)) (.v (.bool q))) = (.is True (.v (.bool (p == q)))) := rfl
theorem q456 {ln : Nat} {sz : Nat} {esz : Nat} {p : Bool} {q : Bool} {agg : Bool} {zero : List SV} {offs : List (Nat × Nat)} {el : TypeId} {by_ : Nat} : (bin ⟨true, agg, sz, zero, offs, el, ln, by_, 5, esz⟩ .neq (.v (.bool p)) (.v (.bool q))) = (.is True (.v (.bool (!(p == q))))) := rfl
theorem q457 {sa : ByteArray} {sb : ByteArray} {ti : TI} : (bin ti .eql (.v (.string sa)) (.v (.string sb))) = (.is True (.v (.bool (sa.toList == sb.toList)))) := rfl
theorem q458 {sa : ByteArray} {sb : ByteArray} {ti : TI} : (bin ti .neq (.v (.string sa)) (.v (.string sb))) = (.is True (.v (.bool (!(sa.toList == sb.toList))))) := rfl
theorem q459 {sa : ByteArray} {sb : ByteArray} {ti : TI} : (bin ti .lss (.v (.string sa)) (.v (.string sb))) = (.is True (.v (.bool (Op.bytesLess sa.toList sb.toList)))) := rfl
theorem q460 {sa : ByteArray} {sb : ByteArray} {ti : TI} : (bin ti .add (.v (.string sa)) (.v (.string sb))) = (.is (sa.size + sb.size ≤ 9223372036854775807) (.v (.string (sa ++ sb)))) := rfl
theorem q461 {ln : Nat} {sz : Nat} {esz : Nat} {agg : Bool} {zero : List SV} {offs : List (Nat × Nat)} {el : TypeId} {by_ : Nat} : (bin ⟨true, agg, sz, zero, offs, el, ln, by_, 6, esz⟩ .eql (.v .nilFunc) (.v .nilFunc)) = (.is True (.v (.bool true))) := rfl
theorem q462 {ln : Nat} {sz : Nat} {esz : Nat} {agg : Bool} {zero : List SV} {offs : List (Nat × Nat)} {el : TypeId} {by_ : Nat} : (bin ⟨true, agg, sz, zero, offs, el, ln, by_, 6, esz⟩ .neq (.v .nilFunc) (.v .nilFunc)) = (.is True (.v (.bool (!true)))) := rfl
theorem q463 {ln : Nat} {sz : Nat} {esz : Nat} {agg : Bool} {zero : List SV} {offs : List (Nat × Nat)} {el : TypeId} {by_ : Nat} {fk : Fn} {al : Array Value} {am : Array Value} : (bin ⟨true, agg, sz, zero, offs, el, ln, by_, 6, esz⟩ .eql (.v (.func fk al am)) (.v .nilFunc)) = (.is True (.v (.bool false))) := rfl
theorem q464 {ln : Nat} {sz : Nat} {esz : Nat} {agg : Bool} {zero : List SV} {offs : List (Nat × Nat)} {el : TypeId} {by_ : Nat} {fk : Fn} {al : Array Value} {am : Array Value} : (bin ⟨true, agg, sz, zero, offs, el, ln, by_, 6, esz⟩ .neq (.v (.func fk al am)) (.v .nilFunc)) = (.is True (.v (.bool (!false)))) := rfl
theorem q465 {ln : Nat} {sz : Nat} {esz : Nat} {agg : Bool} {zero : List SV} {offs : List (Nat × Nat)} {el : TypeId} {by_ : Nat} {fi : List SV} {ca : List SV} {fk : Fn} : (bin ⟨true, agg, sz, zero, offs, el, ln, by_, 6, esz⟩ .eql (.fn fk fi ca) (.v .nilFunc)) = (.is True (.v (.bool false))) := rfl
theorem q466 {ln : Nat} {sz : Nat} {esz : Nat} {agg : Bool} {zero : List SV} {offs : List (Nat × Nat)} {el : TypeId} {by_ : Nat} {fi : List SV} {ca : List SV} {fk : Fn} : (bin ⟨true, agg, sz, zero, offs, el, ln, by_, 6, esz⟩ .neq (.fn fk fi ca) (.v .nilFunc)) = (.is True (.v (.bool (!false)))) := rfl
theorem q467 {T : TypeId → TI} {G : Gam} {H : Nat → Ch} {nx : Nat} {x : SV} {a0 : Operand} {ot : TypeId} {ot2 : TypeId} : (core T G H nx (.convert ot ot2 a0) [x]) = (bif (T ot).ok && (T ot2).ok then convR (T ot2) x else .bad) := rfl
theorem q468 {ln : Nat} {sz : Nat} {esz : Nat} {ik : IntKind} {ia : Int} {agg : Bool} {zero : List SV} {offs : List (Nat × Nat)} {el : TypeId} {by_ : Nat} {so : Nat} : (convR ⟨true, agg, sz, zero, offs, el, ln, by_, so, esz⟩ (.v (.int ik ia))) = (convI ia (kOf so)) := rfl
theorem q469 {ln : Nat} {sz : Nat} {esz : Nat} {sa : ByteArray} {agg : Bool} {zero : List SV} {offs : List (Nat × Nat)} {el : TypeId} {by_ : Nat} : (convR ⟨true, agg, sz, zero, offs, el, ln, by_, 3, esz⟩ (.v (.string sa))) = (.is True (.v (.string sa))) := rfl
theorem q470  : (kOf 10) = (some .i8) := rfl
theorem q471  : (kOf 11) = (some .i16) := rfl
theorem q472  : (kOf 12) = (some .i32) := rfl
theorem q473  : (kOf 13) = (some .i64) := rfl
theorem q474  : (kOf 14) = (some .u8) := rfl
theorem q475  : (kOf 15) = (some .u16) := rfl
theorem q476  : (kOf 16) = (some .u32) := rfl
theorem q477  : (kOf 17) = (some .u64) := rfl
theorem q478 {ik : IntKind} {ia : Int} : (convI ia (some ik)) = (.is (inr ik ia) (.v (.int ik ia))) := rfl
theorem q479 {T : TypeId → TI} {G : Gam} {H : Nat → Ch} {nx : Nat} {x : SV} {a0 : Operand} {ot : TypeId} : (core T G H nx (.range ot a0) [x]) = (bif (T ot).ok && (T ot).sort == 3 then rngR nx x else .bad) := rfl
theorem q480 {T : TypeId → TI} {G : Gam} {H : Nat → Ch} {nx : Nat} {x : SV} {a0 : Operand} : (core T G H nx (.next a0 true) [x]) = (nextR H x) := rfl
theorem q481 {H : Nat → Ch} {b : Nat} {key : Nat} {off : Nat} : (nextR H (.p key b off)) = (nextB key b off (H key)) := rfl
theorem q482 {b : Nat} {b2 : Nat} {key : Nat} {off : Nat} {il : List (Nat × Int)} {sa : ByteArray} : (nextB key b off (.iter b2 sa il)) = (nextL key b off b2 sa il) := rfl
theorem q483 {b : Nat} {b2 : Nat} {key : Nat} {off : Nat} {sa : ByteArray} : (nextL key b off b2 sa []) = (.is (b = b2 ∧ off = 0) (.tup [.v (.bool false)])) := rfl
theorem q484 {n : Nat} {b : Nat} {b2 : Nat} {key : Nat} {off : Nat} {il : List (Nat × Int)} {ia : Int} {sa : ByteArray} : (nextL key b off b2 sa ((n, ia) :: il)) = (.app (b = b2 ∧ off = 0 ∧ n ≤ 9223372036854775807) key fun _ _ => (.tup [.v (.bool true), .v (.int .i64 n), .v (.int .i32 ia)], [(key, .iter b2 sa il)])) := rfl
theorem q485 {T : TypeId → TI} {G : Gam} {H : Nat → Ch} {nx : Nat} {l : List SV} {args : List Operand} {ats : List TypeId} : (core T G H nx (.call ⟨.builtin .max, args.toArray, ats.toArray⟩) l) = (maxR l) := rfl
theorem q486 {T : TypeId → TI} {G : Gam} {H : Nat → Ch} {nx : Nat} {l : List SV} {args : List Operand} {ats : List TypeId} : (core T G H nx (.call ⟨.builtin .min, args.toArray, ats.toArray⟩) l) = (minR l) := rfl
theorem q487 {ia : Int} {ib : Int} : (maxR [.v (.int .i64 ia), .v (.int .i64 ib)]) = (.is True (.v (.int .i64 (if ib > ia then ib else ia)))) := rfl
theorem q488 {ia : Int} {ib : Int} : (minR [.v (.int .i64 ia), .v (.int .i64 ib)]) = (.is True (.v (.int .i64 (if ib < ia then ib else ia)))) := rfl
theorem q489 {p : Bool} : (un1 .not (.v (.bool p))) = (.is True (.v (.bool (!p)))) := rfl
theorem q490 {ia : Int} : (un1 .neg (.v (.int .i64 ia))) = (.is (inr .i64 (0 - ia)) (.v (.int .i64 (0 - ia)))) := rfl
theorem q491 {ia : Int} : (un1 .neg (.v (.int .u8 ia))) = (.is (inr .u8 (0 - ia)) (.v (.int .u8 (0 - ia)))) := rfl
theorem q492 {H : Nat → Ch} {n : Nat} {cp : Nat} {ln : Nat} {key : Nat} {sz : Nat} {esz : Nat} {A : Option Addr} {ik : IntKind} {ia : Int} {agg : Bool} {zero : List SV} {offs : List (Nat × Nat)} {el : TypeId} {by_ : Nat} : (idxR ⟨true, agg, sz, zero, offs, el, ln, by_, 1, esz⟩ H (.g key A n cp) (.v (.int ik ia))) = (idxE key A ia n esz (rd (H key))) := rfl
theorem q493 {H : Nat → Ch} {n : Nat} {b : Nat} {cp : Nat} {ln : Nat} {key : Nat} {sz : Nat} {off : Nat} {esz : Nat} {ik : IntKind} {ia : Int} {agg : Bool} {zero : List SV} {offs : List (Nat × Nat)} {el : TypeId} {by_ : Nat} : (idxR ⟨true, agg, sz, zero, offs, el, ln, by_, 1, esz⟩ H (.gp key b off n cp) (.v (.int ik ia))) = (.is (0 ≤ ia ∧ ia < n) (.p key b (off + ia.toNat * esz))) := rfl
theorem q494 {H : Nat → Ch} {b : Nat} {ln : Nat} {key : Nat} {sz : Nat} {off : Nat} {esz : Nat} {ik : IntKind} {ia : Int} {agg : Bool} {zero : List SV} {offs : List (Nat × Nat)} {el : TypeId} {by_ : Nat} : (idxR ⟨true, agg, sz, zero, offs, el, ln, by_, 2, esz⟩ H (.p key b off) (.v (.int ik ia))) = (.is (0 ≤ ia ∧ ia < ln) (.p key b (off + ia.toNat * esz))) := rfl
theorem q495 {n : Nat} {z2 : Nat} {cp : Nat} {key : Nat} {esz : Nat} {m2 : Nat} {A : Option Addr} {A2 : Option Addr} {ia : Int} : (idxE key A ia n esz (some (A2, cp, z2, m2))) = (.is (A = A2 ∧ esz = z2 ∧ n = m2 ∧ 0 ≤ ia ∧ ia < n) (.e key A esz ia 0)) := rfl
theorem q496 {ik : IntKind} {ia : Int} {sa : ByteArray} : (strI (.v (.string sa)) (.v (.int ik ia))) = (.is (0 ≤ ia ∧ ia < sa.size) (.v (.int .u8 (chr sa ia)))) := rfl
theorem q497 {cs : List SV} {pl : Nat → Option (Nat × Nat)} : (fillS pl cs [] []) = ((True, cs)) := rfl
theorem q498 {i : Nat} {x : SV} {l : List SV} {cs : List SV} {is_ : List Nat} {pl : Nat → Option (Nat × Nat)} : (fillS pl cs (i :: is_) (x :: l)) = (fillG pl cs x is_ l (pl i)) := (by simp only [fillS, fillG, fillP]; cases pl i <;> rfl)
theorem q499 {n : Nat} {d : Nat} {x : SV} {l : List SV} {cs : List SV} {is_ : List Nat} {pl : Nat → Option (Nat × Nat)} : (fillG pl cs x is_ l (some (d, n))) = (fillP (cells x ≠ [] ∧ lenS (cells x) = n ∧ d + n ≤ lenS cs) (fillS pl (putAt cs d (cells x)) is_ l)) := rfl
theorem q500 {P : Prop} {Q : Prop} {cs : List SV} : (fillP P (Q, cs)) = ((P ∧ Q, cs)) := rfl
theorem q501 {P : Prop} {cs : List SV} : (buildR (P, cs)) = (.is P (.agg cs)) := rfl
theorem q502 {L : List It → SS → Prop} {F : SS → Prop} {T : TypeId → TI} {G : Gam} {n : Nat} {s : SS} {U : List (Nat × Nat)} {VV : VT} : (run L F T G U VV (n + 1) [] s) = (F s) := rfl
theorem q503 {L : List It → SS → Prop} {F : SS → Prop} {T : TypeId → TI} {G : Gam} {n : Nat} {k : List It} {s : SS} {c : Code} {U : List (Nat × Nat)} {VV : VT} : (run L F T G U VV (n + 1) (.code c :: k) s) = (stC (run L F T G U VV n) L F T G U VV k s c) := rfl
theorem q504 {L : List It → SS → Prop} {F : SS → Prop} {T : TypeId → TI} {G : Gam} {n : Nat} {i : Nat} {k : List It} {s : SS} {U : List (Nat × Nat)} {VV : VT} : (run L F T G U VV (n + 1) (.blk i :: k) s) = (run L F T G U VV n k s) := rfl
theorem q505 {L : List It → SS → Prop} {F : SS → Prop} {T : TypeId → TI} {G : Gam} {n : Nat} {k : List It} {s : SS} {all : List Oper} {U : List (Nat × Nat)} {VV : VT} : (run L F T G U VV (n + 1) (.ops all [] :: k) s) = (run L F T G U VV n k s) := rfl
theorem q506 {L : List It → SS → Prop} {F : SS → Prop} {T : TypeId → TI} {G : Gam} {n : Nat} {nx : Nat} {k : List It} {ol : List Oper} {all : List Oper} {sl : List (Nat × SV)} {hp : Hp} {U : List (Nat × Nat)} {VV : VT} {dst : Option Tmp} {op : Op} {ty : TypeId} {pos : String} {ae : Array Edge} {gd : Option (Nat × Bool)} : (run L F T G U VV (n + 1) (.ops all (⟨dst, op, ty, pos, ae, gd⟩ :: ol) :: k) ⟨sl, hp, nx⟩) = (stR (run L F T G U VV n) dst (.ops all ol :: k) ⟨sl, hp, nx⟩ (opG (coreS T G (lookH hp) nx op (mapS sl (opds' op))) (guardV all sl gd))) := rfl
theorem q507 {L : List It → SS → Prop} {F : SS → Prop} {T : TypeId → TI} {G : Gam} {n : Nat} {k : List It} {s : SS} {J : SS → Prop} {U : List (Nat × Nat)} {VV : VT} : (run L F T G U VV (n + 1) (.cut J :: k) s) = (J s) := rfl
theorem q508 {L : List It → SS → Prop} {F : SS → Prop} {R : List It → SS → Prop} {T : TypeId → TI} {G : Gam} {k : List It} {s : SS} {U : List (Nat × Nat)} {VV : VT} : (stC R L F T G U VV k s .skip) = (R k s) := rfl
theorem q509 {L : List It → SS → Prop} {F : SS → Prop} {R : List It → SS → Prop} {T : TypeId → TI} {G : Gam} {i : Nat} {k : List It} {s : SS} {U : List (Nat × Nat)} {VV : VT} : (stC R L F T G U VV k s (.label i)) = (R k s) := rfl
theorem q510 {L : List It → SS → Prop} {F : SS → Prop} {R : List It → SS → Prop} {T : TypeId → TI} {G : Gam} {i : Nat} {nx : Nat} {k : List It} {ol : List Oper} {sl : List (Nat × SV)} {hp : Hp} {U : List (Nat × Nat)} {VV : VT} : (stC R L F T G U VV k ⟨sl, hp, nx⟩ (.region i ol.toArray true)) = (stG R T G ol ⟨fltS (lookN U cutK) sl, hp, nx⟩ k (lookV VV i)) := rfl
theorem q511 {R : List It → SS → Prop} {T : TypeId → TI} {G : Gam} {nx : Nat} {k : List It} {ol : List Oper} {sl : List (Nat × SV)} {hp : Hp} {X : XT} {Y : YT} : (stG R T G ol ⟨sl, hp, nx⟩ k (X, Y)) = (rgn R T G X Y ol ⟨sl, hp, nx⟩ k ol 0 [] sl) := rfl
theorem q512 {u : Nat} : (lookV [] u) = (([], [])) := rfl
theorem q513 {u : Nat} {VV : VT} {X : XT} {Y : YT} : (lookVB true (X, Y) VV u) = ((X, Y)) := rfl
theorem q514 {u : Nat} {VV : VT} {X : XT} {Y : YT} : (lookVB false (X, Y) VV u) = (lookV VV u) := rfl
theorem q515 {t : Nat} {u : Nat} {VV : VT} {X : XT} {Y : YT} : (lookV ((t, (X, Y)) :: VV) u) = (lookVB (t == u) (X, Y) VV u) := rfl
theorem q516 {n : Nat} : (okX none n) = (True) := rfl
theorem q517 {n : Nat} {i : Nat} : (okX (some i) n) = ((n = i)) := rfl
theorem q518 {u : Nat} : (lookX [] u) = (none) := rfl
theorem q519 {i : Nat} {t : Nat} {u : Nat} {X : XT} : (lookX ((t, i) :: X) u) = (lookXB (t == u) i X u) := rfl
theorem q520 {i : Nat} {u : Nat} {X : XT} : (lookXB true i X u) = (some i) := rfl
theorem q521 {i : Nat} {u : Nat} {X : XT} : (lookXB false i X u) = (lookX X u) := rfl
theorem q522 {u : Nat} : (lookY [] u) = ([]) := rfl
theorem q523 {t : Nat} {u : Nat} {Y : YT} {hd : List Nat} : (lookY ((t, hd) :: Y) u) = (lookYB (t == u) hd Y u) := rfl
theorem q524 {u : Nat} {Y : YT} {hd : List Nat} : (lookYB true hd Y u) = (hd) := rfl
theorem q525 {u : Nat} {Y : YT} {hd : List Nat} : (lookYB false hd Y u) = (lookY Y u) := rfl
theorem q526 {hp : Hp} : (hideH [] hp) = (hp) := rfl
theorem q527 {i : Nat} {hp : Hp} {hd : List Nat} : (hideH (i :: hd) hp) = ((i, .no) :: hideH hd hp) := rfl
theorem q528 {L : List It → SS → Prop} {F : SS → Prop} {R : List It → SS → Prop} {T : TypeId → TI} {G : Gam} {i : Nat} {nx : Nat} {k : List It} {ol : List Oper} {sl : List (Nat × SV)} {hp : Hp} {U : List (Nat × Nat)} {VV : VT} : (stC R L F T G U VV k ⟨sl, hp, nx⟩ (.region i ol.toArray false)) = (R (.ops ol ol :: k) ⟨fltS (lookN U cutK) sl, hp, nx⟩) := rfl
theorem q529  : (cutK) = (1000000) := rfl
theorem q530 {sl : List (Nat × SV)} : (fltS 0 sl) = (sl) := fltS_zero
theorem q531 {n : Nat} : (fltS (n + 1) []) = ([]) := rfl
theorem q532 {n : Nat} {t : Nat} {x : SV} {sl : List (Nat × SV)} : (fltS (n + 1) ((t, x) :: sl)) = (fltB (decide (t ≤ n)) n t x sl) := rfl
theorem q533 {n : Nat} {t : Nat} {x : SV} {sl : List (Nat × SV)} : (fltB true n t x sl) = ((t, x) :: fltS (n + 1) sl) := rfl
theorem q534 {n : Nat} {t : Nat} {x : SV} {sl : List (Nat × SV)} : (fltB false n t x sl) = (fltS (n + 1) sl) := rfl
theorem q535 {i : Nat} {ch : Ch} : (setH i ch []) = ([(i, ch)]) := rfl
theorem q536 {i : Nat} {t : Nat} {hp : Hp} {ch : Ch} {ch2 : Ch} : (setH i ch ((t, ch2) :: hp)) = (setHB (t == i) i ch t ch2 hp) := rfl
theorem q537 {i : Nat} {t : Nat} {hp : Hp} {ch : Ch} {ch2 : Ch} : (setHB true i ch t ch2 hp) = ((t, ch) :: hp) := rfl
theorem q538 {i : Nat} {t : Nat} {hp : Hp} {ch : Ch} {ch2 : Ch} : (setHB false i ch t ch2 hp) = ((t, ch2) :: setH i ch hp) := rfl
theorem q539 {L : List It → SS → Prop} {F : SS → Prop} {R : List It → SS → Prop} {T : TypeId → TI} {G : Gam} {k : List It} {s : SS} {c : Code} {c3 : Code} {U : List (Nat × Nat)} {VV : VT} : (stC R L F T G U VV k s (.seq c c3)) = (R (.code c :: .code c3 :: k) s) := rfl
theorem q540 {L : List It → SS → Prop} {F : SS → Prop} {R : List It → SS → Prop} {T : TypeId → TI} {G : Gam} {nx : Nat} {k : List It} {c : Code} {c3 : Code} {sl : List (Nat × SV)} {hp : Hp} {U : List (Nat × Nat)} {VV : VT} {a0 : Operand} : (stC R L F T G U VV k ⟨sl, hp, nx⟩ (.cond a0 c c3)) = (stIf R c c3 k ⟨sl, hp, nx⟩ (evalS sl a0)) := rfl
theorem q541 {L : List It → SS → Prop} {F : SS → Prop} {R : List It → SS → Prop} {T : TypeId → TI} {G : Gam} {i : Nat} {k : List It} {s : SS} {c : Code} {U : List (Nat × Nat)} {VV : VT} : (stC R L F T G U VV k s (.block i c)) = (R (.code c :: .blk i :: k) s) := rfl
theorem q542 {L : List It → SS → Prop} {F : SS → Prop} {R : List It → SS → Prop} {T : TypeId → TI} {G : Gam} {i : Nat} {k : List It} {s : SS} {U : List (Nat × Nat)} {VV : VT} : (stC R L F T G U VV k s (.exit i)) = (R (skipTo i k) s) := rfl
theorem q543 {L : List It → SS → Prop} {F : SS → Prop} {R : List It → SS → Prop} {T : TypeId → TI} {G : Gam} {k : List It} {s : SS} {U : List (Nat × Nat)} {VV : VT} : (stC R L F T G U VV k s .ret) = (F s) := rfl
theorem q544 {L : List It → SS → Prop} {F : SS → Prop} {R : List It → SS → Prop} {T : TypeId → TI} {G : Gam} {k : List It} {s : SS} {c : Code} {U : List (Nat × Nat)} {VV : VT} : (stC R L F T G U VV k s (.loop c)) = (stU R L k s c (lookN U (firstR c))) := rfl
theorem q545 {L : List It → SS → Prop} {R : List It → SS → Prop} {k : List It} {s : SS} {c : Code} : (stU R L k s c 0) = (L (.code (.loop c) :: k) s) := rfl
theorem q546 {L : List It → SS → Prop} {R : List It → SS → Prop} {n : Nat} {k : List It} {s : SS} {c : Code} : (stU R L k s c (n + 1)) = (R (.lp (n + 1) c :: k) s) := rfl
theorem q547 {L : List It → SS → Prop} {F : SS → Prop} {T : TypeId → TI} {G : Gam} {n : Nat} {i : Nat} {k : List It} {s : SS} {c : Code} {U : List (Nat × Nat)} {VV : VT} : (run L F T G U VV (n + 1) (.lp i c :: k) s) = (stLp (run L F T G U VV n) k s c i) := rfl
theorem q548 {R : List It → SS → Prop} {n : Nat} {k : List It} {s : SS} {c : Code} : (stLp R k s c (n + 1)) = (R (.code c :: .lp n c :: k) s) := rfl
theorem q549 {R : List It → SS → Prop} {k : List It} {s : SS} {c : Code} : (stLp R k s c 0) = (False) := rfl
theorem q550 {i : Nat} {p : Bool} {ae2 : Array Oper} : (firstR (.region i ae2 p)) = (i) := rfl
theorem q551 {c : Code} {c3 : Code} : (firstR (.seq c c3)) = (firstR c) := rfl
theorem q552 {c : Code} {c3 : Code} {a0 : Operand} : (firstR (.cond a0 c c3)) = (firstR c) := rfl
theorem q553 {i : Nat} {c : Code} : (firstR (.block i c)) = (firstR c) := rfl
theorem q554 {c : Code} : (firstR (.loop c)) = (firstR c) := rfl
theorem q555 {R : List It → SS → Prop} {k : List It} {s : SS} {c : Code} {c3 : Code} {p : Bool} : (stIf R c c3 k s (.v (.bool p))) = (ifB R c c3 k s p) := rfl
theorem q556 {R : List It → SS → Prop} {k : List It} {s : SS} {c : Code} {c3 : Code} {p : Bool} {q : Bool} : (stIf R c c3 k s (.c q (.v (.bool p)))) = ((q = true ∧ ifB R c c3 k s p)) := rfl
theorem q557 {R : List It → SS → Prop} {k : List It} {s : SS} {c : Code} {c3 : Code} : (ifB R c c3 k s true) = (R (.code c :: k) s) := (by simp [ifB])
theorem q558 {R : List It → SS → Prop} {k : List It} {s : SS} {c : Code} {c3 : Code} : (ifB R c c3 k s false) = (R (.code c3 :: k) s) := (by simp [ifB])
theorem q559 {R : List It → SS → Prop} {k : List It} {s : SS} {c : Code} {c3 : Code} {ia : Int} {ib : Int} : (ifB R c c3 k s (ia == ib)) = ((((ia == ib) = true → R (.code c :: k) s) ∧ ((ia == ib) = false → R (.code c3 :: k) s))) := rfl
theorem q560 {R : List It → SS → Prop} {k : List It} {s : SS} {c : Code} {c3 : Code} {ia : Int} {ib : Int} : (ifB R c c3 k s (ia != ib)) = ((((ia != ib) = true → R (.code c :: k) s) ∧ ((ia != ib) = false → R (.code c3 :: k) s))) := rfl
theorem q561 {R : List It → SS → Prop} {k : List It} {s : SS} {c : Code} {c3 : Code} {p : Bool} : (ifB R c c3 k s (!p)) = ((((!p) = true → R (.code c :: k) s) ∧ ((!p) = false → R (.code c3 :: k) s))) := rfl
theorem q562 {R : List It → SS → Prop} {k : List It} {s : SS} {c : Code} {c3 : Code} {want : Bool} {p : Bool} {q : Bool} : (ifB R c c3 k s (bif p then q else want)) = ((((bif p then q else want) = true → R (.code c :: k) s) ∧ ((bif p then q else want) = false → R (.code c3 :: k) s))) := rfl
theorem q563 {R : List It → SS → Prop} {k : List It} {s : SS} {c : Code} {c3 : Code} {p : Bool} {q : Bool} : (ifB R c c3 k s (p && q)) = ((((p && q) = true → R (.code c :: k) s) ∧ ((p && q) = false → R (.code c3 :: k) s))) := rfl
theorem q564 {R : List It → SS → Prop} {k : List It} {s : SS} {c : Code} {c3 : Code} {p : Bool} {q : Bool} : (ifB R c c3 k s (p || q)) = ((((p || q) = true → R (.code c :: k) s) ∧ ((p || q) = false → R (.code c3 :: k) s))) := rfl
theorem q565 {R : List It → SS → Prop} {k : List It} {s : SS} {c : Code} {c3 : Code} {vc : Prop} [Decidable vc] : (ifB R c c3 k s (decide vc)) = (((decide vc = true → R (.code c :: k) s) ∧ (decide vc = false → R (.code c3 :: k) s))) := rfl
theorem q566 {i : Nat} {k : List It} : (skipB true i k) = (k) := rfl
theorem q567 {i : Nat} {k : List It} : (skipB false i k) = (skipTo i k) := rfl
theorem q568 {i : Nat} {j : Nat} {k : List It} : (skipTo j (.blk i :: k)) = (skipB (i == j) j k) := rfl
theorem q569 {j : Nat} {k : List It} {c : Code} : (skipTo j (.code c :: k)) = (skipTo j k) := rfl
theorem q570 {j : Nat} {k : List It} {J : SS → Prop} : (skipTo j (.cut J :: k)) = (skipTo j k) := rfl
theorem q571 {i : Nat} {j : Nat} {k : List It} {c : Code} : (skipTo j (.lp i c :: k)) = (skipTo j k) := rfl
theorem q572 {R : List It → SS → Prop} {nx : Nat} {k : List It} {x : SV} {sl : List (Nat × SV)} {hp : Hp} {dst : Option Tmp} {vc : Prop} : (stR R dst k ⟨sl, hp, nx⟩ (.is vc x)) = ((vc ∧ R k ⟨consS dst x sl, hp, nx⟩)) := rfl
theorem q573 {R : List It → SS → Prop} {i : Nat} {nx : Nat} {k : List It} {sl : List (Nat × SV)} {hp : Hp} {dst : Option Tmp} {vc : Prop} {ch : Ch} : (stR R dst k ⟨sl, hp, nx⟩ (.put vc i ch)) = ((vc ∧ i < nx + 512 ∧ R k ⟨consS dst .un sl, setH i ch hp, nx + 512⟩)) := rfl
theorem q574 {R : List It → SS → Prop} {nx : Nat} {k : List It} {sl : List (Nat × SV)} {hp : Hp} {dst : Option Tmp} {vc : Prop} {fn : Nat → SV × Hp} : (stR R dst k ⟨sl, hp, nx⟩ (.new vc fn)) = ((vc ∧ ∀ b, allLt (nx + 512) (fn b).2 ∧ R k ⟨consS dst (fn b).1 sl, app (fn b).2 hp, nx + 512⟩)) := rfl
theorem q575 {R : List It → SS → Prop} {nx : Nat} {k : List It} {sl : List (Nat × SV)} {hp : Hp} {dst : Option Tmp} {vc : Prop} {fv : Option Addr → Nat → SV × Hp} : (stR R dst k ⟨sl, hp, nx⟩ (.val vc fv)) = ((vc ∧ ∀ A c, allLt (nx + 512) (fv A c).2 ∧ R k ⟨consS dst (fv A c).1 sl, app (fv A c).2 hp, nx + 512⟩)) := rfl
theorem q576 {R : List It → SS → Prop} {nx : Nat} {k : List It} {sl : List (Nat × SV)} {hp : Hp} {dst : Option Tmp} {vc : Prop} {fw : Option Addr → Nat → Option Addr → Nat → SV × Hp} : (stR R dst k ⟨sl, hp, nx⟩ (.val2 vc fw)) = ((vc ∧ ∀ A c D e, allLt (nx + 512) (fw A c D e).2 ∧ R k ⟨consS dst (fw A c D e).1 sl, app (fw A c D e).2 hp, nx + 512⟩)) := rfl
theorem q577 {R : List It → SS → Prop} {i : Nat} {nx : Nat} {k : List It} {sl : List (Nat × SV)} {hp : Hp} {dst : Option Tmp} {vc : Prop} {fv : Option Addr → Nat → SV × Hp} : (stR R dst k ⟨sl, hp, nx⟩ (.app vc i fv)) = ((vc ∧ ∀ A c, allLt (nx + 512) (fv A c).2 ∧ R k ⟨consS dst (fv A c).1 sl, app (fv A c).2 hp, nx + 512⟩)) := rfl
theorem q578 {H : Nat → Ch} {W : List Ent → List (Nat × SV) → Prop} {i : Nat} {lo : Nat} {x : SV} {sl : List (Nat × SV)} {E : List Ent} {mp : Nat} {xk : Option Nat} {dst : Option Tmp} {vc : Prop} {mw : Bool} : (stD W i dst mp mw xk lo H E sl (.is vc x)) = ((vc ∧ W (⟨i, dst, x, [], mp⟩ :: E) (consS dst x sl))) := rfl
theorem q579 {H : Nat → Ch} {W : List Ent → List (Nat × SV) → Prop} {i : Nat} {lo : Nat} {key : Nat} {sl : List (Nat × SV)} {E : List Ent} {mp : Nat} {xk : Option Nat} {dst : Option Tmp} {vc : Prop} {ch : Ch} {mw : Bool} : (stD W i dst mp mw xk lo H E sl (.put vc key ch)) = ((vc ∧ mw = true ∧ okX xk key ∧ isNo (H key) = false ∧ W (⟨i, dst, .un, [(key, ch)], mp⟩ :: E) (consS dst .un sl))) := rfl
theorem q580 {H : Nat → Ch} {W : List Ent → List (Nat × SV) → Prop} {i : Nat} {lo : Nat} {sl : List (Nat × SV)} {E : List Ent} {mp : Nat} {xk : Option Nat} {dst : Option Tmp} {vc : Prop} {fn : Nat → SV × Hp} {mw : Bool} : (stD W i dst mp mw xk lo H E sl (.new vc fn)) = ((vc ∧ ∀ b, keysIn lo none (fn b).2 ∧ W (⟨i, dst, (fn b).1, (fn b).2, mp⟩ :: E) (consS dst (fn b).1 sl))) := rfl
theorem q581 {H : Nat → Ch} {W : List Ent → List (Nat × SV) → Prop} {i : Nat} {lo : Nat} {sl : List (Nat × SV)} {E : List Ent} {mp : Nat} {xk : Option Nat} {dst : Option Tmp} {vc : Prop} {fv : Option Addr → Nat → SV × Hp} {mw : Bool} : (stD W i dst mp mw xk lo H E sl (.val vc fv)) = ((vc ∧ ∀ A c, keysIn lo none (fv A c).2 ∧ W (⟨i, dst, (fv A c).1, (fv A c).2, mp⟩ :: E) (consS dst (fv A c).1 sl))) := rfl
theorem q582 {H : Nat → Ch} {W : List Ent → List (Nat × SV) → Prop} {i : Nat} {lo : Nat} {key : Nat} {sl : List (Nat × SV)} {E : List Ent} {mp : Nat} {xk : Option Nat} {dst : Option Tmp} {vc : Prop} {fv : Option Addr → Nat → SV × Hp} {mw : Bool} : (stD W i dst mp mw xk lo H E sl (.app vc key fv)) = ((vc ∧ mw = true ∧ okX xk key ∧ isNo (H key) = false ∧ ∀ A c, keysIn lo (some key) (fv A c).2 ∧ W (⟨i, dst, (fv A c).1, (fv A c).2, mp⟩ :: E) (consS dst (fv A c).1 sl))) := rfl
theorem q583 {H : Nat → Ch} {W : List Ent → List (Nat × SV) → Prop} {i : Nat} {lo : Nat} {sl : List (Nat × SV)} {E : List Ent} {mp : Nat} {xk : Option Nat} {dst : Option Tmp} {vc : Prop} {fw : Option Addr → Nat → Option Addr → Nat → SV × Hp} {mw : Bool} : (stD W i dst mp mw xk lo H E sl (.val2 vc fw)) = ((vc ∧ ∀ A c D e, keysIn lo none (fw A c D e).2 ∧ W (⟨i, dst, (fw A c D e).1, (fw A c D e).2, mp⟩ :: E) (consS dst (fw A c D e).1 sl))) := rfl
theorem q584 {R : List It → SS → Prop} {T : TypeId → TI} {G : Gam} {i : Nat} {nx : Nat} {k : List It} {all : List Oper} {sl : List (Nat × SV)} {hp : Hp} {E : List Ent} {X : XT} {Y : YT} {m3 : List (Nat × SV)} : (rgn R T G X Y all ⟨sl, hp, nx⟩ k [] i E m3) = (R k ⟨m3, allH E hp, nx + 512 * i⟩) := rfl
theorem q585 {R : List It → SS → Prop} {T : TypeId → TI} {G : Gam} {i : Nat} {nx : Nat} {k : List It} {ol : List Oper} {all : List Oper} {sl : List (Nat × SV)} {hp : Hp} {E : List Ent} {X : XT} {Y : YT} {es : List Edge} {dst : Option Tmp} {op : Op} {ty : TypeId} {pos : String} {gd : Option (Nat × Bool)} {m3 : List (Nat × SV)} : (rgn R T G X Y all ⟨sl, hp, nx⟩ k (⟨dst, op, ty, pos, es.toArray, gd⟩ :: ol) i E m3) = (stE (rgn R T G X Y all ⟨sl, hp, nx⟩ k ol (i + 1)) T G X Y all ⟨sl, hp, nx⟩ i ⟨dst, op, ty, pos, es.toArray, gd⟩ E m3 (mpOf es E)) := (by simp [rgn])
theorem q586 {T : TypeId → TI} {G : Gam} {W : List Ent → List (Nat × SV) → Prop} {i : Nat} {nx : Nat} {all : List Oper} {sl : List (Nat × SV)} {hp : Hp} {E : List Ent} {mp : Nat} {X : XT} {Y : YT} {dst : Option Tmp} {op : Op} {ty : TypeId} {pos : String} {ae : Array Edge} {gd : Option (Nat × Bool)} {m3 : List (Nat × SV)} : (stE W T G X Y all ⟨sl, hp, nx⟩ i ⟨dst, op, ty, pos, ae, gd⟩ E m3 mp) = (stF W T G all i dst op gd mp (lookX X i) (nx + 512 * i) (viewH op (lookY Y i) mp E hp) E m3) := rfl
theorem q587 {T : TypeId → TI} {G : Gam} {W : List Ent → List (Nat × SV) → Prop} {i : Nat} {lo : Nat} {all : List Oper} {hp : Hp} {E : List Ent} {mp : Nat} {xk : Option Nat} {dst : Option Tmp} {op : Op} {gd : Option (Nat × Bool)} {m3 : List (Nat × SV)} : (stF W T G all i dst op gd mp xk lo hp E m3) = (stD W i dst mp (mayW op) xk lo (lookH hp) E m3 (opG (coreS T G (lookH hp) lo op (mapS m3 (opds' op))) (guardV all m3 gd))) := rfl
theorem q588 {lo : Nat} {wr : Option Nat} : (keysIn lo wr []) = (True) := rfl
theorem q589 {i : Nat} {lo : Nat} {hp : Hp} {ch : Ch} : (keysIn lo none ((i, ch) :: hp)) = (((lo ≤ i ∧ i < lo + 512) ∧ keysIn lo none hp)) := (by simp [keysIn])
theorem q590 {i : Nat} {lo : Nat} {key : Nat} {hp : Hp} {ch : Ch} : (keysIn lo (some key) ((i, ch) :: hp)) = (((lo ≤ i ∧ i < lo + 512 ∨ key = i) ∧ keysIn lo (some key) hp)) := (by simp [keysIn])
theorem q591 {n : Nat} : (allLt n []) = (True) := rfl
theorem q592 {n : Nat} {i : Nat} {hp : Hp} {ch : Ch} : (allLt n ((i, ch) :: hp)) = ((i < n ∧ allLt n hp)) := rfl
theorem q593 {T : TypeId → TI} {post : SS → List SV → Prop} {s : SS} {acc : List SV} : (retL T s post [] acc) = (post s (revS acc [])) := rfl
theorem q594 {T : TypeId → TI} {post : SS → List SV → Prop} {t : Nat} {s : SS} {rv : List ResultVar} {acc : List SV} : (retL T s post (.tmp t :: rv) acc) = (retStep (retL T s post rv) acc (retR T s (.tmp t))) := rfl
theorem q595 {T : TypeId → TI} {post : SS → List SV → Prop} {t : Nat} {s : SS} {ty : TypeId} {rv : List ResultVar} {acc : List SV} : (retL T s post (.cell t ty :: rv) acc) = (retStep (retL T s post rv) acc (retR T s (.cell t ty))) := rfl
theorem q596 {T : TypeId → TI} {t : Nat} {nx : Nat} {sl : List (Nat × SV)} {hp : Hp} : (retR T ⟨sl, hp, nx⟩ (.tmp t)) = (retT (look sl t)) := rfl
theorem q597 {T : TypeId → TI} {t : Nat} {nx : Nat} {sl : List (Nat × SV)} {hp : Hp} {ty : TypeId} : (retR T ⟨sl, hp, nx⟩ (.cell t ty)) = (isLit (T ty) (loadR (T ty) (lookH hp) (look sl t))) := rfl
theorem q598 {K : List SV → Prop} {x : SV} {vc : Prop} {acc : List SV} : (retStep K acc (.is vc x)) = ((vc ∧ K (x :: acc))) := rfl
theorem q599 {u : Nat} {ti : TI} {tl : List (TypeId × TI)} : (lookTB true ti tl u) = (ti) := rfl
theorem q600 {u : Nat} {ti : TI} {tl : List (TypeId × TI)} : (lookTB false ti tl u) = (lookT tl u) := rfl
theorem q601 {u : Nat} {ti : TI} {tl : List (TypeId × TI)} {ot : TypeId} : (lookT ((ot, ti) :: tl) u) = (lookTB (ot == u) ti tl u) := rfl
theorem q602 {G : Gam} {H : Nat → Ch} {nx : Nat} {l : List SV} {f : FuncId} {sp : Spc} : (gB true sp G f l H nx) = (sp l H nx) := rfl
theorem q603 {G : Gam} {H : Nat → Ch} {nx : Nat} {l : List SV} {f : FuncId} {sp : Spc} : (gB false sp G f l H nx) = (G f l H nx) := rfl
theorem q604 {G : Gam} {H : Nat → Ch} {i : Nat} {nx : Nat} {l : List SV} {f : FuncId} {sp : Spc} : (gcons i sp G f l H nx) = (gB (i == f) sp G f l H nx) := rfl
end En
end Go.Proofs.Ytfpnafeildigaaa
/-
The engine: arrays as arguments and results of contracts.
-/
set_option linter.unusedSimpArgs false
set_option linter.unusedVariables false
namespace Go.Proofs.Ytfpnafeildigaaa
namespace En
open Go Go.RowKit Ar Sc
def arS (key : Nat) (A : Option Addr) (c : Nat) (a : Arr) : SV :=
  .agg [.v (.int .i64 a.k), .v (.int .i64 a.r), .v (.int .i64 a.l0), .v (.int .i64 a.l1), .g key A a.xs.length c]
theorem arr_eta (a : Arr) : Arr.mk a.k a.r a.l0 a.l1 a.xs = a := rfl
def getC (k r l0 l1 : Int) (A : Option Addr) (n c : Nat) : Ch → Prop × Arr
  | .ints A' c' .i64 xs => (A = A' ∧ n = xs.length ∧ c = c', ⟨k, r, l0, l1, xs⟩)
  | _ => (False, .zero)
def getA (H : Nat → Ch) : SV → Prop × Arr
  | .agg [.v (.int .i64 k), .v (.int .i64 r), .v (.int .i64 l0), .v (.int .i64 l1), .g key A n c] => getC k r l0 l1 A n c (H key)
  | .agg [.v (.int .i64 k), .v (.int .i64 r), .v (.int .i64 l0), .v (.int .i64 l1), .v (.slice none 0 0)] => (True, ⟨k, r, l0, l1, []⟩)
  | _ => (False, .zero)
theorem getA_q {H : Nat → Ch} {k r l0 l1 : Int} {key : Nat} {A : Option Addr} {n c : Nat} : getA H (.agg [.v (.int .i64 k), .v (.int .i64 r), .v (.int .i64 l0), .v (.int .i64 l1), .g key A n c]) = getC k r l0 l1 A n c (H key) := rfl
theorem getA_z {H : Nat → Ch} {k r l0 l1 : Int} : getA H (.agg [.v (.int .i64 k), .v (.int .i64 r), .v (.int .i64 l0), .v (.int .i64 l1), .v (.slice none 0 0)]) = (True, ⟨k, r, l0, l1, []⟩) := rfl
theorem getC_q {k r l0 l1 : Int} {A A' : Option Addr} {n c c' : Nat} {xs : List Int} : getC k r l0 l1 A n c (.ints A' c' .i64 xs) = (A = A' ∧ n = xs.length ∧ c = c', ⟨k, r, l0, l1, xs⟩) := rfl
theorem getA_ok {w0 w : World} {hp : Hp} {x : SV} (H : HH w0 hp w) (h : (getA (lookH hp) x).1) :
    ∃ A c, den x = .agg #[.int .i64 (getA (lookH hp) x).2.k, .int .i64 (getA (lookH hp) x).2.r, .int .i64 (getA (lookH hp) x).2.l0, .int .i64 (getA (lookH hp) x).2.l1, .slice A (getA (lookH hp) x).2.xs.length c] ∧ Sl w A (getA (lookH hp) x).2.xs ∧ (getA (lookH hp) x).2.xs.length ≤ c := by
  unfold getA at h ⊢
  split at h
  · next k r l0 l1 key A n c =>
    have hk := H.hold key
    generalize hc : lookH hp key = ch at h hk ⊢
    unfold getC at h ⊢
    split at h
    · next A' c' xs =>
      obtain ⟨rfl, rfl, rfl⟩ := h
      refine ⟨A, c, rfl, fun hn => ?_, hk.1⟩
      obtain ⟨b, o, e, hb, hf⟩ := hk.2 (by simpa using hn)
      refine ⟨b, o, e, hb, fun j hj => ?_⟩
      have := hf j hj 0 (by omega)
      simpa [fI] using this
    · exact h.elim
  · exact ⟨none, 0, rfl, Sl.nil _ _, Nat.le_refl _⟩
  · exact h.elim
/-- an array and an error that are answered -/
def ret2 (nx : Nat) (vc : Prop) (r : Int × Arr) : Res :=
  .val vc fun A c => (.tup [arS nx A c r.2, .v (.int .i64 r.1)], [(nx, .ints A c .i64 r.2.xs)])
theorem sl_hold {w : World} {A : Option Addr} {c : Nat} {xs : List Int} {B : Nat} (h : Sl w A xs) (hc : xs.length ≤ c) : Hold B w (.ints A c .i64 xs) := by
  refine ⟨hc, fun hn => ?_⟩
  obtain ⟨b, o, e, hb, hf⟩ := h (by intro e; rw [e] at hn; exact hn rfl)
  refine ⟨b, o, e, hb, fun i hi j hj => ?_⟩
  have : j = 0 := by omega
  subst this
  simpa [fI] using hf i hi
theorem ret2_ok {P : Program} {f : FuncId} {args : Array Value} {w0 w : World} {hp : Hp} {nx : Nat} {vc : Prop} {r : Int × Arr}
    (h : Calls P f args w fun e w' => Below w.heap.size w w' ∧ ∃ (C : Option Addr) (n : Nat), e = .returned (.tuple #[.agg #[.int .i64 r.2.k, .int .i64 r.2.r, .int .i64 r.2.l0, .int .i64 r.2.l1, .slice C r.2.xs.length n], .int .i64 r.1]) ∧ Sl w' C r.2.xs ∧ (∀ g o, C = some ⟨g, o, none⟩ → w.heap.size ≤ g) ∧ r.2.xs.length ≤ n) :
    Calls P f args w (fun e w' => ∃ u, e = .returned (den ((ret2 nx vc r).out u).1) ∧ Stp w0 hp w (ret2 nx vc r).wr ((ret2 nx vc r).out u).2 w') := by
  refine h.mono ?_
  rintro e w' ⟨hb, C, n, rfl, hs, hg, hn⟩
  refine ⟨⟨0, C, n, none, 0⟩, rfl, Stp.one hb (sl_hold hs hn) fun b hf => .inl ?_⟩
  obtain ⟨hne, a, e, rfl⟩ := hf
  obtain ⟨g, o, e', _, _⟩ := hs hne
  have e : C = some a := e
  rw [e] at e'; cases e'
  exact hg g o e
/-- a truth that is answered -/
theorem bool_ok {P : Program} {f : FuncId} {args : Array Value} {w0 w : World} {hp : Hp} {vc : Prop} {v : SV}
    (h : Calls P f args w fun e w' => e = .returned (den v) ∧ Below w.heap.size w w') :
    Calls P f args w (fun e w' => ∃ u : Out, e = .returned (den (((Res.is vc v)).out u).1) ∧ Stp w0 hp w (Res.is vc v).wr ((Res.is vc v).out u).2 w') := by
  refine h.mono ?_
  rintro e w' ⟨rfl, hb⟩
  exact ⟨⟨0, none, 0, none, 0⟩, rfl, .still hb⟩
end En
end Go.Proofs.Ytfpnafeildigaaa
