/-
Contracts of scalars.one and scalars.two: the tables of the methods (chapter 9).
-/
import Derived.Test.YtaelfhjdmljblaaGreatDoorBa1
import Derived.Laws.EntriesVeiled
import Derived.Deep.QuietTactic
import Derived.BigQuiet
set_option linter.unusedSimpArgs false
set_option linter.unusedVariables false
namespace Go.Proofs.YtaelfhjdmljblaaGreatDoor
namespace Sc
open Go.RowKit Go.Lib
theorem setRow_alloc (w : World) (old cs : Array Value) (t : TypeId) : (w.alloc (.cells old t)).setRow w.heap.size cs = w.alloc (.cells cs t) := by
  unfold World.setRow World.alloc
  congr 1
  apply Array.ext
  · simp
  · intro i h1 h2
    simp only [Array.getElem_modify, Array.getElem_push]
    split
    · rename_i h; subst h; simp
    · simp at h1 h2
      rw [dif_pos (by omega), dif_pos (by omega)]
theorem wpList_store_new {P : Program} {ops : Array Oper} {rest : List Oper} {o : Oper} {a : Act} {w : World} {Q : Exit → Act → World → Prop} (hgd : o.guard = none) (ty : TypeId) (x y : Operand) (ho : o.op = .store ty x y)
    (cells : Array Value) (t : TypeId) (old : Array Value) (hx : a.eval x = .pointer (some ⟨w.heap.size, 0, none⟩)) (hy : a.eval y = .agg cells)
    (hi : (P.info? ty).map (·.size) = some cells.size)
    (hold : old.size = cells.size) (h1 : cells.all (·.oneCell') = true)
    (h : wpList P ops Q rest (a.put o.dst undef) (w.alloc (.cells cells t))) : wpList P ops Q (o :: rest) a (w.alloc (.cells old t)) :=
  wpList_store_row hgd ty x y ho w.heap.size cells hx hy t old (heap_alloc_new _ _) hi hold h1 (by rw [setRow_alloc]; exact h)
/-- a build of an aggregate, its cells under a name -/
theorem wpList_build_as {P : Program} {ops : Array Oper} {rest : List Oper} {o : Oper} {a : Act} {w : World} {Q : Exit → Act → World → Prop} (hg : o.guard = none) (t : TypeId) (parts : Array (Nat × Operand)) (ho : o.op = .build t parts)
    (cs : Array Value) (hf : P.built t (parts.map fun (i, x) => (i, a.eval x)).toList = some cs)
    (h : wpList P ops Q rest (a.put o.dst (.agg cs)) w) : wpList P ops Q (o :: rest) a w :=
  wpList_build hg t parts ho (by rw [hf]; rfl) (by rw [hf]; exact h)
def tbl2 : Array Value := #[.nilFunc, .nilFunc, .nilFunc, .nilFunc, .nilFunc, .nilFunc, .nilFunc, .nilFunc, .nilFunc, .nilFunc, .nilFunc, .nilFunc, .nilFunc, .nilFunc, .nilFunc, .func (.func 170) #[] #[], .func (.func 171) #[] #[], .func (.func 172) #[] #[], .func (.func 173) #[] #[], .func (.func 174) #[] #[], .func (.func 175) #[] #[], .func (.func 176) #[] #[], .func (.func 177) #[] #[], .func (.func 178) #[] #[], .func (.func 179) #[] #[], .func (.func 180) #[] #[], .func (.func 181) #[] #[], .func (.func 182) #[] #[], .func (.func 183) #[] #[], .func (.func 184) #[] #[], .func (.func 185) #[] #[], .func (.func 186) #[] #[], .func (.func 187) #[] #[]]
def tbl1 : Array Value := #[.nilFunc, .func (.func 167) #[] #[], .func (.func 168) #[] #[], .func (.func 169) #[] #[]]
theorem two_15 (w : World) : Calls Tryz.prog 116 #[.int .i64 15] w fun e w' => e = .returned (.func (.func 170) #[] #[]) ∧ Gr w w' := by
  have hc : tbl2[15]? = some (.func (.func 170) #[] #[]) := rfl
  go_enter Tryz.func116, Tryz.ntmps116
  iterate 11 go_step
  refine wpList_build_as rfl 156 _ rfl tbl2 (by as_aux_lemma => kernel_rfl) ?_
  iterate 3 go_step
  refine wpList_store_new rfl 156 _ _ rfl tbl2 _ _ rfl rfl (by as_aux_lemma => kernel_rfl) rfl (by as_aux_lemma => kernel_rfl) ?_
  go_wp2
  go_ret
  exact ⟨rfl, (Gr.refl _).alloc _ _⟩
theorem two_16 (w : World) : Calls Tryz.prog 116 #[.int .i64 16] w fun e w' => e = .returned (.func (.func 171) #[] #[]) ∧ Gr w w' := by
  have hc : tbl2[16]? = some (.func (.func 171) #[] #[]) := rfl
  go_enter Tryz.func116, Tryz.ntmps116
  iterate 11 go_step
  refine wpList_build_as rfl 156 _ rfl tbl2 (by as_aux_lemma => kernel_rfl) ?_
  iterate 3 go_step
  refine wpList_store_new rfl 156 _ _ rfl tbl2 _ _ rfl rfl (by as_aux_lemma => kernel_rfl) rfl (by as_aux_lemma => kernel_rfl) ?_
  go_wp2
  go_ret
  exact ⟨rfl, (Gr.refl _).alloc _ _⟩
theorem two_17 (w : World) : Calls Tryz.prog 116 #[.int .i64 17] w fun e w' => e = .returned (.func (.func 172) #[] #[]) ∧ Gr w w' := by
  have hc : tbl2[17]? = some (.func (.func 172) #[] #[]) := rfl
  go_enter Tryz.func116, Tryz.ntmps116
  iterate 11 go_step
  refine wpList_build_as rfl 156 _ rfl tbl2 (by as_aux_lemma => kernel_rfl) ?_
  iterate 3 go_step
  refine wpList_store_new rfl 156 _ _ rfl tbl2 _ _ rfl rfl (by as_aux_lemma => kernel_rfl) rfl (by as_aux_lemma => kernel_rfl) ?_
  go_wp2
  go_ret
  exact ⟨rfl, (Gr.refl _).alloc _ _⟩
theorem two_18 (w : World) : Calls Tryz.prog 116 #[.int .i64 18] w fun e w' => e = .returned (.func (.func 173) #[] #[]) ∧ Gr w w' := by
  have hc : tbl2[18]? = some (.func (.func 173) #[] #[]) := rfl
  go_enter Tryz.func116, Tryz.ntmps116
  iterate 11 go_step
  refine wpList_build_as rfl 156 _ rfl tbl2 (by as_aux_lemma => kernel_rfl) ?_
  iterate 3 go_step
  refine wpList_store_new rfl 156 _ _ rfl tbl2 _ _ rfl rfl (by as_aux_lemma => kernel_rfl) rfl (by as_aux_lemma => kernel_rfl) ?_
  go_wp2
  go_ret
  exact ⟨rfl, (Gr.refl _).alloc _ _⟩
theorem two_19 (w : World) : Calls Tryz.prog 116 #[.int .i64 19] w fun e w' => e = .returned (.func (.func 174) #[] #[]) ∧ Gr w w' := by
  have hc : tbl2[19]? = some (.func (.func 174) #[] #[]) := rfl
  go_enter Tryz.func116, Tryz.ntmps116
  iterate 11 go_step
  refine wpList_build_as rfl 156 _ rfl tbl2 (by as_aux_lemma => kernel_rfl) ?_
  iterate 3 go_step
  refine wpList_store_new rfl 156 _ _ rfl tbl2 _ _ rfl rfl (by as_aux_lemma => kernel_rfl) rfl (by as_aux_lemma => kernel_rfl) ?_
  go_wp2
  go_ret
  exact ⟨rfl, (Gr.refl _).alloc _ _⟩
theorem two_20 (w : World) : Calls Tryz.prog 116 #[.int .i64 20] w fun e w' => e = .returned (.func (.func 175) #[] #[]) ∧ Gr w w' := by
  have hc : tbl2[20]? = some (.func (.func 175) #[] #[]) := rfl
  go_enter Tryz.func116, Tryz.ntmps116
  iterate 11 go_step
  refine wpList_build_as rfl 156 _ rfl tbl2 (by as_aux_lemma => kernel_rfl) ?_
  iterate 3 go_step
  refine wpList_store_new rfl 156 _ _ rfl tbl2 _ _ rfl rfl (by as_aux_lemma => kernel_rfl) rfl (by as_aux_lemma => kernel_rfl) ?_
  go_wp2
  go_ret
  exact ⟨rfl, (Gr.refl _).alloc _ _⟩
theorem two_21 (w : World) : Calls Tryz.prog 116 #[.int .i64 21] w fun e w' => e = .returned (.func (.func 176) #[] #[]) ∧ Gr w w' := by
  have hc : tbl2[21]? = some (.func (.func 176) #[] #[]) := rfl
  go_enter Tryz.func116, Tryz.ntmps116
  iterate 11 go_step
  refine wpList_build_as rfl 156 _ rfl tbl2 (by as_aux_lemma => kernel_rfl) ?_
  iterate 3 go_step
  refine wpList_store_new rfl 156 _ _ rfl tbl2 _ _ rfl rfl (by as_aux_lemma => kernel_rfl) rfl (by as_aux_lemma => kernel_rfl) ?_
  go_wp2
  go_ret
  exact ⟨rfl, (Gr.refl _).alloc _ _⟩
theorem two_22 (w : World) : Calls Tryz.prog 116 #[.int .i64 22] w fun e w' => e = .returned (.func (.func 177) #[] #[]) ∧ Gr w w' := by
  have hc : tbl2[22]? = some (.func (.func 177) #[] #[]) := rfl
  go_enter Tryz.func116, Tryz.ntmps116
  iterate 11 go_step
  refine wpList_build_as rfl 156 _ rfl tbl2 (by as_aux_lemma => kernel_rfl) ?_
  iterate 3 go_step
  refine wpList_store_new rfl 156 _ _ rfl tbl2 _ _ rfl rfl (by as_aux_lemma => kernel_rfl) rfl (by as_aux_lemma => kernel_rfl) ?_
  go_wp2
  go_ret
  exact ⟨rfl, (Gr.refl _).alloc _ _⟩
theorem two_23 (w : World) : Calls Tryz.prog 116 #[.int .i64 23] w fun e w' => e = .returned (.func (.func 178) #[] #[]) ∧ Gr w w' := by
  have hc : tbl2[23]? = some (.func (.func 178) #[] #[]) := rfl
  go_enter Tryz.func116, Tryz.ntmps116
  iterate 11 go_step
  refine wpList_build_as rfl 156 _ rfl tbl2 (by as_aux_lemma => kernel_rfl) ?_
  iterate 3 go_step
  refine wpList_store_new rfl 156 _ _ rfl tbl2 _ _ rfl rfl (by as_aux_lemma => kernel_rfl) rfl (by as_aux_lemma => kernel_rfl) ?_
  go_wp2
  go_ret
  exact ⟨rfl, (Gr.refl _).alloc _ _⟩
theorem two_24 (w : World) : Calls Tryz.prog 116 #[.int .i64 24] w fun e w' => e = .returned (.func (.func 179) #[] #[]) ∧ Gr w w' := by
  have hc : tbl2[24]? = some (.func (.func 179) #[] #[]) := rfl
  go_enter Tryz.func116, Tryz.ntmps116
  iterate 11 go_step
  refine wpList_build_as rfl 156 _ rfl tbl2 (by as_aux_lemma => kernel_rfl) ?_
  iterate 3 go_step
  refine wpList_store_new rfl 156 _ _ rfl tbl2 _ _ rfl rfl (by as_aux_lemma => kernel_rfl) rfl (by as_aux_lemma => kernel_rfl) ?_
  go_wp2
  go_ret
  exact ⟨rfl, (Gr.refl _).alloc _ _⟩
theorem two_25 (w : World) : Calls Tryz.prog 116 #[.int .i64 25] w fun e w' => e = .returned (.func (.func 180) #[] #[]) ∧ Gr w w' := by
  have hc : tbl2[25]? = some (.func (.func 180) #[] #[]) := rfl
  go_enter Tryz.func116, Tryz.ntmps116
  iterate 11 go_step
  refine wpList_build_as rfl 156 _ rfl tbl2 (by as_aux_lemma => kernel_rfl) ?_
  iterate 3 go_step
  refine wpList_store_new rfl 156 _ _ rfl tbl2 _ _ rfl rfl (by as_aux_lemma => kernel_rfl) rfl (by as_aux_lemma => kernel_rfl) ?_
  go_wp2
  go_ret
  exact ⟨rfl, (Gr.refl _).alloc _ _⟩
theorem two_26 (w : World) : Calls Tryz.prog 116 #[.int .i64 26] w fun e w' => e = .returned (.func (.func 181) #[] #[]) ∧ Gr w w' := by
  have hc : tbl2[26]? = some (.func (.func 181) #[] #[]) := rfl
  go_enter Tryz.func116, Tryz.ntmps116
  iterate 11 go_step
  refine wpList_build_as rfl 156 _ rfl tbl2 (by as_aux_lemma => kernel_rfl) ?_
  iterate 3 go_step
  refine wpList_store_new rfl 156 _ _ rfl tbl2 _ _ rfl rfl (by as_aux_lemma => kernel_rfl) rfl (by as_aux_lemma => kernel_rfl) ?_
  go_wp2
  go_ret
  exact ⟨rfl, (Gr.refl _).alloc _ _⟩
theorem two_27 (w : World) : Calls Tryz.prog 116 #[.int .i64 27] w fun e w' => e = .returned (.func (.func 182) #[] #[]) ∧ Gr w w' := by
  have hc : tbl2[27]? = some (.func (.func 182) #[] #[]) := rfl
  go_enter Tryz.func116, Tryz.ntmps116
  iterate 11 go_step
  refine wpList_build_as rfl 156 _ rfl tbl2 (by as_aux_lemma => kernel_rfl) ?_
  iterate 3 go_step
  refine wpList_store_new rfl 156 _ _ rfl tbl2 _ _ rfl rfl (by as_aux_lemma => kernel_rfl) rfl (by as_aux_lemma => kernel_rfl) ?_
  go_wp2
  go_ret
  exact ⟨rfl, (Gr.refl _).alloc _ _⟩
theorem two_28 (w : World) : Calls Tryz.prog 116 #[.int .i64 28] w fun e w' => e = .returned (.func (.func 183) #[] #[]) ∧ Gr w w' := by
  have hc : tbl2[28]? = some (.func (.func 183) #[] #[]) := rfl
  go_enter Tryz.func116, Tryz.ntmps116
  iterate 11 go_step
  refine wpList_build_as rfl 156 _ rfl tbl2 (by as_aux_lemma => kernel_rfl) ?_
  iterate 3 go_step
  refine wpList_store_new rfl 156 _ _ rfl tbl2 _ _ rfl rfl (by as_aux_lemma => kernel_rfl) rfl (by as_aux_lemma => kernel_rfl) ?_
  go_wp2
  go_ret
  exact ⟨rfl, (Gr.refl _).alloc _ _⟩
theorem two_29 (w : World) : Calls Tryz.prog 116 #[.int .i64 29] w fun e w' => e = .returned (.func (.func 184) #[] #[]) ∧ Gr w w' := by
  have hc : tbl2[29]? = some (.func (.func 184) #[] #[]) := rfl
  go_enter Tryz.func116, Tryz.ntmps116
  iterate 11 go_step
  refine wpList_build_as rfl 156 _ rfl tbl2 (by as_aux_lemma => kernel_rfl) ?_
  iterate 3 go_step
  refine wpList_store_new rfl 156 _ _ rfl tbl2 _ _ rfl rfl (by as_aux_lemma => kernel_rfl) rfl (by as_aux_lemma => kernel_rfl) ?_
  go_wp2
  go_ret
  exact ⟨rfl, (Gr.refl _).alloc _ _⟩
theorem two_30 (w : World) : Calls Tryz.prog 116 #[.int .i64 30] w fun e w' => e = .returned (.func (.func 185) #[] #[]) ∧ Gr w w' := by
  have hc : tbl2[30]? = some (.func (.func 185) #[] #[]) := rfl
  go_enter Tryz.func116, Tryz.ntmps116
  iterate 11 go_step
  refine wpList_build_as rfl 156 _ rfl tbl2 (by as_aux_lemma => kernel_rfl) ?_
  iterate 3 go_step
  refine wpList_store_new rfl 156 _ _ rfl tbl2 _ _ rfl rfl (by as_aux_lemma => kernel_rfl) rfl (by as_aux_lemma => kernel_rfl) ?_
  go_wp2
  go_ret
  exact ⟨rfl, (Gr.refl _).alloc _ _⟩
theorem two_31 (w : World) : Calls Tryz.prog 116 #[.int .i64 31] w fun e w' => e = .returned (.func (.func 186) #[] #[]) ∧ Gr w w' := by
  have hc : tbl2[31]? = some (.func (.func 186) #[] #[]) := rfl
  go_enter Tryz.func116, Tryz.ntmps116
  iterate 11 go_step
  refine wpList_build_as rfl 156 _ rfl tbl2 (by as_aux_lemma => kernel_rfl) ?_
  iterate 3 go_step
  refine wpList_store_new rfl 156 _ _ rfl tbl2 _ _ rfl rfl (by as_aux_lemma => kernel_rfl) rfl (by as_aux_lemma => kernel_rfl) ?_
  go_wp2
  go_ret
  exact ⟨rfl, (Gr.refl _).alloc _ _⟩
theorem two_32 (w : World) : Calls Tryz.prog 116 #[.int .i64 32] w fun e w' => e = .returned (.func (.func 187) #[] #[]) ∧ Gr w w' := by
  have hc : tbl2[32]? = some (.func (.func 187) #[] #[]) := rfl
  go_enter Tryz.func116, Tryz.ntmps116
  iterate 11 go_step
  refine wpList_build_as rfl 156 _ rfl tbl2 (by as_aux_lemma => kernel_rfl) ?_
  iterate 3 go_step
  refine wpList_store_new rfl 156 _ _ rfl tbl2 _ _ rfl rfl (by as_aux_lemma => kernel_rfl) rfl (by as_aux_lemma => kernel_rfl) ?_
  go_wp2
  go_ret
  exact ⟨rfl, (Gr.refl _).alloc _ _⟩
theorem one_1 (w : World) : Calls Tryz.prog 115 #[.int .i64 1] w fun e w' => e = .returned (.func (.func 167) #[] #[]) ∧ Gr w w' := by
  have hc : tbl1[1]? = some (.func (.func 167) #[] #[]) := rfl
  go_enter Tryz.func115, Tryz.ntmps115
  iterate 11 go_step
  refine wpList_build_as rfl 155 _ rfl tbl1 (by as_aux_lemma => kernel_rfl) ?_
  iterate 3 go_step
  refine wpList_store_new rfl 155 _ _ rfl tbl1 _ _ rfl rfl (by as_aux_lemma => kernel_rfl) rfl (by as_aux_lemma => kernel_rfl) ?_
  go_wp2
  go_ret
  exact ⟨rfl, (Gr.refl _).alloc _ _⟩
theorem one_2 (w : World) : Calls Tryz.prog 115 #[.int .i64 2] w fun e w' => e = .returned (.func (.func 168) #[] #[]) ∧ Gr w w' := by
  have hc : tbl1[2]? = some (.func (.func 168) #[] #[]) := rfl
  go_enter Tryz.func115, Tryz.ntmps115
  iterate 11 go_step
  refine wpList_build_as rfl 155 _ rfl tbl1 (by as_aux_lemma => kernel_rfl) ?_
  iterate 3 go_step
  refine wpList_store_new rfl 155 _ _ rfl tbl1 _ _ rfl rfl (by as_aux_lemma => kernel_rfl) rfl (by as_aux_lemma => kernel_rfl) ?_
  go_wp2
  go_ret
  exact ⟨rfl, (Gr.refl _).alloc _ _⟩
theorem one_3 (w : World) : Calls Tryz.prog 115 #[.int .i64 3] w fun e w' => e = .returned (.func (.func 169) #[] #[]) ∧ Gr w w' := by
  have hc : tbl1[3]? = some (.func (.func 169) #[] #[]) := rfl
  go_enter Tryz.func115, Tryz.ntmps115
  iterate 11 go_step
  refine wpList_build_as rfl 155 _ rfl tbl1 (by as_aux_lemma => kernel_rfl) ?_
  iterate 3 go_step
  refine wpList_store_new rfl 155 _ _ rfl tbl1 _ _ rfl rfl (by as_aux_lemma => kernel_rfl) rfl (by as_aux_lemma => kernel_rfl) ?_
  go_wp2
  go_ret
  exact ⟨rfl, (Gr.refl _).alloc _ _⟩
theorem two_low (n : Nat) (hn : n < 15) (w : World) : Calls Tryz.prog 116 #[.int .i64 n] w fun e w' => e = .returned .nilFunc ∧ Gr w w' := by
  have hc : tbl2[n]? = some .nilFunc := by
    match n, hn with
    | 0, _ => rfl
    | 1, _ => rfl
    | 2, _ => rfl
    | 3, _ => rfl
    | 4, _ => rfl
    | 5, _ => rfl
    | 6, _ => rfl
    | 7, _ => rfl
    | 8, _ => rfl
    | 9, _ => rfl
    | 10, _ => rfl
    | 11, _ => rfl
    | 12, _ => rfl
    | 13, _ => rfl
    | 14, _ => rfl
    | k + 15, h => exact absurd h (by omega)
  go_enter Tryz.func116, Tryz.ntmps116
  iterate 11 go_step
  refine wpList_build_as rfl 156 _ rfl tbl2 (by as_aux_lemma => kernel_rfl) ?_
  iterate 3 go_step
  refine wpList_store_new rfl 156 _ _ rfl tbl2 _ _ rfl rfl (by as_aux_lemma => kernel_rfl) rfl (by as_aux_lemma => kernel_rfl) ?_
  go_wp2
  go_ret
  exact ⟨rfl, (Gr.refl _).alloc _ _⟩
theorem two_out (p : Int) (hp : p < 0 ∨ 33 ≤ p) (w : World) : Calls Tryz.prog 116 #[.int .i64 p] w fun e w' => e = .returned .nilFunc ∧ Gr w w' := by
  by_cases h : p < 0
  all_goals
    go_enter Tryz.func116, Tryz.ntmps116
    iterate 11 go_step
    refine wpList_build_as rfl 156 _ rfl tbl2 (by as_aux_lemma => kernel_rfl) ?_
    iterate 3 go_step
    refine wpList_store_new rfl 156 _ _ rfl tbl2 _ _ rfl rfl (by as_aux_lemma => kernel_rfl) rfl (by as_aux_lemma => kernel_rfl) ?_
    go_wp2
    go_ret
    exact ⟨rfl, (Gr.refl _).alloc _ _⟩
theorem one_low (n : Nat) (hn : n < 1) (w : World) : Calls Tryz.prog 115 #[.int .i64 n] w fun e w' => e = .returned .nilFunc ∧ Gr w w' := by
  have hc : tbl1[n]? = some .nilFunc := by
    match n, hn with
    | 0, _ => rfl
    | k + 1, h => exact absurd h (by omega)
  go_enter Tryz.func115, Tryz.ntmps115
  iterate 11 go_step
  refine wpList_build_as rfl 155 _ rfl tbl1 (by as_aux_lemma => kernel_rfl) ?_
  iterate 3 go_step
  refine wpList_store_new rfl 155 _ _ rfl tbl1 _ _ rfl rfl (by as_aux_lemma => kernel_rfl) rfl (by as_aux_lemma => kernel_rfl) ?_
  go_wp2
  go_ret
  exact ⟨rfl, (Gr.refl _).alloc _ _⟩
theorem one_out (p : Int) (hp : p < 0 ∨ 4 ≤ p) (w : World) : Calls Tryz.prog 115 #[.int .i64 p] w fun e w' => e = .returned .nilFunc ∧ Gr w w' := by
  by_cases h : p < 0
  all_goals
    go_enter Tryz.func115, Tryz.ntmps115
    iterate 11 go_step
    refine wpList_build_as rfl 155 _ rfl tbl1 (by as_aux_lemma => kernel_rfl) ?_
    iterate 3 go_step
    refine wpList_store_new rfl 155 _ _ rfl tbl1 _ _ rfl rfl (by as_aux_lemma => kernel_rfl) rfl (by as_aux_lemma => kernel_rfl) ?_
    go_wp2
    go_ret
    exact ⟨rfl, (Gr.refl _).alloc _ _⟩
theorem two_nil (p : Int) (hp : p < 15 ∨ 33 ≤ p) (w : World) : Calls Tryz.prog 116 #[.int .i64 p] w fun e w' => e = .returned .nilFunc ∧ Gr w w' := by
  by_cases h : 0 ≤ p ∧ p < 15
  · obtain ⟨n, rfl⟩ := Int.eq_ofNat_of_zero_le h.1
    exact two_low n (by omega) w
  · exact two_out p (by omega) w
theorem one_nil (p : Int) (hp : p < 1 ∨ 4 ≤ p) (w : World) : Calls Tryz.prog 115 #[.int .i64 p] w fun e w' => e = .returned .nilFunc ∧ Gr w w' := by
  by_cases h : 0 ≤ p ∧ p < 1
  · obtain ⟨n, rfl⟩ := Int.eq_ofNat_of_zero_le h.1
    exact one_low n (by omega) w
  · exact one_out p (by omega) w
end Sc
end Go.Proofs.YtaelfhjdmljblaaGreatDoor
/-
Contracts of scalars.One and scalars.Two (chapter 9).
-/
set_option linter.unusedSimpArgs false
set_option linter.unusedVariables false
namespace Go.Proofs.YtaelfhjdmljblaaGreatDoor
namespace Sc
open Go.RowKit Go.Lib
theorem Two_15 (x y : Int) (hx : Fits x) (hy : Fits y) (w : World) : Calls Tryz.prog 66 #[.int .i64 15, .int .i64 x, .int .i64 y] w fun e w' => e = ret2 (two 15 x y) ∧ Gr w w' := by
  have hrun : ∀ w : World, Sem.run Tryz.prog (binOp .eql 106 (.func (.func 170) #[] #[]) .nilFunc) w = .ok (.bool false) w := fun w => by kernel_rfl
  go_enter Tryz.func66, Tryz.ntmps66
  go_wp2_with (first | (go_at_call 116; refine (two_15 _).mono ?_; rintro e w' ⟨rfl, hg⟩) | (go_at_call 170; refine (add_any x y hx hy _).mono ?_; rintro e w' ⟨rfl, rfl⟩))
  go_ret2
  exact ⟨rfl, hg⟩
theorem Two_16 (x y : Int) (hx : Fits x) (hy : Fits y) (w : World) : Calls Tryz.prog 66 #[.int .i64 16, .int .i64 x, .int .i64 y] w fun e w' => e = ret2 (two 16 x y) ∧ Gr w w' := by
  have hrun : ∀ w : World, Sem.run Tryz.prog (binOp .eql 106 (.func (.func 171) #[] #[]) .nilFunc) w = .ok (.bool false) w := fun w => by kernel_rfl
  go_enter Tryz.func66, Tryz.ntmps66
  go_wp2_with (first | (go_at_call 116; refine (two_16 _).mono ?_; rintro e w' ⟨rfl, hg⟩) | (go_at_call 171; refine (sub_any x y hx hy _).mono ?_; rintro e w' ⟨rfl, rfl⟩))
  go_ret2
  exact ⟨rfl, hg⟩
theorem Two_17 (x y : Int) (hx : Fits x) (hy : Fits y) (w : World) : Calls Tryz.prog 66 #[.int .i64 17, .int .i64 x, .int .i64 y] w fun e w' => e = ret2 (two 17 x y) ∧ Gr w w' := by
  have hrun : ∀ w : World, Sem.run Tryz.prog (binOp .eql 106 (.func (.func 172) #[] #[]) .nilFunc) w = .ok (.bool false) w := fun w => by kernel_rfl
  go_enter Tryz.func66, Tryz.ntmps66
  go_wp2_with (first | (go_at_call 116; refine (two_17 _).mono ?_; rintro e w' ⟨rfl, hg⟩) | (go_at_call 172; refine (mul_any x y hx hy _).mono ?_; rintro e w' ⟨rfl, rfl⟩))
  go_ret2
  exact ⟨rfl, hg⟩
theorem Two_18 (x y : Int) (hx : Fits x) (hy : Fits y) (w : World) : Calls Tryz.prog 66 #[.int .i64 18, .int .i64 x, .int .i64 y] w fun e w' => e = ret2 (two 18 x y) ∧ Gr w w' := by
  have hrun : ∀ w : World, Sem.run Tryz.prog (binOp .eql 106 (.func (.func 173) #[] #[]) .nilFunc) w = .ok (.bool false) w := fun w => by kernel_rfl
  go_enter Tryz.func66, Tryz.ntmps66
  go_wp2_with (first | (go_at_call 116; refine (two_18 _).mono ?_; rintro e w' ⟨rfl, hg⟩) | (go_at_call 173; refine (div_all x y hx hy _).mono ?_; rintro e w' ⟨rfl, rfl⟩))
  go_ret2
  exact ⟨rfl, hg⟩
theorem Two_19 (x y : Int) (hx : Fits x) (hy : Fits y) (w : World) : Calls Tryz.prog 66 #[.int .i64 19, .int .i64 x, .int .i64 y] w fun e w' => e = ret2 (two 19 x y) ∧ Gr w w' := by
  have hrun : ∀ w : World, Sem.run Tryz.prog (binOp .eql 106 (.func (.func 174) #[] #[]) .nilFunc) w = .ok (.bool false) w := fun w => by kernel_rfl
  go_enter Tryz.func66, Tryz.ntmps66
  go_wp2_with (first | (go_at_call 116; refine (two_19 _).mono ?_; rintro e w' ⟨rfl, hg⟩) | (go_at_call 174; refine (mod_all x y hx hy _).mono ?_; rintro e w' ⟨rfl, rfl⟩))
  go_ret2
  exact ⟨rfl, hg⟩
theorem Two_20 (x y : Int) (hx : Fits x) (hy : Fits y) (w : World) : Calls Tryz.prog 66 #[.int .i64 20, .int .i64 x, .int .i64 y] w fun e w' => e = ret2 (two 20 x y) ∧ Gr w w' := by
  have hrun : ∀ w : World, Sem.run Tryz.prog (binOp .eql 106 (.func (.func 175) #[] #[]) .nilFunc) w = .ok (.bool false) w := fun w => by kernel_rfl
  go_enter Tryz.func66, Tryz.ntmps66
  go_wp2_with (first | (go_at_call 116; refine (two_20 _).mono ?_; rintro e w' ⟨rfl, hg⟩) | (go_at_call 175; refine (plus_any x y hx hy _).mono ?_; rintro e w' ⟨rfl, rfl⟩))
  go_ret2
  exact ⟨rfl, hg⟩
theorem Two_21 (x y : Int) (hx : Fits x) (hy : Fits y) (w : World) : Calls Tryz.prog 66 #[.int .i64 21, .int .i64 x, .int .i64 y] w fun e w' => e = ret2 (two 21 x y) ∧ Gr w w' := by
  have hrun : ∀ w : World, Sem.run Tryz.prog (binOp .eql 106 (.func (.func 176) #[] #[]) .nilFunc) w = .ok (.bool false) w := fun w => by kernel_rfl
  go_enter Tryz.func66, Tryz.ntmps66
  go_wp2_with (first | (go_at_call 116; refine (two_21 _).mono ?_; rintro e w' ⟨rfl, hg⟩) | (go_at_call 176; refine (minus_any x y hx hy _).mono ?_; rintro e w' ⟨rfl, rfl⟩))
  go_ret2
  exact ⟨rfl, hg⟩
theorem Two_22 (x y : Int) (hx : Fits x) (hy : Fits y) (w : World) : Calls Tryz.prog 66 #[.int .i64 22, .int .i64 x, .int .i64 y] w fun e w' => e = ret2 (two 22 x y) ∧ Gr w w' := by
  have hrun : ∀ w : World, Sem.run Tryz.prog (binOp .eql 106 (.func (.func 177) #[] #[]) .nilFunc) w = .ok (.bool false) w := fun w => by kernel_rfl
  go_enter Tryz.func66, Tryz.ntmps66
  go_wp2_with (first | (go_at_call 116; refine (two_22 _).mono ?_; rintro e w' ⟨rfl, hg⟩) | (go_at_call 177; refine (times_any x y hx hy _).mono ?_; rintro e w' ⟨rfl, rfl⟩))
  go_ret2
  exact ⟨rfl, hg⟩
theorem Two_23 (x y : Int) (hx : Fits x) (hy : Fits y) (w : World) : Calls Tryz.prog 66 #[.int .i64 23, .int .i64 x, .int .i64 y] w fun e w' => e = ret2 (two 23 x y) ∧ Gr w w' := by
  have hrun : ∀ w : World, Sem.run Tryz.prog (binOp .eql 106 (.func (.func 178) #[] #[]) .nilFunc) w = .ok (.bool false) w := fun w => by kernel_rfl
  go_enter Tryz.func66, Tryz.ntmps66
  go_wp2_with (first | (go_at_call 116; refine (two_23 _).mono ?_; rintro e w' ⟨rfl, hg⟩) | (go_at_call 178; refine (eq_any x y hx hy _).mono ?_; rintro e w' ⟨rfl, rfl⟩))
  go_ret2
  exact ⟨rfl, hg⟩
theorem Two_24 (x y : Int) (hx : Fits x) (hy : Fits y) (w : World) : Calls Tryz.prog 66 #[.int .i64 24, .int .i64 x, .int .i64 y] w fun e w' => e = ret2 (two 24 x y) ∧ Gr w w' := by
  have hrun : ∀ w : World, Sem.run Tryz.prog (binOp .eql 106 (.func (.func 179) #[] #[]) .nilFunc) w = .ok (.bool false) w := fun w => by kernel_rfl
  go_enter Tryz.func66, Tryz.ntmps66
  go_wp2_with (first | (go_at_call 116; refine (two_24 _).mono ?_; rintro e w' ⟨rfl, hg⟩) | (go_at_call 179; refine (ne_any x y hx hy _).mono ?_; rintro e w' ⟨rfl, rfl⟩))
  go_ret2
  exact ⟨rfl, hg⟩
theorem Two_25 (x y : Int) (hx : Fits x) (hy : Fits y) (w : World) : Calls Tryz.prog 66 #[.int .i64 25, .int .i64 x, .int .i64 y] w fun e w' => e = ret2 (two 25 x y) ∧ Gr w w' := by
  have hrun : ∀ w : World, Sem.run Tryz.prog (binOp .eql 106 (.func (.func 180) #[] #[]) .nilFunc) w = .ok (.bool false) w := fun w => by kernel_rfl
  go_enter Tryz.func66, Tryz.ntmps66
  go_wp2_with (first | (go_at_call 116; refine (two_25 _).mono ?_; rintro e w' ⟨rfl, hg⟩) | (go_at_call 180; refine (lt_any x y hx hy _).mono ?_; rintro e w' ⟨rfl, rfl⟩))
  go_ret2
  exact ⟨rfl, hg⟩
theorem Two_26 (x y : Int) (hx : Fits x) (hy : Fits y) (w : World) : Calls Tryz.prog 66 #[.int .i64 26, .int .i64 x, .int .i64 y] w fun e w' => e = ret2 (two 26 x y) ∧ Gr w w' := by
  have hrun : ∀ w : World, Sem.run Tryz.prog (binOp .eql 106 (.func (.func 181) #[] #[]) .nilFunc) w = .ok (.bool false) w := fun w => by kernel_rfl
  go_enter Tryz.func66, Tryz.ntmps66
  go_wp2_with (first | (go_at_call 116; refine (two_26 _).mono ?_; rintro e w' ⟨rfl, hg⟩) | (go_at_call 181; refine (le_any x y hx hy _).mono ?_; rintro e w' ⟨rfl, rfl⟩))
  go_ret2
  exact ⟨rfl, hg⟩
theorem Two_27 (x y : Int) (hx : Fits x) (hy : Fits y) (w : World) : Calls Tryz.prog 66 #[.int .i64 27, .int .i64 x, .int .i64 y] w fun e w' => e = ret2 (two 27 x y) ∧ Gr w w' := by
  have hrun : ∀ w : World, Sem.run Tryz.prog (binOp .eql 106 (.func (.func 182) #[] #[]) .nilFunc) w = .ok (.bool false) w := fun w => by kernel_rfl
  go_enter Tryz.func66, Tryz.ntmps66
  go_wp2_with (first | (go_at_call 116; refine (two_27 _).mono ?_; rintro e w' ⟨rfl, hg⟩) | (go_at_call 182; refine (gt_any x y hx hy _).mono ?_; rintro e w' ⟨rfl, rfl⟩))
  go_ret2
  exact ⟨rfl, hg⟩
theorem Two_28 (x y : Int) (hx : Fits x) (hy : Fits y) (w : World) : Calls Tryz.prog 66 #[.int .i64 28, .int .i64 x, .int .i64 y] w fun e w' => e = ret2 (two 28 x y) ∧ Gr w w' := by
  have hrun : ∀ w : World, Sem.run Tryz.prog (binOp .eql 106 (.func (.func 183) #[] #[]) .nilFunc) w = .ok (.bool false) w := fun w => by kernel_rfl
  go_enter Tryz.func66, Tryz.ntmps66
  go_wp2_with (first | (go_at_call 116; refine (two_28 _).mono ?_; rintro e w' ⟨rfl, hg⟩) | (go_at_call 183; refine (ge_any x y hx hy _).mono ?_; rintro e w' ⟨rfl, rfl⟩))
  go_ret2
  exact ⟨rfl, hg⟩
theorem Two_29 (x y : Int) (hx : Fits x) (hy : Fits y) (w : World) : Calls Tryz.prog 66 #[.int .i64 29, .int .i64 x, .int .i64 y] w fun e w' => e = ret2 (two 29 x y) ∧ Gr w w' := by
  have hrun : ∀ w : World, Sem.run Tryz.prog (binOp .eql 106 (.func (.func 184) #[] #[]) .nilFunc) w = .ok (.bool false) w := fun w => by kernel_rfl
  go_enter Tryz.func66, Tryz.ntmps66
  go_wp2_with (first | (go_at_call 116; refine (two_29 _).mono ?_; rintro e w' ⟨rfl, hg⟩) | (go_at_call 184; refine (and_any x y hx hy _).mono ?_; rintro e w' ⟨rfl, rfl⟩))
  go_ret2
  exact ⟨rfl, hg⟩
theorem Two_30 (x y : Int) (hx : Fits x) (hy : Fits y) (w : World) : Calls Tryz.prog 66 #[.int .i64 30, .int .i64 x, .int .i64 y] w fun e w' => e = ret2 (two 30 x y) ∧ Gr w w' := by
  have hrun : ∀ w : World, Sem.run Tryz.prog (binOp .eql 106 (.func (.func 185) #[] #[]) .nilFunc) w = .ok (.bool false) w := fun w => by kernel_rfl
  go_enter Tryz.func66, Tryz.ntmps66
  go_wp2_with (first | (go_at_call 116; refine (two_30 _).mono ?_; rintro e w' ⟨rfl, hg⟩) | (go_at_call 185; refine (or_any x y hx hy _).mono ?_; rintro e w' ⟨rfl, rfl⟩))
  go_ret2
  exact ⟨rfl, hg⟩
theorem Two_31 (x y : Int) (hx : Fits x) (hy : Fits y) (w : World) : Calls Tryz.prog 66 #[.int .i64 31, .int .i64 x, .int .i64 y] w fun e w' => e = ret2 (two 31 x y) ∧ Gr w w' := by
  have hrun : ∀ w : World, Sem.run Tryz.prog (binOp .eql 106 (.func (.func 186) #[] #[]) .nilFunc) w = .ok (.bool false) w := fun w => by kernel_rfl
  go_enter Tryz.func66, Tryz.ntmps66
  go_wp2_with (first | (go_at_call 116; refine (two_31 _).mono ?_; rintro e w' ⟨rfl, hg⟩) | (go_at_call 186; refine (min_any x y _).mono ?_; rintro e w' ⟨rfl, rfl⟩))
  go_ret2
  exact ⟨rfl, hg⟩
theorem Two_32 (x y : Int) (hx : Fits x) (hy : Fits y) (w : World) : Calls Tryz.prog 66 #[.int .i64 32, .int .i64 x, .int .i64 y] w fun e w' => e = ret2 (two 32 x y) ∧ Gr w w' := by
  have hrun : ∀ w : World, Sem.run Tryz.prog (binOp .eql 106 (.func (.func 187) #[] #[]) .nilFunc) w = .ok (.bool false) w := fun w => by kernel_rfl
  go_enter Tryz.func66, Tryz.ntmps66
  go_wp2_with (first | (go_at_call 116; refine (two_32 _).mono ?_; rintro e w' ⟨rfl, hg⟩) | (go_at_call 187; refine (max_any x y _).mono ?_; rintro e w' ⟨rfl, rfl⟩))
  go_ret2
  exact ⟨rfl, hg⟩
theorem Two_nil (p x y : Int) (hp : p < 15 ∨ 33 ≤ p) (w : World) : Calls Tryz.prog 66 #[.int .i64 p, .int .i64 x, .int .i64 y] w fun e w' => e = ret2 (0, 2) ∧ Gr w w' := by
  have hrun : ∀ w : World, Sem.run Tryz.prog (binOp .eql 106 .nilFunc .nilFunc) w = .ok (.bool true) w := fun w => by kernel_rfl
  go_enter Tryz.func66, Tryz.ntmps66
  go_wp2_with (go_at_call 116; refine (two_nil p hp _).mono ?_; rintro e w' ⟨rfl, hg⟩)
  go_ret2
  exact ⟨rfl, hg⟩
theorem Two_any (p x y : Int) (hx : Fits x) (hy : Fits y) (w : World) : Calls Tryz.prog 66 #[.int .i64 p, .int .i64 x, .int .i64 y] w fun e w' => e = ret2 (two p x y) ∧ Gr w w' := by
  by_cases hp : p < 15 ∨ 33 ≤ p
  · rw [two_none hp]; exact Two_nil p x y hp w
  by_cases e15 : p = 15
  · subst e15; exact Two_15 x y hx hy w
  by_cases e16 : p = 16
  · subst e16; exact Two_16 x y hx hy w
  by_cases e17 : p = 17
  · subst e17; exact Two_17 x y hx hy w
  by_cases e18 : p = 18
  · subst e18; exact Two_18 x y hx hy w
  by_cases e19 : p = 19
  · subst e19; exact Two_19 x y hx hy w
  by_cases e20 : p = 20
  · subst e20; exact Two_20 x y hx hy w
  by_cases e21 : p = 21
  · subst e21; exact Two_21 x y hx hy w
  by_cases e22 : p = 22
  · subst e22; exact Two_22 x y hx hy w
  by_cases e23 : p = 23
  · subst e23; exact Two_23 x y hx hy w
  by_cases e24 : p = 24
  · subst e24; exact Two_24 x y hx hy w
  by_cases e25 : p = 25
  · subst e25; exact Two_25 x y hx hy w
  by_cases e26 : p = 26
  · subst e26; exact Two_26 x y hx hy w
  by_cases e27 : p = 27
  · subst e27; exact Two_27 x y hx hy w
  by_cases e28 : p = 28
  · subst e28; exact Two_28 x y hx hy w
  by_cases e29 : p = 29
  · subst e29; exact Two_29 x y hx hy w
  by_cases e30 : p = 30
  · subst e30; exact Two_30 x y hx hy w
  by_cases e31 : p = 31
  · subst e31; exact Two_31 x y hx hy w
  by_cases e32 : p = 32
  · subst e32; exact Two_32 x y hx hy w
  omega
end Sc
end Go.Proofs.YtaelfhjdmljblaaGreatDoor
/-
Contracts of the reference of chapter 9, and of Arity and Overflows.
-/
set_option linter.unusedSimpArgs false
set_option linter.unusedVariables false
namespace Go.Proofs.YtaelfhjdmljblaaGreatDoor
namespace Sc
open Go.RowKit Go.Lib
namespace Ref
theorem gr_drewN (w : World) (n : Nat) : Gr w (w.drewN n) := ⟨rfl, rfl, rfl, Nat.le_refl _, fun _ _ => rfl⟩
abbrev retIB (z : Int) (b : Bool) : Ending := .returned (.tuple #[.int .i64 z, .bool b])
theorem retIB_eq {z z' : Int} {b b' : Bool} (h : z = z') (k : b = b') : Ending.returned (.tuple #[.int .i64 z, .bool b]) = retIB z' b' := by rw [h, k]
theorem ret_int {a b : Int} (h : a = b) : Ending.returned (.int .i64 a) = .returned (.int .i64 b) := by rw [h]
theorem truth_any (b : Bool) (w : World) : Calls Tryz.prog 188 #[.bool b] w fun e w' => e = .returned (.int .i64 (tr b)) ∧ w = w' := by
  cases b <;> (go_enter Tryz.func188, Tryz.ntmps188; go_wp2; go_ret; exact ⟨rfl, rfl⟩)
theorem sum_in (x y : Int) (hx : Fits x) (hy : Fits y) (h : Fits (x + y)) (w : World) : Calls Tryz.prog 206 #[.int .i64 x, .int .i64 y] w fun e w' => e = retIB (x + y) true ∧ Gr w w' := by
  unfold Fits at hx hy h
  by_cases a : 0 < y <;> by_cases b : y < 0
  · omega
  all_goals
    go_enter Tryz.func206, Tryz.ntmps206
    go_wp2
    go_ret2
    exact ⟨rfl, Gr.refl _⟩
theorem sum_out (x y : Int) (hx : Fits x) (hy : Fits y) (h : ¬ Fits (x + y)) (w : World) : Calls Tryz.prog 206 #[.int .i64 x, .int .i64 y] w fun e w' => e = retIB 0 false ∧ Gr w w' := by
  unfold Fits at hx hy h
  have h' : x + y < -9223372036854775808 ∨ 9223372036854775807 < x + y := by omega
  clear h
  by_cases a : 0 < y <;> by_cases b : y < 0
  · omega
  · have c : 9223372036854775807 - y < x := by omega
    clear h'
    go_enter Tryz.func206, Tryz.ntmps206
    go_wp2
    go_ret2
    exact ⟨rfl, Gr.refl _⟩
  · have c : x < -9223372036854775808 - y := by omega
    clear h'
    go_enter Tryz.func206, Tryz.ntmps206
    go_wp2
    go_ret2
    exact ⟨rfl, Gr.refl _⟩
  · omega
theorem product_in (x y : Int) (hx : Fits x) (hy : Fits y) (h : Fits (x * y)) (w : World) : Calls Tryz.prog 207 #[.int .i64 x, .int .i64 y] w fun e w' => e = retIB (x * y) true ∧ Gr w w' := by
  by_cases a : x = 0
  · subst a
    go_enter Tryz.func207, Tryz.ntmps207
    go_wp2
    go_ret2
    exact ⟨by simp, Gr.refl _⟩
  · by_cases b : y = 0
    · subst b
      have a1 : (x == 0) = false := by simpa using a
      go_enter Tryz.func207, Tryz.ntmps207
      go_wp2
      go_ret2
      exact ⟨by simp, Gr.refl _⟩
    · have a1 : (x == 0) = false := by simpa using a
      have b1 : (y == 0) = false := by simpa using b
      have e1 : wrap64 (x * y) = x * y := IntWalk.wrap64_in _ h
      have e2 : IntKind.i64.wrap ((x * y).tdiv y) = x := by rw [Int.mul_tdiv_cancel _ b]; exact IntWalk.i64_in _ hx
      have e3 : (x * y).tdiv y = x := Int.mul_tdiv_cancel _ b
      obtain ⟨m1, m2, m3⟩ | ⟨m1, m2, m3⟩ | ⟨m1, m2⟩ := min_ways hx hy h
      all_goals
        clear h
        have hx' := hide hx
        clear hx hy
        go_enter Tryz.func207, Tryz.ntmps207
        go_wp2
        go_quiet (fail)
        go_wp2
        go_ret2
        exact ⟨retIB_eq e1 (by rw [IntWalk.wrap64_in _ hx'.out]; simp), gr_drewN _ _⟩
theorem product_out (x y : Int) (hx : Fits x) (hy : Fits y) (h : ¬ Fits (x * y)) (w : World) : Calls Tryz.prog 207 #[.int .i64 x, .int .i64 y] w fun e w' => ∃ z, e = retIB z false ∧ Gr w w' := by
  have a1 : (x == 0) = false := by rw [beq_eq_false_iff_ne]; rintro rfl; exact h (by unfold Fits; omega)
  have b1 : (y == 0) = false := by rw [beq_eq_false_iff_ne]; rintro rfl; exact h (by unfold Fits; omega)
  by_cases c : x = -9223372036854775808 ∧ y = -1
  · obtain ⟨c1, c2⟩ := c
    have c1' : (x == -9223372036854775808) = true := by rw [beq_iff_eq]; exact c1
    have c2' : (y == -1) = true := by rw [beq_iff_eq]; exact c2
    clear h hx hy c1 c2
    go_enter Tryz.func207, Tryz.ntmps207
    go_wp2
    go_ret2
    exact ⟨0, rfl, Gr.refl _⟩
  · have hq : (wrap64 ((wrap64 (x * y)).tdiv y) == x) = false := by rw [beq_eq_false_iff_ne]; exact prod_quo hx hy h c
    have b0 : ¬ y = 0 := by simpa using b1
    have c' : ((x == -9223372036854775808) = true ∧ (y == -1) = false) ∨ (x == -9223372036854775808) = false := by
      simp only [beq_eq_false_iff_ne, beq_iff_eq]; omega
    have d' : ((y == -9223372036854775808) = true ∧ (x == -1) = true) ∨ ((y == -9223372036854775808) = true ∧ (x == -1) = false) ∨ (y == -9223372036854775808) = false := by
      simp only [beq_eq_false_iff_ne, beq_iff_eq]; omega
    clear c h hx hy
    obtain ⟨c1, c2⟩ | c1 := c' <;> obtain ⟨d1, d2⟩ | ⟨d1, d2⟩ | d1 := d'
    all_goals
      go_enter Tryz.func207, Tryz.ntmps207
      go_wp2
      first
        | (go_ret2; exact ⟨0, rfl, Gr.refl _⟩)
        | (go_quiet (fail); go_wp2; go_ret2; exact ⟨_, rfl, gr_drewN _ _⟩)
theorem quotient_min (w : World) : Calls Tryz.prog 208 #[.int .i64 (-9223372036854775808), .int .i64 (-1)] w fun e w' => e = retIB 0 false ∧ Gr w w' := by
  go_enter Tryz.func208, Tryz.ntmps208
  go_wp2
  go_ret2
  exact ⟨rfl, Gr.refl _⟩
theorem quotient_else (x y : Int) (hx : Fits x) (hy : Fits y) (h0 : y ≠ 0) (h : ¬ (x = -9223372036854775808 ∧ y = -1)) (w : World) : Calls Tryz.prog 208 #[.int .i64 x, .int .i64 y] w fun e w' => e = retIB (x.fdiv y) true ∧ Gr w w' := by
  have hm : ((x == -9223372036854775808) = true ∧ (y == -1) = false) ∨ (x == -9223372036854775808) = false := by
    simp only [beq_eq_false_iff_ne, beq_iff_eq]; omega
  have hq : IntKind.i64.wrap (x.tdiv y) = x.tdiv y := IntWalk.i64_in _ (tdiv_fits hx hy h0 h)
  have hr : IntKind.i64.wrap (x.tmod y) = x.tmod y := IntWalk.i64_in _ (tmod_fits hy h0)
  by_cases e : x.tmod y = 0
  · have e1 : (x.tmod y != 0) = false := by simpa using e
    have H := hide (div_same (x := x) h0 (Or.inl (tmod_zero.2 e)))
    clear e h hx hy
    obtain ⟨c1, c2⟩ | c1 := hm
    all_goals
      go_enter Tryz.func208, Tryz.ntmps208
      go_wp2
      go_ret2
      exact ⟨retIB_eq (congrArg Prod.fst H.out).symm rfl, Gr.refl _⟩
  · have e1 : (x.tmod y != 0) = true := by simpa using e
    have e2 : ¬ x.tdiv y * y = x := fun h => e (tmod_zero.1 h)
    by_cases a : x < 0 <;> by_cases b : y < 0
    · have H := hide (div_same (x := x) h0 (Or.inr (Or.inl ⟨a, b⟩)))
      clear e e2 h hx hy
      obtain ⟨c1, c2⟩ | c1 := hm
      all_goals
        go_enter Tryz.func208, Tryz.ntmps208
        go_wp2
        go_ret2
        exact ⟨retIB_eq (congrArg Prod.fst H.out).symm rfl, Gr.refl _⟩
    · have H := hide (div_down hx h0 (by omega) e2 (Or.inl ⟨a, by omega⟩))
      clear e e2 h hx hy
      obtain ⟨c1, c2⟩ | c1 := hm
      all_goals
        go_enter Tryz.func208, Tryz.ntmps208
        go_wp2
        go_ret2
        exact ⟨retIB_eq (congrArg Prod.fst H.out).symm rfl, Gr.refl _⟩
    · by_cases b1 : y = -1
      · exfalso; subst b1; have := (tm_of (x := x) h0).2.1; omega
      have H := hide (div_down hx h0 b1 e2 (Or.inr ⟨by omega, b⟩))
      have e3 : (x % y != 0) = true := by rw [← Int.tmod_eq_emod_of_nonneg (by omega)]; exact e1
      clear e e2 h hx hy
      obtain ⟨c1, c2⟩ | c1 := hm
      all_goals
        go_enter Tryz.func208, Tryz.ntmps208
        go_wp2
        go_ret2
        exact ⟨retIB_eq (congrArg Prod.fst H.out).symm rfl, Gr.refl _⟩
    · have H := hide (div_same (x := x) h0 (Or.inr (Or.inr ⟨by omega, by omega⟩)))
      have e3 : (x % y != 0) = true := by rw [← Int.tmod_eq_emod_of_nonneg (by omega)]; exact e1
      clear e e2 h hx hy
      obtain ⟨c1, c2⟩ | c1 := hm
      all_goals
        go_enter Tryz.func208, Tryz.ntmps208
        go_wp2
        go_ret2
        exact ⟨retIB_eq (congrArg Prod.fst H.out).symm rfl, Gr.refl _⟩
theorem rest_any (x y : Int) (hx : Fits x) (hy : Fits y) (h0 : y ≠ 0) (w : World) : Calls Tryz.prog 204 #[.int .i64 x, .int .i64 y] w fun e w' => e = .returned (.int .i64 (x.fmod y)) ∧ Gr w w' := by
  by_cases h1 : y = -1
  · subst h1
    rw [fmod_minus]
    go_enter Tryz.func204, Tryz.ntmps204
    go_wp2
    go_ret
    exact ⟨rfl, Gr.refl _⟩
  · have c1 : (y == -1) = false := by simpa using h1
    have hr : IntKind.i64.wrap (x.tmod y) = x.tmod y := IntWalk.i64_in _ (tmod_fits hy h0)
    by_cases e : x.tmod y = 0
    · have e1 : (x.tmod y != 0) = false := by simpa using e
      have H := hide (mod_same h0 (Or.inl e))
      clear e hx hy
      go_enter Tryz.func204, Tryz.ntmps204
      go_wp2
      go_ret
      exact ⟨ret_int (congrArg Prod.fst H.out).symm, Gr.refl _⟩
    · have e1 : (x.tmod y != 0) = true := by simpa using e
      by_cases a : x.tmod y < 0 <;> by_cases b : y < 0
      · have H := hide (mod_same h0 (Or.inr (Or.inl ⟨a, b⟩)))
        clear e hx hy
        go_enter Tryz.func204, Tryz.ntmps204
        go_wp2
        go_ret
        exact ⟨ret_int (congrArg Prod.fst H.out).symm, Gr.refl _⟩
      · have H := hide (mod_down h0 e (Or.inl ⟨a, by omega⟩))
        have hs : wrap64 (x.tmod y + y) = x.tmod y + y := IntWalk.wrap64_in _ (by have := fmod_fits (x := x) hy h0; rw [show x.fmod y = x.tmod y + y from congrArg Prod.fst H.out] at this; exact this)
        clear e hx hy
        go_enter Tryz.func204, Tryz.ntmps204
        go_wp2
        go_ret
        exact ⟨ret_int (by rw [show x.fmod y = x.tmod y + y from congrArg Prod.fst H.out]), Gr.refl _⟩
      · have H := hide (mod_down h0 e (Or.inr ⟨by omega, b⟩))
        have hs : wrap64 (x.tmod y + y) = x.tmod y + y := IntWalk.wrap64_in _ (by have := fmod_fits (x := x) hy h0; rw [show x.fmod y = x.tmod y + y from congrArg Prod.fst H.out] at this; exact this)
        clear e hx hy
        go_enter Tryz.func204, Tryz.ntmps204
        go_wp2
        go_ret
        exact ⟨ret_int (by rw [show x.fmod y = x.tmod y + y from congrArg Prod.fst H.out]), Gr.refl _⟩
      · have H := hide (mod_same (x := x) h0 (Or.inr (Or.inr ⟨by omega, by omega⟩)))
        clear e hx hy
        go_enter Tryz.func204, Tryz.ntmps204
        go_wp2
        go_ret
        exact ⟨ret_int (congrArg Prod.fst H.out).symm, Gr.refl _⟩
end Ref
end Sc
end Go.Proofs.YtaelfhjdmljblaaGreatDoor
/-
Contracts of Arity, One, Two and Overflows of the reference of chapter 9.
-/
set_option linter.unusedSimpArgs false
set_option linter.unusedVariables false
namespace Go.Proofs.YtaelfhjdmljblaaGreatDoor
namespace Sc
open Go.RowKit Go.Lib
namespace Ref
theorem calc_15_in (x y : Int) (hx : Fits x) (hy : Fits y) (h : Fits (x + y)) (w : World) : Calls Tryz.prog 190 #[.int .i64 15, .int .i64 x, .int .i64 y] w fun e w' => e = retIB (x + y) true ∧ Gr w w' := by
  have h' := hide h; have hx' := hide hx; have hy' := hide hy; clear h hx hy
  go_enter Tryz.func190, Tryz.ntmps190
  go_wp2_with (first | (go_at_call 206; refine (sum_in x y hx'.out hy'.out h'.out _).mono ?_; rintro e w' ⟨rfl, hg⟩))
  go_ret2
  exact ⟨rfl, by (repeat (first | exact Gr.refl _ | assumption | refine gr_trans ?_ (by assumption)))⟩
theorem calc_15_out (x y : Int) (hx : Fits x) (hy : Fits y) (h : ¬ Fits (x + y)) (w : World) : Calls Tryz.prog 190 #[.int .i64 15, .int .i64 x, .int .i64 y] w fun e w' => ∃ z, e = retIB z false ∧ Gr w w' := by
  have h' := hide h; have hx' := hide hx; have hy' := hide hy; clear h hx hy
  go_enter Tryz.func190, Tryz.ntmps190
  go_wp2_with (first | (go_at_call 206; refine (sum_out x y hx'.out hy'.out h'.out _).mono ?_; rintro e w' ⟨rfl, hg⟩))
  go_ret2
  exact ⟨0, rfl, by (repeat (first | exact Gr.refl _ | assumption | refine gr_trans ?_ (by assumption)))⟩
theorem calc_17_in (x y : Int) (hx : Fits x) (hy : Fits y) (h : Fits (x * y)) (w : World) : Calls Tryz.prog 190 #[.int .i64 17, .int .i64 x, .int .i64 y] w fun e w' => e = retIB (x * y) true ∧ Gr w w' := by
  have h' := hide h; have hx' := hide hx; have hy' := hide hy; clear h hx hy
  go_enter Tryz.func190, Tryz.ntmps190
  go_wp2_with (first | (go_at_call 207; refine (product_in x y hx'.out hy'.out h'.out _).mono ?_; rintro e w' ⟨rfl, hg⟩))
  go_ret2
  exact ⟨rfl, by (repeat (first | exact Gr.refl _ | assumption | refine gr_trans ?_ (by assumption)))⟩
theorem calc_17_out (x y : Int) (hx : Fits x) (hy : Fits y) (h : ¬ Fits (x * y)) (w : World) : Calls Tryz.prog 190 #[.int .i64 17, .int .i64 x, .int .i64 y] w fun e w' => ∃ z, e = retIB z false ∧ Gr w w' := by
  have h' := hide h; have hx' := hide hx; have hy' := hide hy; clear h hx hy
  go_enter Tryz.func190, Tryz.ntmps190
  go_wp2_with (first | (go_at_call 207; refine (product_out x y hx'.out hy'.out h'.out _).mono ?_; rintro e w' ⟨z, rfl, hg⟩))
  go_ret2
  exact ⟨z, rfl, by (repeat (first | exact Gr.refl _ | assumption | refine gr_trans ?_ (by assumption)))⟩
theorem calc_16_in (x y : Int) (hx : Fits x) (hy : Fits y) (h : Fits (x - y)) (w : World) : Calls Tryz.prog 190 #[.int .i64 16, .int .i64 x, .int .i64 y] w fun e w' => e = retIB (x - y) true ∧ Gr w w' := by
  by_cases a : y = -9223372036854775808
  · subst a
    have hn : x < 0 := by unfold Fits at *; omega
    unfold Fits at hx
    clear h hy
    go_enter Tryz.func190, Tryz.ntmps190
    go_wp2
    go_ret2
    exact ⟨retIB_eq (by omega) rfl, Gr.refl _⟩
  · have a1 : (y == -9223372036854775808) = false := by simpa using a
    have hny : Fits (-y) := by unfold Fits at *; omega
    have hyf := hide hny
    have e1 : IntKind.i64.wrap (-y) = -y := IntWalk.i64_in _ hny
    have h' : Hid (Fits (x + -y)) := by rw [show x + -y = x - y from by omega]; exact h
    have hx' := hide hx; clear h hx hy hny
    go_enter Tryz.func190, Tryz.ntmps190
    go_wp2_with (first | (go_at_call 206; refine (sum_in x (-y) hx'.out hyf.out h'.out _).mono ?_; rintro e w' ⟨rfl, hg⟩))
    go_ret2
    exact ⟨retIB_eq (by omega) rfl, by (repeat (first | exact Gr.refl _ | assumption | refine gr_trans ?_ (by assumption)))⟩
theorem calc_16_out (x y : Int) (hx : Fits x) (hy : Fits y) (h : ¬ Fits (x - y)) (w : World) : Calls Tryz.prog 190 #[.int .i64 16, .int .i64 x, .int .i64 y] w fun e w' => ∃ z, e = retIB z false ∧ Gr w w' := by
  by_cases a : y = -9223372036854775808
  · subst a
    have hn : 0 ≤ x := by unfold Fits at *; omega
    clear h hy hx
    go_enter Tryz.func190, Tryz.ntmps190
    go_wp2
    go_ret2
    exact ⟨0, rfl, Gr.refl _⟩
  · have a1 : (y == -9223372036854775808) = false := by simpa using a
    have hny : Fits (-y) := by unfold Fits at *; omega
    have hyf := hide hny
    have e1 : IntKind.i64.wrap (-y) = -y := IntWalk.i64_in _ hny
    have h' : Hid (¬ Fits (x + -y)) := by rw [show x + -y = x - y from by omega]; exact h
    have hx' := hide hx; clear h hx hy hny
    go_enter Tryz.func190, Tryz.ntmps190
    go_wp2_with (first | (go_at_call 206; refine (sum_out x (-y) hx'.out hyf.out h'.out _).mono ?_; rintro e w' ⟨rfl, hg⟩))
    go_ret2
    exact ⟨0, rfl, by (repeat (first | exact Gr.refl _ | assumption | refine gr_trans ?_ (by assumption)))⟩
theorem calc_18_in (x y : Int) (hx : Fits x) (hy : Fits y) (h0 : y ≠ 0) (h : ¬ (x = -9223372036854775808 ∧ y = -1)) (w : World) : Calls Tryz.prog 190 #[.int .i64 18, .int .i64 x, .int .i64 y] w fun e w' => e = retIB (x.fdiv y) true ∧ Gr w w' := by
  have h' := hide h; have hx' := hide hx; have hy' := hide hy; have h0' := hide h0; clear h hx hy h0
  go_enter Tryz.func190, Tryz.ntmps190
  go_wp2_with (first | (go_at_call 208; refine (quotient_else x y hx'.out hy'.out h0'.out h'.out _).mono ?_; rintro e w' ⟨rfl, hg⟩))
  go_ret2
  exact ⟨rfl, by (repeat (first | exact Gr.refl _ | assumption | refine gr_trans ?_ (by assumption)))⟩
theorem calc_18_out  (w : World) : Calls Tryz.prog 190 #[.int .i64 18, .int .i64 (-9223372036854775808), .int .i64 (-1)] w fun e w' => ∃ z, e = retIB z false ∧ Gr w w' := by
  go_enter Tryz.func190, Tryz.ntmps190
  go_wp2_with (first | (go_at_call 208; refine (quotient_min _).mono ?_; rintro e w' ⟨rfl, hg⟩))
  go_ret2
  exact ⟨0, rfl, by (repeat (first | exact Gr.refl _ | assumption | refine gr_trans ?_ (by assumption)))⟩
theorem limited_20 (x y : Int) (hx : Fits x) (hy : Fits y) (w : World) : Calls Tryz.prog 205 #[.int .i64 20, .int .i64 x, .int .i64 y] w fun e w' => e = .returned (.int .i64 (clamp (x + y))) ∧ Gr w w' := by
  by_cases hf : Fits (x + y)
  · have H2 : Hid (clamp (x + y) = x + y) := clamp_in hf
    have h' := hide hf; have hx' := hide hx; have hy' := hide hy; clear hf hx hy
    go_enter Tryz.func205, Tryz.ntmps205
    go_wp2_with (first | (go_at_call 190; refine (calc_15_in x y hx'.out hy'.out h'.out _).mono ?_; rintro e w' ⟨rfl, hg⟩))
    go_ret
    exact ⟨ret_int H2.out.symm, by (repeat (first | exact Gr.refl _ | assumption | refine gr_trans ?_ (by assumption)))⟩
  · by_cases a : x < 0 <;> by_cases b : y < 0
    · have H2 : Hid (clamp (x + y) = -9223372036854775808) := clamp_plus_below hx hy hf (by omega)
      have h' := hide hf; have hx' := hide hx; have hy' := hide hy; clear hf hx hy
      have d1 : decide (x < 0) = true := by simp; omega
      have d2 : decide (y < 0) = true := by simp; omega
      go_enter Tryz.func205, Tryz.ntmps205
      go_wp2_with (first | (go_at_call 190; refine (calc_15_out x y hx'.out hy'.out h'.out _).mono ?_; rintro e w' ⟨z, rfl, hg⟩))
      go_ret
      exact ⟨ret_int H2.out.symm, by (repeat (first | exact Gr.refl _ | assumption | refine gr_trans ?_ (by assumption)))⟩
    · have H2 : Hid (clamp (x + y) = -9223372036854775808) := clamp_plus_below hx hy hf (by omega)
      have h' := hide hf; have hx' := hide hx; have hy' := hide hy; clear hf hx hy
      have d1 : decide (x < 0) = true := by simp; omega
      have d2 : decide (y < 0) = false := by simp; omega
      go_enter Tryz.func205, Tryz.ntmps205
      go_wp2_with (first | (go_at_call 190; refine (calc_15_out x y hx'.out hy'.out h'.out _).mono ?_; rintro e w' ⟨z, rfl, hg⟩))
      go_ret
      exact ⟨ret_int H2.out.symm, by (repeat (first | exact Gr.refl _ | assumption | refine gr_trans ?_ (by assumption)))⟩
    · have H2 : Hid (clamp (x + y) = 9223372036854775807) := clamp_plus_above hx hy hf (by omega)
      have h' := hide hf; have hx' := hide hx; have hy' := hide hy; clear hf hx hy
      have d1 : decide (x < 0) = false := by simp; omega
      have d2 : decide (y < 0) = true := by simp; omega
      go_enter Tryz.func205, Tryz.ntmps205
      go_wp2_with (first | (go_at_call 190; refine (calc_15_out x y hx'.out hy'.out h'.out _).mono ?_; rintro e w' ⟨z, rfl, hg⟩))
      go_ret
      exact ⟨ret_int H2.out.symm, by (repeat (first | exact Gr.refl _ | assumption | refine gr_trans ?_ (by assumption)))⟩
    · have H2 : Hid (clamp (x + y) = 9223372036854775807) := clamp_plus_above hx hy hf (by omega)
      have h' := hide hf; have hx' := hide hx; have hy' := hide hy; clear hf hx hy
      have d1 : decide (x < 0) = false := by simp; omega
      have d2 : decide (y < 0) = false := by simp; omega
      go_enter Tryz.func205, Tryz.ntmps205
      go_wp2_with (first | (go_at_call 190; refine (calc_15_out x y hx'.out hy'.out h'.out _).mono ?_; rintro e w' ⟨z, rfl, hg⟩))
      go_ret
      exact ⟨ret_int H2.out.symm, by (repeat (first | exact Gr.refl _ | assumption | refine gr_trans ?_ (by assumption)))⟩
theorem limited_21 (x y : Int) (hx : Fits x) (hy : Fits y) (w : World) : Calls Tryz.prog 205 #[.int .i64 21, .int .i64 x, .int .i64 y] w fun e w' => e = .returned (.int .i64 (clamp (x - y))) ∧ Gr w w' := by
  by_cases hf : Fits (x - y)
  · have H2 : Hid (clamp (x - y) = x - y) := clamp_in hf
    have h' := hide hf; have hx' := hide hx; have hy' := hide hy; clear hf hx hy
    go_enter Tryz.func205, Tryz.ntmps205
    go_wp2_with (first | (go_at_call 190; refine (calc_16_in x y hx'.out hy'.out h'.out _).mono ?_; rintro e w' ⟨rfl, hg⟩))
    go_ret
    exact ⟨ret_int H2.out.symm, by (repeat (first | exact Gr.refl _ | assumption | refine gr_trans ?_ (by assumption)))⟩
  · by_cases a : x < 0 <;> by_cases b : y < 0
    · have H2 : Hid (clamp (x - y) = -9223372036854775808) := clamp_minus_below hx hy hf (by omega)
      have h' := hide hf; have hx' := hide hx; have hy' := hide hy; clear hf hx hy
      have d1 : decide (x < 0) = true := by simp; omega
      have d2 : decide (y < 0) = true := by simp; omega
      go_enter Tryz.func205, Tryz.ntmps205
      go_wp2_with (first | (go_at_call 190; refine (calc_16_out x y hx'.out hy'.out h'.out _).mono ?_; rintro e w' ⟨z, rfl, hg⟩))
      go_ret
      exact ⟨ret_int H2.out.symm, by (repeat (first | exact Gr.refl _ | assumption | refine gr_trans ?_ (by assumption)))⟩
    · have H2 : Hid (clamp (x - y) = -9223372036854775808) := clamp_minus_below hx hy hf (by omega)
      have h' := hide hf; have hx' := hide hx; have hy' := hide hy; clear hf hx hy
      have d1 : decide (x < 0) = true := by simp; omega
      have d2 : decide (y < 0) = false := by simp; omega
      go_enter Tryz.func205, Tryz.ntmps205
      go_wp2_with (first | (go_at_call 190; refine (calc_16_out x y hx'.out hy'.out h'.out _).mono ?_; rintro e w' ⟨z, rfl, hg⟩))
      go_ret
      exact ⟨ret_int H2.out.symm, by (repeat (first | exact Gr.refl _ | assumption | refine gr_trans ?_ (by assumption)))⟩
    · have H2 : Hid (clamp (x - y) = 9223372036854775807) := clamp_minus_above hx hy hf (by omega)
      have h' := hide hf; have hx' := hide hx; have hy' := hide hy; clear hf hx hy
      have d1 : decide (x < 0) = false := by simp; omega
      have d2 : decide (y < 0) = true := by simp; omega
      go_enter Tryz.func205, Tryz.ntmps205
      go_wp2_with (first | (go_at_call 190; refine (calc_16_out x y hx'.out hy'.out h'.out _).mono ?_; rintro e w' ⟨z, rfl, hg⟩))
      go_ret
      exact ⟨ret_int H2.out.symm, by (repeat (first | exact Gr.refl _ | assumption | refine gr_trans ?_ (by assumption)))⟩
    · have H2 : Hid (clamp (x - y) = 9223372036854775807) := clamp_minus_above hx hy hf (by omega)
      have h' := hide hf; have hx' := hide hx; have hy' := hide hy; clear hf hx hy
      have d1 : decide (x < 0) = false := by simp; omega
      have d2 : decide (y < 0) = false := by simp; omega
      go_enter Tryz.func205, Tryz.ntmps205
      go_wp2_with (first | (go_at_call 190; refine (calc_16_out x y hx'.out hy'.out h'.out _).mono ?_; rintro e w' ⟨z, rfl, hg⟩))
      go_ret
      exact ⟨ret_int H2.out.symm, by (repeat (first | exact Gr.refl _ | assumption | refine gr_trans ?_ (by assumption)))⟩
theorem limited_22 (x y : Int) (hx : Fits x) (hy : Fits y) (w : World) : Calls Tryz.prog 205 #[.int .i64 22, .int .i64 x, .int .i64 y] w fun e w' => e = .returned (.int .i64 (clamp (x * y))) ∧ Gr w w' := by
  by_cases hf : Fits (x * y)
  · have H2 : Hid (clamp (x * y) = x * y) := clamp_in hf
    have h' := hide hf; have hx' := hide hx; have hy' := hide hy; clear hf hx hy
    go_enter Tryz.func205, Tryz.ntmps205
    go_wp2_with (first | (go_at_call 190; refine (calc_17_in x y hx'.out hy'.out h'.out _).mono ?_; rintro e w' ⟨rfl, hg⟩))
    go_ret
    exact ⟨ret_int H2.out.symm, by (repeat (first | exact Gr.refl _ | assumption | refine gr_trans ?_ (by assumption)))⟩
  · by_cases a : x < 0 <;> by_cases b : y < 0
    · have H2 : Hid (clamp (x * y) = 9223372036854775807) := clamp_times_above hx hy hf (by omega)
      have h' := hide hf; have hx' := hide hx; have hy' := hide hy; clear hf hx hy
      have d1 : decide (x < 0) = true := by simp; omega
      have d2 : decide (y < 0) = true := by simp; omega
      go_enter Tryz.func205, Tryz.ntmps205
      go_wp2_with (first | (go_at_call 190; refine (calc_17_out x y hx'.out hy'.out h'.out _).mono ?_; rintro e w' ⟨z, rfl, hg⟩))
      go_ret
      exact ⟨ret_int H2.out.symm, by (repeat (first | exact Gr.refl _ | assumption | refine gr_trans ?_ (by assumption)))⟩
    · have H2 : Hid (clamp (x * y) = -9223372036854775808) := clamp_times_below hx hy hf (by omega)
      have h' := hide hf; have hx' := hide hx; have hy' := hide hy; clear hf hx hy
      have d1 : decide (x < 0) = true := by simp; omega
      have d2 : decide (y < 0) = false := by simp; omega
      go_enter Tryz.func205, Tryz.ntmps205
      go_wp2_with (first | (go_at_call 190; refine (calc_17_out x y hx'.out hy'.out h'.out _).mono ?_; rintro e w' ⟨z, rfl, hg⟩))
      go_ret
      exact ⟨ret_int H2.out.symm, by (repeat (first | exact Gr.refl _ | assumption | refine gr_trans ?_ (by assumption)))⟩
    · have H2 : Hid (clamp (x * y) = -9223372036854775808) := clamp_times_below hx hy hf (by omega)
      have h' := hide hf; have hx' := hide hx; have hy' := hide hy; clear hf hx hy
      have d1 : decide (x < 0) = false := by simp; omega
      have d2 : decide (y < 0) = true := by simp; omega
      go_enter Tryz.func205, Tryz.ntmps205
      go_wp2_with (first | (go_at_call 190; refine (calc_17_out x y hx'.out hy'.out h'.out _).mono ?_; rintro e w' ⟨z, rfl, hg⟩))
      go_ret
      exact ⟨ret_int H2.out.symm, by (repeat (first | exact Gr.refl _ | assumption | refine gr_trans ?_ (by assumption)))⟩
    · have H2 : Hid (clamp (x * y) = 9223372036854775807) := clamp_times_above hx hy hf (by omega)
      have h' := hide hf; have hx' := hide hx; have hy' := hide hy; clear hf hx hy
      have d1 : decide (x < 0) = false := by simp; omega
      have d2 : decide (y < 0) = false := by simp; omega
      go_enter Tryz.func205, Tryz.ntmps205
      go_wp2_with (first | (go_at_call 190; refine (calc_17_out x y hx'.out hy'.out h'.out _).mono ?_; rintro e w' ⟨z, rfl, hg⟩))
      go_ret
      exact ⟨ret_int H2.out.symm, by (repeat (first | exact Gr.refl _ | assumption | refine gr_trans ?_ (by assumption)))⟩
end Ref
end Sc
end Go.Proofs.YtaelfhjdmljblaaGreatDoor
