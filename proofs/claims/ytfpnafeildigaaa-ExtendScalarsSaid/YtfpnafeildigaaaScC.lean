/-
Contracts of scalars.one and scalars.two: the tables of the methods (chapter 9).
-/
import Derived.Test.YtfpnafeildigaaaScB
import Derived.Laws.EntriesVeiled
set_option linter.unusedSimpArgs false
set_option linter.unusedVariables false
namespace Go.Proofs.Ytfpnafeildigaaa
namespace Sc
open Go.RowKit Go.Lib

theorem setRow_alloc (w : World) (old cs : Array Value) (t : TypeId) : (w.alloc (.cells old t)).setRow w.heap.size cs = w.alloc (.cells cs t) := by
  unfold World.setRow World.alloc
  congr 1
  apply Array.ext
  · simp
  · intro i h1 h2
    simp only [Array.getElem_modify, Array.getElem_push]
    split
    · rename_i h; subst h; simp
    · simp at h1 h2
      rw [dif_pos (by omega), dif_pos (by omega)]
theorem wpList_store_new {P : Program} {ops : Array Oper} {rest : List Oper} {o : Oper} {a : Act} {w : World} {Q : Exit → Act → World → Prop} (hgd : o.guard = none) (ty : TypeId) (x y : Operand) (ho : o.op = .store ty x y)
    (cells : Array Value) (t : TypeId) (old : Array Value) (hx : a.eval x = .pointer (some ⟨w.heap.size, 0, none⟩)) (hy : a.eval y = .agg cells)
    (hi : (P.info? ty).map (·.size) = some cells.size)
    (hold : old.size = cells.size) (h1 : cells.all (·.oneCell') = true)
    (h : wpList P ops Q rest (a.put o.dst undef) (w.alloc (.cells cells t))) : wpList P ops Q (o :: rest) a (w.alloc (.cells old t)) :=
  wpList_store_row hgd ty x y ho w.heap.size cells hx hy t old (heap_alloc_new _ _) hi hold h1 (by rw [setRow_alloc]; exact h)
/-- a build of an aggregate, its cells under a name -/
theorem wpList_build_as {P : Program} {ops : Array Oper} {rest : List Oper} {o : Oper} {a : Act} {w : World} {Q : Exit → Act → World → Prop} (hg : o.guard = none) (t : TypeId) (parts : Array (Nat × Operand)) (ho : o.op = .build t parts)
    (cs : Array Value) (hf : P.built t (parts.map fun (i, x) => (i, a.eval x)).toList = some cs)
    (h : wpList P ops Q rest (a.put o.dst (.agg cs)) w) : wpList P ops Q (o :: rest) a w :=
  wpList_build hg t parts ho (by rw [hf]; rfl) (by rw [hf]; exact h)

def tbl2 : Array Value := #[.nilFunc, .nilFunc, .nilFunc, .nilFunc, .nilFunc, .nilFunc, .nilFunc, .nilFunc, .nilFunc, .nilFunc, .nilFunc, .nilFunc, .nilFunc, .nilFunc, .nilFunc, .func (.func 118) #[] #[], .func (.func 119) #[] #[], .func (.func 120) #[] #[], .func (.func 121) #[] #[], .func (.func 122) #[] #[], .func (.func 123) #[] #[], .func (.func 124) #[] #[], .func (.func 125) #[] #[], .func (.func 126) #[] #[], .func (.func 127) #[] #[], .func (.func 128) #[] #[], .func (.func 129) #[] #[], .func (.func 130) #[] #[], .func (.func 131) #[] #[], .func (.func 132) #[] #[], .func (.func 133) #[] #[], .func (.func 134) #[] #[], .func (.func 135) #[] #[]]
def tbl1 : Array Value := #[.nilFunc, .func (.func 115) #[] #[], .func (.func 116) #[] #[], .func (.func 117) #[] #[]]
theorem tbl2_size : tbl2.size = 33 := rfl
theorem tbl1_size : tbl1.size = 4 := rfl
theorem two_15 (w : World) : Calls Try.prog 95 #[.int .i64 15] w fun e w' => e = .returned (.func (.func 118) #[] #[]) ∧ Gr w w' := by
  have hc : tbl2[15]? = some (.func (.func 118) #[] #[]) := rfl
  go_enter Try.func95, Try.ntmps95
  iterate 11 go_step
  refine wpList_build_as rfl 117 _ rfl tbl2 (by as_aux_lemma => kernel_rfl) ?_
  iterate 3 go_step
  refine wpList_store_new rfl 117 _ _ rfl tbl2 _ _ rfl rfl (by as_aux_lemma => kernel_rfl) rfl (by as_aux_lemma => kernel_rfl) ?_
  go_wp2
  go_ret
  exact ⟨rfl, (Gr.refl _).alloc _ _⟩
theorem two_16 (w : World) : Calls Try.prog 95 #[.int .i64 16] w fun e w' => e = .returned (.func (.func 119) #[] #[]) ∧ Gr w w' := by
  have hc : tbl2[16]? = some (.func (.func 119) #[] #[]) := rfl
  go_enter Try.func95, Try.ntmps95
  iterate 11 go_step
  refine wpList_build_as rfl 117 _ rfl tbl2 (by as_aux_lemma => kernel_rfl) ?_
  iterate 3 go_step
  refine wpList_store_new rfl 117 _ _ rfl tbl2 _ _ rfl rfl (by as_aux_lemma => kernel_rfl) rfl (by as_aux_lemma => kernel_rfl) ?_
  go_wp2
  go_ret
  exact ⟨rfl, (Gr.refl _).alloc _ _⟩
theorem two_17 (w : World) : Calls Try.prog 95 #[.int .i64 17] w fun e w' => e = .returned (.func (.func 120) #[] #[]) ∧ Gr w w' := by
  have hc : tbl2[17]? = some (.func (.func 120) #[] #[]) := rfl
  go_enter Try.func95, Try.ntmps95
  iterate 11 go_step
  refine wpList_build_as rfl 117 _ rfl tbl2 (by as_aux_lemma => kernel_rfl) ?_
  iterate 3 go_step
  refine wpList_store_new rfl 117 _ _ rfl tbl2 _ _ rfl rfl (by as_aux_lemma => kernel_rfl) rfl (by as_aux_lemma => kernel_rfl) ?_
  go_wp2
  go_ret
  exact ⟨rfl, (Gr.refl _).alloc _ _⟩
theorem two_18 (w : World) : Calls Try.prog 95 #[.int .i64 18] w fun e w' => e = .returned (.func (.func 121) #[] #[]) ∧ Gr w w' := by
  have hc : tbl2[18]? = some (.func (.func 121) #[] #[]) := rfl
  go_enter Try.func95, Try.ntmps95
  iterate 11 go_step
  refine wpList_build_as rfl 117 _ rfl tbl2 (by as_aux_lemma => kernel_rfl) ?_
  iterate 3 go_step
  refine wpList_store_new rfl 117 _ _ rfl tbl2 _ _ rfl rfl (by as_aux_lemma => kernel_rfl) rfl (by as_aux_lemma => kernel_rfl) ?_
  go_wp2
  go_ret
  exact ⟨rfl, (Gr.refl _).alloc _ _⟩
theorem two_19 (w : World) : Calls Try.prog 95 #[.int .i64 19] w fun e w' => e = .returned (.func (.func 122) #[] #[]) ∧ Gr w w' := by
  have hc : tbl2[19]? = some (.func (.func 122) #[] #[]) := rfl
  go_enter Try.func95, Try.ntmps95
  iterate 11 go_step
  refine wpList_build_as rfl 117 _ rfl tbl2 (by as_aux_lemma => kernel_rfl) ?_
  iterate 3 go_step
  refine wpList_store_new rfl 117 _ _ rfl tbl2 _ _ rfl rfl (by as_aux_lemma => kernel_rfl) rfl (by as_aux_lemma => kernel_rfl) ?_
  go_wp2
  go_ret
  exact ⟨rfl, (Gr.refl _).alloc _ _⟩
theorem two_20 (w : World) : Calls Try.prog 95 #[.int .i64 20] w fun e w' => e = .returned (.func (.func 123) #[] #[]) ∧ Gr w w' := by
  have hc : tbl2[20]? = some (.func (.func 123) #[] #[]) := rfl
  go_enter Try.func95, Try.ntmps95
  iterate 11 go_step
  refine wpList_build_as rfl 117 _ rfl tbl2 (by as_aux_lemma => kernel_rfl) ?_
  iterate 3 go_step
  refine wpList_store_new rfl 117 _ _ rfl tbl2 _ _ rfl rfl (by as_aux_lemma => kernel_rfl) rfl (by as_aux_lemma => kernel_rfl) ?_
  go_wp2
  go_ret
  exact ⟨rfl, (Gr.refl _).alloc _ _⟩
theorem two_21 (w : World) : Calls Try.prog 95 #[.int .i64 21] w fun e w' => e = .returned (.func (.func 124) #[] #[]) ∧ Gr w w' := by
  have hc : tbl2[21]? = some (.func (.func 124) #[] #[]) := rfl
  go_enter Try.func95, Try.ntmps95
  iterate 11 go_step
  refine wpList_build_as rfl 117 _ rfl tbl2 (by as_aux_lemma => kernel_rfl) ?_
  iterate 3 go_step
  refine wpList_store_new rfl 117 _ _ rfl tbl2 _ _ rfl rfl (by as_aux_lemma => kernel_rfl) rfl (by as_aux_lemma => kernel_rfl) ?_
  go_wp2
  go_ret
  exact ⟨rfl, (Gr.refl _).alloc _ _⟩
theorem two_22 (w : World) : Calls Try.prog 95 #[.int .i64 22] w fun e w' => e = .returned (.func (.func 125) #[] #[]) ∧ Gr w w' := by
  have hc : tbl2[22]? = some (.func (.func 125) #[] #[]) := rfl
  go_enter Try.func95, Try.ntmps95
  iterate 11 go_step
  refine wpList_build_as rfl 117 _ rfl tbl2 (by as_aux_lemma => kernel_rfl) ?_
  iterate 3 go_step
  refine wpList_store_new rfl 117 _ _ rfl tbl2 _ _ rfl rfl (by as_aux_lemma => kernel_rfl) rfl (by as_aux_lemma => kernel_rfl) ?_
  go_wp2
  go_ret
  exact ⟨rfl, (Gr.refl _).alloc _ _⟩
theorem two_23 (w : World) : Calls Try.prog 95 #[.int .i64 23] w fun e w' => e = .returned (.func (.func 126) #[] #[]) ∧ Gr w w' := by
  have hc : tbl2[23]? = some (.func (.func 126) #[] #[]) := rfl
  go_enter Try.func95, Try.ntmps95
  iterate 11 go_step
  refine wpList_build_as rfl 117 _ rfl tbl2 (by as_aux_lemma => kernel_rfl) ?_
  iterate 3 go_step
  refine wpList_store_new rfl 117 _ _ rfl tbl2 _ _ rfl rfl (by as_aux_lemma => kernel_rfl) rfl (by as_aux_lemma => kernel_rfl) ?_
  go_wp2
  go_ret
  exact ⟨rfl, (Gr.refl _).alloc _ _⟩
theorem two_24 (w : World) : Calls Try.prog 95 #[.int .i64 24] w fun e w' => e = .returned (.func (.func 127) #[] #[]) ∧ Gr w w' := by
  have hc : tbl2[24]? = some (.func (.func 127) #[] #[]) := rfl
  go_enter Try.func95, Try.ntmps95
  iterate 11 go_step
  refine wpList_build_as rfl 117 _ rfl tbl2 (by as_aux_lemma => kernel_rfl) ?_
  iterate 3 go_step
  refine wpList_store_new rfl 117 _ _ rfl tbl2 _ _ rfl rfl (by as_aux_lemma => kernel_rfl) rfl (by as_aux_lemma => kernel_rfl) ?_
  go_wp2
  go_ret
  exact ⟨rfl, (Gr.refl _).alloc _ _⟩
theorem two_25 (w : World) : Calls Try.prog 95 #[.int .i64 25] w fun e w' => e = .returned (.func (.func 128) #[] #[]) ∧ Gr w w' := by
  have hc : tbl2[25]? = some (.func (.func 128) #[] #[]) := rfl
  go_enter Try.func95, Try.ntmps95
  iterate 11 go_step
  refine wpList_build_as rfl 117 _ rfl tbl2 (by as_aux_lemma => kernel_rfl) ?_
  iterate 3 go_step
  refine wpList_store_new rfl 117 _ _ rfl tbl2 _ _ rfl rfl (by as_aux_lemma => kernel_rfl) rfl (by as_aux_lemma => kernel_rfl) ?_
  go_wp2
  go_ret
  exact ⟨rfl, (Gr.refl _).alloc _ _⟩
theorem two_26 (w : World) : Calls Try.prog 95 #[.int .i64 26] w fun e w' => e = .returned (.func (.func 129) #[] #[]) ∧ Gr w w' := by
  have hc : tbl2[26]? = some (.func (.func 129) #[] #[]) := rfl
  go_enter Try.func95, Try.ntmps95
  iterate 11 go_step
  refine wpList_build_as rfl 117 _ rfl tbl2 (by as_aux_lemma => kernel_rfl) ?_
  iterate 3 go_step
  refine wpList_store_new rfl 117 _ _ rfl tbl2 _ _ rfl rfl (by as_aux_lemma => kernel_rfl) rfl (by as_aux_lemma => kernel_rfl) ?_
  go_wp2
  go_ret
  exact ⟨rfl, (Gr.refl _).alloc _ _⟩
theorem two_27 (w : World) : Calls Try.prog 95 #[.int .i64 27] w fun e w' => e = .returned (.func (.func 130) #[] #[]) ∧ Gr w w' := by
  have hc : tbl2[27]? = some (.func (.func 130) #[] #[]) := rfl
  go_enter Try.func95, Try.ntmps95
  iterate 11 go_step
  refine wpList_build_as rfl 117 _ rfl tbl2 (by as_aux_lemma => kernel_rfl) ?_
  iterate 3 go_step
  refine wpList_store_new rfl 117 _ _ rfl tbl2 _ _ rfl rfl (by as_aux_lemma => kernel_rfl) rfl (by as_aux_lemma => kernel_rfl) ?_
  go_wp2
  go_ret
  exact ⟨rfl, (Gr.refl _).alloc _ _⟩
theorem two_28 (w : World) : Calls Try.prog 95 #[.int .i64 28] w fun e w' => e = .returned (.func (.func 131) #[] #[]) ∧ Gr w w' := by
  have hc : tbl2[28]? = some (.func (.func 131) #[] #[]) := rfl
  go_enter Try.func95, Try.ntmps95
  iterate 11 go_step
  refine wpList_build_as rfl 117 _ rfl tbl2 (by as_aux_lemma => kernel_rfl) ?_
  iterate 3 go_step
  refine wpList_store_new rfl 117 _ _ rfl tbl2 _ _ rfl rfl (by as_aux_lemma => kernel_rfl) rfl (by as_aux_lemma => kernel_rfl) ?_
  go_wp2
  go_ret
  exact ⟨rfl, (Gr.refl _).alloc _ _⟩
theorem two_29 (w : World) : Calls Try.prog 95 #[.int .i64 29] w fun e w' => e = .returned (.func (.func 132) #[] #[]) ∧ Gr w w' := by
  have hc : tbl2[29]? = some (.func (.func 132) #[] #[]) := rfl
  go_enter Try.func95, Try.ntmps95
  iterate 11 go_step
  refine wpList_build_as rfl 117 _ rfl tbl2 (by as_aux_lemma => kernel_rfl) ?_
  iterate 3 go_step
  refine wpList_store_new rfl 117 _ _ rfl tbl2 _ _ rfl rfl (by as_aux_lemma => kernel_rfl) rfl (by as_aux_lemma => kernel_rfl) ?_
  go_wp2
  go_ret
  exact ⟨rfl, (Gr.refl _).alloc _ _⟩
theorem two_30 (w : World) : Calls Try.prog 95 #[.int .i64 30] w fun e w' => e = .returned (.func (.func 133) #[] #[]) ∧ Gr w w' := by
  have hc : tbl2[30]? = some (.func (.func 133) #[] #[]) := rfl
  go_enter Try.func95, Try.ntmps95
  iterate 11 go_step
  refine wpList_build_as rfl 117 _ rfl tbl2 (by as_aux_lemma => kernel_rfl) ?_
  iterate 3 go_step
  refine wpList_store_new rfl 117 _ _ rfl tbl2 _ _ rfl rfl (by as_aux_lemma => kernel_rfl) rfl (by as_aux_lemma => kernel_rfl) ?_
  go_wp2
  go_ret
  exact ⟨rfl, (Gr.refl _).alloc _ _⟩
theorem two_31 (w : World) : Calls Try.prog 95 #[.int .i64 31] w fun e w' => e = .returned (.func (.func 134) #[] #[]) ∧ Gr w w' := by
  have hc : tbl2[31]? = some (.func (.func 134) #[] #[]) := rfl
  go_enter Try.func95, Try.ntmps95
  iterate 11 go_step
  refine wpList_build_as rfl 117 _ rfl tbl2 (by as_aux_lemma => kernel_rfl) ?_
  iterate 3 go_step
  refine wpList_store_new rfl 117 _ _ rfl tbl2 _ _ rfl rfl (by as_aux_lemma => kernel_rfl) rfl (by as_aux_lemma => kernel_rfl) ?_
  go_wp2
  go_ret
  exact ⟨rfl, (Gr.refl _).alloc _ _⟩
theorem two_32 (w : World) : Calls Try.prog 95 #[.int .i64 32] w fun e w' => e = .returned (.func (.func 135) #[] #[]) ∧ Gr w w' := by
  have hc : tbl2[32]? = some (.func (.func 135) #[] #[]) := rfl
  go_enter Try.func95, Try.ntmps95
  iterate 11 go_step
  refine wpList_build_as rfl 117 _ rfl tbl2 (by as_aux_lemma => kernel_rfl) ?_
  iterate 3 go_step
  refine wpList_store_new rfl 117 _ _ rfl tbl2 _ _ rfl rfl (by as_aux_lemma => kernel_rfl) rfl (by as_aux_lemma => kernel_rfl) ?_
  go_wp2
  go_ret
  exact ⟨rfl, (Gr.refl _).alloc _ _⟩
theorem one_1 (w : World) : Calls Try.prog 94 #[.int .i64 1] w fun e w' => e = .returned (.func (.func 115) #[] #[]) ∧ Gr w w' := by
  have hc : tbl1[1]? = some (.func (.func 115) #[] #[]) := rfl
  go_enter Try.func94, Try.ntmps94
  iterate 11 go_step
  refine wpList_build_as rfl 116 _ rfl tbl1 (by as_aux_lemma => kernel_rfl) ?_
  iterate 3 go_step
  refine wpList_store_new rfl 116 _ _ rfl tbl1 _ _ rfl rfl (by as_aux_lemma => kernel_rfl) rfl (by as_aux_lemma => kernel_rfl) ?_
  go_wp2
  go_ret
  exact ⟨rfl, (Gr.refl _).alloc _ _⟩
theorem one_2 (w : World) : Calls Try.prog 94 #[.int .i64 2] w fun e w' => e = .returned (.func (.func 116) #[] #[]) ∧ Gr w w' := by
  have hc : tbl1[2]? = some (.func (.func 116) #[] #[]) := rfl
  go_enter Try.func94, Try.ntmps94
  iterate 11 go_step
  refine wpList_build_as rfl 116 _ rfl tbl1 (by as_aux_lemma => kernel_rfl) ?_
  iterate 3 go_step
  refine wpList_store_new rfl 116 _ _ rfl tbl1 _ _ rfl rfl (by as_aux_lemma => kernel_rfl) rfl (by as_aux_lemma => kernel_rfl) ?_
  go_wp2
  go_ret
  exact ⟨rfl, (Gr.refl _).alloc _ _⟩
theorem one_3 (w : World) : Calls Try.prog 94 #[.int .i64 3] w fun e w' => e = .returned (.func (.func 117) #[] #[]) ∧ Gr w w' := by
  have hc : tbl1[3]? = some (.func (.func 117) #[] #[]) := rfl
  go_enter Try.func94, Try.ntmps94
  iterate 11 go_step
  refine wpList_build_as rfl 116 _ rfl tbl1 (by as_aux_lemma => kernel_rfl) ?_
  iterate 3 go_step
  refine wpList_store_new rfl 116 _ _ rfl tbl1 _ _ rfl rfl (by as_aux_lemma => kernel_rfl) rfl (by as_aux_lemma => kernel_rfl) ?_
  go_wp2
  go_ret
  exact ⟨rfl, (Gr.refl _).alloc _ _⟩
theorem two_low (n : Nat) (hn : n < 15) (w : World) : Calls Try.prog 95 #[.int .i64 n] w fun e w' => e = .returned .nilFunc ∧ Gr w w' := by
  have hc : tbl2[n]? = some .nilFunc := by
    match n, hn with
    | 0, _ => rfl
    | 1, _ => rfl
    | 2, _ => rfl
    | 3, _ => rfl
    | 4, _ => rfl
    | 5, _ => rfl
    | 6, _ => rfl
    | 7, _ => rfl
    | 8, _ => rfl
    | 9, _ => rfl
    | 10, _ => rfl
    | 11, _ => rfl
    | 12, _ => rfl
    | 13, _ => rfl
    | 14, _ => rfl
    | k + 15, h => exact absurd h (by omega)
  go_enter Try.func95, Try.ntmps95
  iterate 11 go_step
  refine wpList_build_as rfl 117 _ rfl tbl2 (by as_aux_lemma => kernel_rfl) ?_
  iterate 3 go_step
  refine wpList_store_new rfl 117 _ _ rfl tbl2 _ _ rfl rfl (by as_aux_lemma => kernel_rfl) rfl (by as_aux_lemma => kernel_rfl) ?_
  go_wp2
  go_ret
  exact ⟨rfl, (Gr.refl _).alloc _ _⟩
theorem two_out (p : Int) (hp : p < 0 ∨ 33 ≤ p) (w : World) : Calls Try.prog 95 #[.int .i64 p] w fun e w' => e = .returned .nilFunc ∧ Gr w w' := by
  by_cases h : p < 0
  all_goals
    go_enter Try.func95, Try.ntmps95
    iterate 11 go_step
    refine wpList_build_as rfl 117 _ rfl tbl2 (by as_aux_lemma => kernel_rfl) ?_
    iterate 3 go_step
    refine wpList_store_new rfl 117 _ _ rfl tbl2 _ _ rfl rfl (by as_aux_lemma => kernel_rfl) rfl (by as_aux_lemma => kernel_rfl) ?_
    go_wp2
    go_ret
    exact ⟨rfl, (Gr.refl _).alloc _ _⟩
theorem one_low (n : Nat) (hn : n < 1) (w : World) : Calls Try.prog 94 #[.int .i64 n] w fun e w' => e = .returned .nilFunc ∧ Gr w w' := by
  have hc : tbl1[n]? = some .nilFunc := by
    match n, hn with
    | 0, _ => rfl
    | k + 1, h => exact absurd h (by omega)
  go_enter Try.func94, Try.ntmps94
  iterate 11 go_step
  refine wpList_build_as rfl 116 _ rfl tbl1 (by as_aux_lemma => kernel_rfl) ?_
  iterate 3 go_step
  refine wpList_store_new rfl 116 _ _ rfl tbl1 _ _ rfl rfl (by as_aux_lemma => kernel_rfl) rfl (by as_aux_lemma => kernel_rfl) ?_
  go_wp2
  go_ret
  exact ⟨rfl, (Gr.refl _).alloc _ _⟩
theorem one_out (p : Int) (hp : p < 0 ∨ 4 ≤ p) (w : World) : Calls Try.prog 94 #[.int .i64 p] w fun e w' => e = .returned .nilFunc ∧ Gr w w' := by
  by_cases h : p < 0
  all_goals
    go_enter Try.func94, Try.ntmps94
    iterate 11 go_step
    refine wpList_build_as rfl 116 _ rfl tbl1 (by as_aux_lemma => kernel_rfl) ?_
    iterate 3 go_step
    refine wpList_store_new rfl 116 _ _ rfl tbl1 _ _ rfl rfl (by as_aux_lemma => kernel_rfl) rfl (by as_aux_lemma => kernel_rfl) ?_
    go_wp2
    go_ret
    exact ⟨rfl, (Gr.refl _).alloc _ _⟩

theorem two_nil (p : Int) (hp : p < 15 ∨ 33 ≤ p) (w : World) : Calls Try.prog 95 #[.int .i64 p] w fun e w' => e = .returned .nilFunc ∧ Gr w w' := by
  by_cases h : 0 ≤ p ∧ p < 15
  · obtain ⟨n, rfl⟩ := Int.eq_ofNat_of_zero_le h.1
    exact two_low n (by omega) w
  · exact two_out p (by omega) w
theorem one_nil (p : Int) (hp : p < 1 ∨ 4 ≤ p) (w : World) : Calls Try.prog 94 #[.int .i64 p] w fun e w' => e = .returned .nilFunc ∧ Gr w w' := by
  by_cases h : 0 ≤ p ∧ p < 1
  · obtain ⟨n, rfl⟩ := Int.eq_ofNat_of_zero_le h.1
    exact one_low n (by omega) w
  · exact one_out p (by omega) w
end Sc
end Go.Proofs.Ytfpnafeildigaaa
