/-
Contracts of chapter 11: the loop that makes sums of each row (program).
-/
import Derived.Test.YtfpnafeildigaaaBc3
import Derived.Maps.AppendAt
import Derived.Lib.AppendZerosOnto
import Derived.Lib.AppendZeros
import Derived.Test.YtfpnafeildigaaaArLx
set_option linter.unusedSimpArgs false
set_option linter.unusedVariables false
namespace Go.Proofs.Ytfpnafeildigaaa
namespace Ar
open Go.RowKit Sc
/-- rows that are collected, in a row of one's own from B on; none of them lies in that row -/
def RowsOwn (w : World) (B : Nat) (v : Value) (yss : List (List Int)) (vs : List Value) : Prop :=
  w.ownsRow B 23 1 v yss.length vs ∧ ∀ j, j < yss.length → ∃ (Z : Option Addr) (d : Nat), vs[j]? = some (.slice Z (yss.getD j []).length d) ∧ Sl w Z (yss.getD j []) ∧ (yss.getD j []).length ≤ d ∧ (yss.getD j [] ≠ [] → ∀ g o, Z = some ⟨g, o, none⟩ → some g ≠ v.ownBlock ∧ B ≤ g ∧ g < w.heap.size)
theorem RowsOwn.nil (w : World) (B : Nat) : RowsOwn w B (.slice none 0 0) [] [] := ⟨World.ownsRow_nil _ _ _ _, fun j hj => by simp at hj⟩
theorem RowsOwn.below {w w' : World} {B : Nat} {v : Value} {yss : List (List Int)} {vs : List Value} (h : RowsOwn w B v yss vs) (hb : Below w.heap.size w w') : RowsOwn w' B v yss vs := by
  refine ⟨World.ownsRow.kept h.1 (gb_of_below hb none) (by cases hv : v.ownBlock <;> simp), fun j hj => ?_⟩
  obtain ⟨Z, d, h1, h2, h3, h4⟩ := h.2 j hj
  exact ⟨Z, d, h1, h2.below hb, h3, fun hn g o e => ⟨(h4 hn g o e).1, (h4 hn g o e).2.1, Nat.lt_of_lt_of_le (h4 hn g o e).2.2 hb.size⟩⟩
theorem Sl.grown {w w' : World} {row : Option Nat} {Z : Option Addr} {zs : List Int} (h : Sl w Z zs) (hg : w.grownBy w' row) (hne : zs ≠ [] → ∀ g o, Z = some ⟨g, o, none⟩ → some g ≠ row) : Sl w' Z zs := fun hn => by
  obtain ⟨b, o, e, hl, hc⟩ := h hn
  exact ⟨b, o, e, Nat.lt_of_lt_of_le hl hg.size, fun j hj => (World.cell?_of_block (hg.block b hl (hne hn b o e))).trans (hc j hj)⟩
theorem RowsOwn.push {w w' : World} {B d : Nat} {v v' : Value} {yss : List (List Int)} {vs : List Value} {Z : Option Addr} {zs : List Int} (h : RowsOwn w B v yss vs) (hz : Sl w Z zs) (hd : zs.length ≤ d)
    (hZ : zs ≠ [] → ∀ g o, Z = some ⟨g, o, none⟩ → some g ≠ v.ownBlock ∧ B ≤ g ∧ g < w.heap.size)
    (hown : w'.ownsRow B 23 1 v' (yss.length + 1) (vs ++ [.slice Z zs.length d])) (hg : w.grownBy w' v.ownBlock) (h5 : v'.ownBlock = v.ownBlock ∨ v'.ownBlock = some w.heap.size) : RowsOwn w' B v' (yss ++ [zs]) (vs ++ [.slice Z zs.length d]) := by
  have hl : vs.length = yss.length := by have := h.1.1; omega
  have key : ∀ g, some g ≠ v.ownBlock → g < w.heap.size → some g ≠ v'.ownBlock := by
    intro g h1 h2 e
    rcases h5 with h5 | h5
    · exact h1 (e.trans h5)
    · rw [h5] at e; injection e with e; omega
  refine ⟨by rw [List.length_append]; exact hown, fun j hj => ?_⟩
  rw [List.length_append, List.length_singleton] at hj
  by_cases e : j < yss.length
  · obtain ⟨Z', d', h1, h2, h3, h4⟩ := h.2 j e
    have e2 : (yss ++ [zs]).getD j [] = yss.getD j [] := by rw [List.getD_eq_getElem?_getD, List.getElem?_append_left e, ← List.getD_eq_getElem?_getD]
    rw [e2]
    exact ⟨Z', d', by rw [List.getElem?_append_left (by omega)]; exact h1, h2.grown hg (fun hn g o e => (h4 hn g o e).1), h3, fun hn g o e3 => ⟨key g (h4 hn g o e3).1 (h4 hn g o e3).2.2, (h4 hn g o e3).2.1, Nat.lt_of_lt_of_le (h4 hn g o e3).2.2 hg.size⟩⟩
  · have e1 : j = yss.length := by omega
    subst e1
    have e2 : (yss ++ [zs]).getD yss.length [] = zs := by simp
    rw [e2]
    exact ⟨Z, d, by rw [List.getElem?_append_right (by omega), hl, Nat.sub_self]; rfl, hz.grown hg (fun hn g o e => (hZ hn g o e).1), hd, fun hn g o e3 => ⟨key g (hZ hn g o e3).1 (hZ hn g o e3).2.2, (hZ hn g o e3).2.1, Nat.lt_of_lt_of_le (hZ hn g o e3).2.2 hg.size⟩⟩
theorem RowsOwn.rs {w : World} {B : Nat} {v : Value} {yss : List (List Int)} {vs : List Value} (h : RowsOwn w B v yss vs) : ∃ (R : Option Addr) (c : Nat), v = .slice R yss.length c ∧ Rs w R yss := by
  obtain ⟨h1, h2⟩ := h
  rcases Nat.eq_zero_or_pos yss.length with h0 | h0
  · have e : yss = [] := List.eq_nil_of_length_eq_zero h0
    subst e
    rcases h1.2 with ⟨e, _⟩ | ⟨g, cap, cur, e, _⟩
    · exact ⟨none, 0, e, fun h => absurd rfl h⟩
    · exact ⟨_, cap, e, fun h => absurd rfl h⟩
  · obtain ⟨g, cap, rfl, hb, hlt⟩ := World.ownsRow.form h1 h0
    refine ⟨_, cap, rfl, fun _ => ⟨g, 0, rfl, hlt, fun j hj => ?_⟩⟩
    obtain ⟨Z, d, h3, h4, h5, _⟩ := h2 j hj
    exact ⟨Z, d, by rw [Nat.zero_add, World.ownsRow.cellAt h1 j (by omega)]; exact h3, h4, h5⟩
/-- what the loop answers that makes sums of each row -/
def EachRs (w : World) (t : Int × List (List Int)) (e : Ending) (w' : World) : Prop :=
  Below w.heap.size w w' ∧ ∃ (R : Option Addr) (c : Nat), e = .returned (.tuple #[.slice R t.2.length c, .int .i64 t.1]) ∧ Rs w' R t.2
set_option maxRecDepth 100000 in
set_option maxHeartbeats 4000000 in
theorem each_sums (a : Arr) (A : Option Addr) (c : Nat) (hcA : a.xs.length ≤ c) (hx : ∀ x ∈ a.xs, Fits x) (w : World) (hs : Sl w A a.xs) (h : chk a = 0) (hr : a.r ≠ 0) :
    Calls Try.prog 87 #[.agg #[.int .i64 a.k, .int .i64 a.r, .int .i64 a.l0, .int .i64 a.l1, .slice A a.xs.length c], .func (.func 81) #[] #[]] w (EachRs w (mapG scanRow (rowsL a))) := by
  have hml : (rowsL a).length ≤ 400 := by obtain ⟨m, n, _, _, h2, _, e⟩ := rowsL_nat h hr; rw [e]; simpa using h2
  have H := hide h; have HR := hide hr; have HX := hide hx
  obtain ⟨i0, hi0, hz0, hz1, hz2⟩ := info_parts info_sl
  have HI := hide hi0; have HZ0 := hide hz0; have HZ1 := hide hz1; have HZ2 := hide hz2
  clear h hr hx hi0 hz0 hz1 hz2
  go_enter Try.func87, Try.ntmps87
  go_wp2_with fail
  refine (frows_any a A c hcA _ (hs.below (by (repeat (first | with_reducible exact Below.refl _ _ | with_reducible assumption | (with_reducible refine bl_set ?_ (by simp; try omega) _) | (with_reducible refine bl_alloc ?_ _) | (with_reducible refine bl_dn ?_ _) | (with_reducible refine bl_drew ?_) | (with_reducible refine bl_then ?_ (by with_reducible assumption)))))) H.out HR.out).mono ?_
  rintro e w1 ⟨hg1, R, rc, rfl, hRs⟩
  have hb1 : Hid (Below w.heap.size w w1) := by show Below _ _ _; (repeat (first | with_reducible exact Below.refl _ _ | with_reducible assumption | (with_reducible refine bl_set ?_ (by simp; try omega) _) | (with_reducible refine bl_alloc ?_ _) | (with_reducible refine bl_dn ?_ _) | (with_reducible refine bl_drew ?_) | (with_reducible refine bl_then ?_ (by with_reducible assumption))))
  have hRs := hide hRs.rs
  clear hg1
  go_wp2
  go_loopw [6, 14] (fun s6 s14 wr => ∃ (i : Nat) (yss : List (List Int)) (vs : List Value) (v : Value), i ≤ (rowsL a).length ∧ v = s6 ∧ s14 = .int .i64 i ∧ Hid (mapG scanRow ((rowsL a).take i) = (0, yss)) ∧ Hid (yss.length = i) ∧ Hid (RowsOwn wr w1.heap.size v yss vs) ∧ Hid (Below w1.heap.size w1 wr)) (fun _ s14 _ => (rowsL a).length - (intOf s14).toNat)
  case atStart => exact ⟨0, [], [], _, Nat.zero_le _, rfl, rfl, rfl, rfl, RowsOwn.nil _ _, Below.refl _ _⟩
  case round =>
    obtain ⟨i, yss, vs, v, hi, rfl, rfl, hm, hy, hro, hbl⟩ := hrel
    by_cases hlt : i < (rowsL a).length
    · obtain ⟨b, o, row, B, d, rfl, hbk, hcx, hsr, hcr, hrow⟩ := (hRs.out.below hbl.out).at_ hlt
      have hmem : row ∈ rowsL a := by rw [← hrow.out, List.getD_eq_getElem?_getD, List.getElem?_eq_getElem hlt]; exact List.getElem_mem hlt
      obtain ⟨hrl, hrm⟩ := rowsL_mem H.out HR.out hmem
      have hrf : Hid (∀ x ∈ row, Fits x) := fun x hx => HX.out x (hrm x hx)
      have hil : (i : Int) < ((rowsL a).length : Int) := by omega
      clear hmem hcr hrm
      obtain ⟨er, zs, hsc⟩ : ∃ er ys, scanE 0 row = (er, ys) := ⟨_, _, rfl⟩
      have HS := hide hsc
      clear hsc
      go_wp2_with fail
      refine (fsums_any row B d (by omega) hrf.out _ hsr.out).mono ?_
      rw [HS.out]
      rintro e w6 ⟨hg6, Z, cz, rfl, hsz, hgez, hcpz⟩
      have ro6 := hide (hro.out.below hg6)
      have hb6 := hide (bl_then hbl.out hg6)
      have HZ := hide (show Sl w6 Z zs from hsz)
      have HZg : Hid (zs ≠ [] → ∀ g o, Z = some ⟨g, o, none⟩ → some g ≠ v.ownBlock ∧ w1.heap.size ≤ g ∧ g < w6.heap.size) := by
        intro hn g o e
        have h1 := hgez g o e
        have h2 := hbl.out.size
        obtain ⟨b', o', e', hl', _⟩ := hsz hn
        rw [e] at e'; injection e' with e'; injection e' with e1 e2 e3
        refine ⟨fun e4 => ?_, by omega, by omega⟩
        have := (World.ownsRow.lt hro.out.1 g e4.symm).2
        omega
      have z6 : w1.heap.size ≤ w6.heap.size := hb6.out.size
      have HCZ := hide (show zs.length ≤ cz from hcpz)
      clear hg6 hgez hcpz hsz
      by_cases he : er = 0
      · subst he
        have HV : Hid (scanRow row = (zs, 0)) := by show _ = _; unfold scanRow; rw [HS.out]
        go_wp2_with (at_builtin; refine wpList_append_own_at _ rfl (.tmp 27) (.tmp 29) _ rfl w1.heap.size 23 i0 (.slice none 0 0) 1 24 Try.underlying87 HI.out HZ0.out HZ1.out HZ2.out rfl (by decide) v yss.length vs rfl (World.ownsRow.alloc ro6.out.1 _) ⟨w6.heap.size, 0, none⟩ 1 1 [.slice Z zs.length cz] rfl rfl (World.news_of_block (heap_alloc_new w6 _)) (by intro u hu; rw [List.mem_singleton.1 hu]; rfl) (by unfold maxLen; have := hy.out; omega) (by have := hy.out; omega) (by simp; omega) ?_; intro v' w7 hown' hgrow _ hat; have ro7 := hide (RowsOwn.push (ro6.out.below (bl_new w6 _)) (HZ.out.below (bl_new w6 _)) HCZ.out (fun hn g o e => by obtain ⟨h1, h2, h3⟩ := HZg.out hn g o e; exact ⟨h1, h2, by simp; omega⟩) hown' hgrow hat); have hb7 := hide (below_gb (bl_alloc hb6.out _) hgrow (by simp; omega) (fun k hk => (World.ownsRow.lt hro.out.1 k hk).1)); clear hgrow hat hown')
        go_roundw
        case rel => exact ⟨i + 1, yss ++ [zs], _, v', by omega, rfl, by go_num, (by show _ = _; rw [take_at hlt hrow.out]; have := mapG_step hm.out (x := row) (by rw [HV.out]); rw [HV.out] at this; exact this), (by show _ = _; simp [hy.out]), ro7, hb7⟩
        case measure => simp [intOf]; omega
      · have c1 : (er != 0) = true := by simpa using he
        have HV : Hid (mapG scanRow (rowsL a) = (er, [])) := by
          have e0 : (scanRow row).2 = er := by unfold scanRow; rw [HS.out]
          have e1 := mapG_err (r := (rowsL a).drop (i + 1)) (x := row) hm.out (by rw [e0]; exact he)
          rw [← split_at hlt hrow.out, e0] at e1
          show _ = _
          rw [mapG_bad scanRow (rowsL a) (by rw [e1]; exact he), e1]
        clear he
        have hb7 := bl_then hb1.out hb6.out
        go_wp2
        go_ret2
        rw [HV.out]
        exact ⟨hb7, none, 0, rfl, fun h => absurd rfl h⟩
    · have e : i = (rowsL a).length := by omega
      subst e
      have HE : Hid (mapG scanRow (rowsL a) = (0, yss)) := by
        have e1 := hm.out
        rw [List.take_of_length_le (Nat.le_refl _)] at e1
        exact e1
      obtain ⟨R', rc', rfl, hR'⟩ := hro.out.rs
      have hR' := hide hR'
      clear hro hm
      go_wp2
      go_ret2
      rw [HE.out]
      exact ⟨bl_then hb1.out hbl.out, R', rc', rfl, hR'.out⟩
end Ar
end Go.Proofs.Ytfpnafeildigaaa
/-
Contracts of chapter 11: slices.Grow of nil, slices.Concat, folds.Scan.
-/
set_option linter.unusedSimpArgs false
set_option linter.unusedVariables false
namespace Go.Proofs.Ytfpnafeildigaaa
namespace Ar
open Go.RowKit Sc
theorem run_zeros (n : Nat) (h0 : 0 < n) (hn : n ≤ 200000) (ty : TypeId) (w : World) : ∃ (cs : Array Value) (w' : World), (Builtin.append_ #[23, 3] ty #[.slice none 0 0, .int .i64 (n : Int)]).run Try.prog w = .ok (.slice (some ⟨w.heap.size, 0, none⟩) n cs.size) w' ∧ w' = w.drew.alloc (.cells cs 2) ∧ n ≤ cs.size ∧ cs.size ≤ maxLen := by
  obtain ⟨i0, hi0, hz0, hz1, hz2⟩ := info_parts info_i64
  have h := Lib.run_append_grow_zeros (P := Try.prog) w 23 3 ty 2 i0 (.int .i64 0) .i64 .i64 Try.underlying23 Try.underlying3 hi0 hz0 none 0 0 [] (run_firstCells_none w.drew i0.size 0 0 0) n h0 (by omega) (by omega) (by omega) (by rw [hz2]; omega)
    (growslice_fits (need := 0 + n) (old := 0) (bytes := i0.bytes) (by omega) (by rw [hz2]; omega))
  have hge := grownCap_ge w (0 + n) 0 2
  have hle := grownCap_le_maxLen w (0 + n) 0 2 (by unfold maxLen; omega)
  rw [Nat.zero_add] at h hge hle
  have hs : (([] : List Value).toArray ++ Builtin.zeroCells (Value.int .i64 0).cells n ++ Builtin.zeroCells (Value.int .i64 0).cells (grownCap w n 0 2 - n)).size = grownCap w n 0 2 := by
    rw [Array.size_append, Array.size_append, size_zeroCells, size_zeroCells]
    have : (Value.int .i64 0).cells.size = 1 := rfl
    rw [this]; simp; omega
  obtain ⟨cs, hcs⟩ : ∃ cs : Array Value, cs = ([] : List Value).toArray ++ Builtin.zeroCells (Value.int .i64 0).cells n ++ Builtin.zeroCells (Value.int .i64 0).cells (grownCap w n 0 2 - n) := ⟨_, rfl⟩
  rw [← hcs] at h hs
  exact ⟨cs, _, by rw [hs]; exact h, rfl, by rw [hs]; exact hge, by rw [hs]; exact hle⟩
theorem acc_room (w : World) (cs : Array Value) (hm : cs.size ≤ maxLen) (t : TypeId) (h : t = 2) : Acc (w.alloc (.cells cs t)) w.heap.size (.slice (some ⟨w.heap.size, 0, none⟩) 0 cs.size) [] := by
  subst h
  exact ⟨rfl, .inr ⟨w.heap.size, cs.size, cs, rfl, Nat.le_refl _, heap_alloc_new w _, Nat.zero_le _, hm, by simp, by simp⟩⟩
set_option maxRecDepth 100000 in
theorem grow_any (n : Nat) (hn : n ≤ 200000) (w : World) : Calls Try.prog 113 #[.slice none 0 0, .int .i64 (n : Int)] w fun e w' => Below w.heap.size w w' ∧ ∃ v, e = .returned v ∧ Acc w' w.heap.size v [] := by
  have e1 : IntKind.i64.wrap (n : Int) = (n : Int) := IntWalk.i64_in _ (by omega)
  by_cases h0 : n = 0
  · subst h0
    go_enter Try.func113, Try.ntmps113
    go_wp2
    go_ret
    exact ⟨Below.refl _ _, _, rfl, Acc.nil _ _⟩
  · obtain ⟨cs, w1, hr, hw1, hge, hle⟩ := run_zeros n (by omega) hn 23 w
    have n1 : decide ((n : Int) < 0) = false := by simp
    have n2 : decide (0 < (n : Int)) = true := by simp; omega
    have hp : ∀ W, (Instr.slice 23 (.slice (some ⟨w.heap.size, 0, none⟩) n cs.size) none (some (.int .i64 0)) none).run Try.prog W = .ok (.slice (some ⟨w.heap.size, 0, none⟩) 0 cs.size) W := fun W => by
      have := run_partTo (some ⟨w.heap.size, 0, none⟩) n cs.size 0 (by omega) W
      have e : part (some (⟨w.heap.size, 0, none⟩ : Addr)) 0 cs.size = some ⟨w.heap.size, 0, none⟩ := by unfold part; rw [if_neg (by omega)]; simp [add_plain]
      rw [e] at this; exact this
    have hacc := hide (acc_room w.drew cs hle 2 rfl)
    have HW := hide hw1
    clear hw1
    go_enter Try.func113, Try.ntmps113
    go_wp2_with (at_builtin; refine Lib.wpList_append_run _ rfl (.tmp 20) (.tmp 21) _ _ rfl _ _ rfl rfl _ _ hr ?_)
    go_ret
    rw [HW.out]
    exact ⟨by (repeat (first | with_reducible exact Below.refl _ _ | with_reducible assumption | (with_reducible refine bl_set ?_ (by simp; try omega) _) | (with_reducible refine bl_alloc ?_ _) | (with_reducible refine bl_dn ?_ _) | (with_reducible refine bl_drew ?_) | (with_reducible refine bl_then ?_ (by with_reducible assumption)))), _, rfl, hacc.out⟩
/-- how many cells rows have together -/
def lenSum (rs : List (List Int)) : Nat := (rs.map List.length).sum
theorem lenSum_snoc (rs : List (List Int)) (r : List Int) : lenSum (rs ++ [r]) = lenSum rs + r.length := by simp [lenSum]
theorem lenSum_flat : ∀ rs : List (List Int), rs.flatten.length = lenSum rs
  | [] => rfl
  | r :: rs => by rw [List.flatten_cons, List.length_append, lenSum_flat rs]; simp [lenSum]
theorem lenSum_le {rs : List (List Int)} {n : Nat} (h : ∀ r ∈ rs, r.length ≤ n) : lenSum rs ≤ rs.length * n := by rw [← lenSum_flat]; exact flat_len h
set_option maxRecDepth 100000 in
set_option maxHeartbeats 2000000 in
theorem concat_any (rs : List (List Int)) (R : Option Addr) (c : Nat) (hn : rs.length ≤ 400) (hl : ∀ r ∈ rs, r.length ≤ 400) (w : World) (hR : Rs w R rs) :
    Calls Try.prog 88 #[.slice R rs.length c] w fun e w' => Below w.heap.size w w' ∧ ∃ (V : Option Addr) (cv : Nat), e = .returned (.slice V rs.flatten.length cv) ∧ Sl w' V rs.flatten ∧ (∀ g o, V = some ⟨g, o, none⟩ → w.heap.size ≤ g) ∧ rs.flatten.length ≤ cv := by
  have HL := hide hl; have HR := hide hR
  have HS : Hid (∀ i, lenSum (rs.take i) ≤ 160000) := by
    intro i
    have h1 := lenSum_le (rs := rs.take i) (n := 400) (fun r hr => hl r (List.mem_of_mem_take hr))
    have h2 : (rs.take i).length ≤ 400 := by rw [List.length_take]; omega
    have := Nat.mul_le_mul_right 400 h2
    omega
  clear hl hR
  go_enter Try.func88, Try.ntmps88
  go_wp2
  go_loop [3, 11] (fun s3 s11 => ∃ (i : Nat), i ≤ rs.length ∧ s3 = .int .i64 (lenSum (rs.take i) : Nat) ∧ s11 = .int .i64 i) (fun _ s11 => rs.length - (intOf s11).toNat)
  case atStart => exact ⟨0, Nat.zero_le _, rfl, rfl⟩
  case round =>
    obtain ⟨i, hi, rfl, rfl⟩ := hrel
    by_cases hlt : i < rs.length
    · obtain ⟨b, o, row, B, d, rfl, hbk, hcx, hsr, hcr, hrow⟩ := HR.out.at_ hlt
      have HT : Hid (lenSum (rs.take (i + 1)) = lenSum (rs.take i) + row.length) := by show _ = _; rw [take_at hlt hrow.out, lenSum_snoc]
      have hb := HS.out (i + 1)
      rw [HT.out] at hb
      have hil : (i : Int) < (rs.length : Int) := by omega
      obtain ⟨s, hs⟩ : ∃ s, lenSum (rs.take i) = s := ⟨_, rfl⟩
      rw [hs] at HT hb ⊢
      have e1 : IntKind.i64.wrap ((s : Int) + (row.length : Int)) = (s : Int) + (row.length : Int) := IntWalk.i64_in _ (by omega)
      have n1 : decide ((s : Int) + (row.length : Int) < 0) = false := by simp; omega
      clear hs hcr hb
      go_wp2
      all_goals
        go_round
        case rel => exact ⟨i + 1, by omega, by rw [HT.out]; go_num, by go_num⟩
        case measure => simp [intOf]; omega
    · have e : i = rs.length := by omega
      subst e
      have hb := HS.out rs.length
      rw [List.take_of_length_le (Nat.le_refl _)] at hb ⊢
      obtain ⟨s, hs⟩ : ∃ s, lenSum rs = s := ⟨_, rfl⟩
      rw [hs] at hb ⊢
      clear hs
      go_wp2_with fail
      refine (grow_any s (by omega) _).mono ?_
      rintro e w1 ⟨hg1, v0, rfl, hac0⟩
      have hac0 := hide hac0
      have hb1 := hide hg1
      clear hg1
      go_wp2
      go_loopw [6, 27] (fun s6 s27 wr => ∃ (i : Nat) (v : Value), i ≤ rs.length ∧ v = s6 ∧ s27 = .int .i64 i ∧ Hid (Acc wr w.heap.size v (rs.take i).flatten) ∧ Hid (Below w.heap.size w wr)) (fun _ s27 _ => rs.length - (intOf s27).toNat)
      case atStart => exact ⟨0, v0, Nat.zero_le _, rfl, rfl, hac0, hb1⟩
      case round =>
        obtain ⟨i, v, hi, rfl, rfl, hac, hbl⟩ := hrel
        by_cases hlt : i < rs.length
        · obtain ⟨b, o, row, B, d, rfl, hbk, hcx, hsr, hcr, hrow⟩ := (HR.out.below hbl.out).at_ hlt
          have HT : Hid ((rs.take i).flatten ++ row = (rs.take (i + 1)).flatten) := by show _ = _; rw [take_at hlt hrow.out]; simp
          have hil : (i : Int) < (rs.length : Int) := by omega
          have hlen : (rs.take i).flatten.length + row.length ≤ 1000000 := by
            have h1 := HS.out (i + 1)
            rw [← lenSum_flat, ← HT.out, List.length_append] at h1; omega
          have hzr : w.heap.size ≤ wr.heap.size := hbl.out.size
          clear hcr
          go_wp2_with (at_builtin; refine wpList_app64 rfl (.tmp 31) (.tmp 32) rfl w.heap.size v (rs.take i).flatten rfl hac.out B d row.length row rfl rfl hsr.out hlen hzr ?_; intro v2 w7 hac7 hg7; have hb7 := hide (below_gb hbl.out hg7 hzr (fun k hk => hac.out.own_ge k hk)); have hac7 := hide hac7; clear hg7)
          go_roundw
          case rel => exact ⟨i + 1, v2, by omega, rfl, by go_num, (by rw [← HT.out]; exact hac7), hb7⟩
          case measure => simp [intOf]; omega
        · have e : i = rs.length := by omega
          subst e
          have hac := hac.out
          rw [List.take_of_length_le (Nat.le_refl _)] at hac
          obtain ⟨V, cv, rfl, hsl, hge, hcp⟩ := hac.sl
          have hsl := hide hsl
          clear hac
          go_wp2
          go_ret
          exact ⟨hbl.out, V, cv, rfl, hsl.out, hge, hcp⟩
end Ar
end Go.Proofs.Ytfpnafeildigaaa
/-
Contracts of chapter 11: folds.Scan.
-/
set_option linter.unusedSimpArgs false
set_option linter.unusedVariables false
namespace Go.Proofs.Ytfpnafeildigaaa
namespace Ar
open Go.RowKit Sc
theorem scan_rows {a : Arr} {yss : List (List Int)} (h : chk a = 0) (hr : a.r ≠ 0) (hm : mapG scanRow (rowsL a) = (0, yss)) : yss.length ≤ 400 ∧ ∀ r ∈ yss, r.length ≤ 400 := by
  have h0 : (mapG scanRow (rowsL a)).1 = 0 := by rw [hm]
  have e := mapG_map scanRow (rowsL a) h0
  rw [hm] at e
  have e : yss = (rowsL a).map (fun row => (scanRow row).1) := e
  refine ⟨?_, fun r hr' => ?_⟩
  · rw [e, List.length_map]; obtain ⟨m, n, _, _, h2, _, e⟩ := rowsL_nat h hr; rw [e]; simpa using h2
  · rw [e] at hr'
    obtain ⟨row, hrow, rfl⟩ := List.mem_map.1 hr'
    have h1 := (mapG_iff scanRow (rowsL a)).1 h0 row hrow
    have h2 : scanE 0 row = (0, (scanE 0 row).2) := Prod.ext h1 rfl
    show (scanE 0 row).2.length ≤ 400
    rw [scanE_len h2]
    exact (rowsL_mem h hr hrow).1
set_option maxRecDepth 100000 in
theorem fscan_bad (a : Arr) (A : Option Addr) (c : Nat) (hla : a.xs.length ≤ 9223372036854775807) (f0 : Fits a.l0) (f1 : Fits a.l1) (w : World) (hs : Sl w A a.xs) (h : chkF true a ≠ 0) : Calls Try.prog 44 #[.agg #[.int .i64 a.k, .int .i64 a.r, .int .i64 a.l0, .int .i64 a.l1, .slice A a.xs.length c]] w (ArrRet w (chkF true a, .zero)) := by
  have n1 : (chkF true a != 0) = true := by simpa using h
  clear h
  go_enter Try.func44, Try.ntmps44
  go_wp2_with fail
  refine (fcheck_any true a A c hla f0 f1 _ (hs.below (by (repeat (first | with_reducible exact Below.refl _ _ | with_reducible assumption | (with_reducible refine bl_set ?_ (by simp; try omega) _) | (with_reducible refine bl_alloc ?_ _) | (with_reducible refine bl_dn ?_ _) | (with_reducible refine bl_drew ?_) | (with_reducible refine bl_then ?_ (by with_reducible assumption))))))).mono ?_
  rintro e w1 ⟨rfl, hg1⟩
  obtain ⟨hc1, hf1, hz1⟩ := bcell hg1
  (have z0_w1 : w.heap.size < w1.heap.size := by have := hg1.size; simp at this; omega); (have z1_w1 : w.heap.size + 1 < w1.heap.size := by have := hg1.size; simp at this; omega)
  go_wp2
  refine bodyPost_ret (v := .tuple #[.agg #[.int .i64 0, .int .i64 0, .int .i64 0, .int .i64 0, .slice none 0 0], .int .i64 (chkF true a)]) (by simp [results, Try.results44, go_sem, *]) rfl (arr_zero _ (by (repeat (first | with_reducible exact Below.refl _ _ | with_reducible assumption | (with_reducible refine bl_set ?_ (by simp; try omega) _) | (with_reducible refine bl_alloc ?_ _) | (with_reducible refine bl_dn ?_ _) | (with_reducible refine bl_drew ?_) | (with_reducible refine bl_then ?_ (by with_reducible assumption))))))
set_option maxRecDepth 100000 in
set_option maxHeartbeats 2000000 in
theorem fscan_main (a : Arr) (A : Option Addr) (c : Nat) (hla : a.xs.length ≤ 9223372036854775807) (f0 : Fits a.l0) (f1 : Fits a.l1) (hx : ∀ x ∈ a.xs, Fits x) (hcA : a.xs.length ≤ c) (w : World) (hs : Sl w A a.xs) (h : chkF true a = 0) :
    Calls Try.prog 44 #[.agg #[.int .i64 a.k, .int .i64 a.r, .int .i64 a.l0, .int .i64 a.l1, .slice A a.xs.length c]] w (ArrRet w (extScan a)) := by
  obtain ⟨hk, hki, hr⟩ := chkF_ok h
  have H := hide h; have HK := hide hk; have HR := hide hr; have HX := hide hx; have HK1 := hide (hki rfl)
  obtain ⟨er, yss, hm⟩ : ∃ er ys, mapG scanRow (rowsL a) = (er, ys) := ⟨_, _, rfl⟩
  have HM := hide hm
  clear h hk hr hx hki hm
  go_enter Try.func44, Try.ntmps44
  go_wp2_with fail
  refine (fcheck_any true a A c hla f0 f1 _ (hs.below (by (repeat (first | with_reducible exact Below.refl _ _ | with_reducible assumption | (with_reducible refine bl_set ?_ (by simp; try omega) _) | (with_reducible refine bl_alloc ?_ _) | (with_reducible refine bl_dn ?_ _) | (with_reducible refine bl_drew ?_) | (with_reducible refine bl_then ?_ (by with_reducible assumption))))))).mono ?_
  rw [H.out]
  rintro e w1 ⟨rfl, hg1⟩
  have st1 := hide ((((St.init w).box c hs).alloc _).below hg1)
  have rb1 := hide ((RBox.new _ _).below hg1)
  have af1 : Hid (∀ i, w1.frozen? ⟨w.heap.size, i, none⟩ = false) := by intro i; exact (hg1.frozen (p := ⟨w.heap.size, i, none⟩) (by simp; omega)).trans ((fro_alloc _ _ _ _ (by simp)).trans (by simp [go_sem]))
  simp only [World.size_alloc] at rb1
  clear hg1
  obtain ⟨hbw, ⟨⟨a0, a1, a2, a3, a4⟩, sa, za⟩, _⟩ := st1.out
  go_wp2_with fail
  refine (each_sums a A c hcA HX.out _ (sa.below (by (repeat (first | with_reducible exact Below.refl _ _ | with_reducible assumption | (with_reducible refine bl_set ?_ (by simp; try omega) _) | (with_reducible refine bl_alloc ?_ _) | (with_reducible refine bl_dn ?_ _) | (with_reducible refine bl_drew ?_) | (with_reducible refine bl_then ?_ (by with_reducible assumption)))))) HK.out HR.out).mono ?_
  rw [HM.out]
  rintro e w2 ⟨hg2, R, rc, rfl, hRs⟩
  have st2 := hide (st1.out.below hg2)
  have rb2 := hide (rb1.out.below hg2)
  have af2 : Hid (∀ i, w2.frozen? ⟨w.heap.size, i, none⟩ = false) := by intro i; exact (hg2.frozen (p := ⟨w.heap.size, i, none⟩) za).trans (af1.out i)
  have hRs := hide hRs
  clear hbw hg2 af1 rb1; clear a0 a1 a2 a3 a4 sa za
  by_cases he : er = 0
  · subst he
    obtain ⟨hy1, hy2⟩ := scan_rows HK.out HR.out HM.out
    have HY := hide hy2
    have HE : Hid (extScan a = (0, ⟨1, a.r, a.l0, a.l1, yss.flatten⟩)) := extScan_ok H.out HM.out
    clear hy2
    obtain ⟨hbw, ⟨⟨a0, a1, a2, a3, a4⟩, sa, za⟩, _⟩ := st2.out
    go_wp2_with fail
    refine (concat_any yss R rc hy1 HY.out _ hRs.out).mono ?_
    rintro e w3 ⟨hg3, V, cv, rfl, hsV, hge, hcp⟩
    have st3 := hide (st2.out.below hg3)
    have rb3 := hide (rb2.out.below hg3)
    have af3 : Hid (∀ i, w3.frozen? ⟨w.heap.size, i, none⟩ = false) := by intro i; exact (hg3.frozen (p := ⟨w.heap.size, i, none⟩) za).trans (af2.out i)
    have z2 : w.heap.size + 1 < w2.heap.size := rb2.out.2.2
    have hsV := hide hsV
    clear hbw hg3 af2 rb2; clear a0 a1 a2 a3 a4 sa za
    obtain ⟨hbw, ⟨⟨a0, a1, a2, a3, a4⟩, sa, za⟩, _⟩ := st3.out
    obtain ⟨⟨r0, r1, r2, r3, r4⟩, rf, zr⟩ := rb3.out
    have af := af3.out
    rw [HK1.out] at a0
    go_wp2
    rw [HE.out]
    refine bodyPost_ret (v := .tuple #[.agg #[.int .i64 1, .int .i64 a.r, .int .i64 a.l0, .int .i64 a.l1, .slice V yss.flatten.length cv], .int .i64 0]) (by simp [results, Try.results44, go_sem, *]) rfl ⟨by (repeat (first | with_reducible exact Below.refl _ _ | with_reducible assumption | (with_reducible refine bl_set ?_ (by simp; try omega) _) | (with_reducible refine bl_alloc ?_ _) | (with_reducible refine bl_dn ?_ _) | (with_reducible refine bl_drew ?_) | (with_reducible refine bl_then ?_ (by with_reducible assumption)))), V, cv, rfl, ?_, ?_, hcp⟩
    · repeat (refine Sl.set (B := w2.heap.size) ?_ hge (by simp; omega) _)
      exact hsV.out
    · intro g o e; have := hge g o e; omega
  · have c1 : (er != 0) = true := by simpa using he
    have HE : Hid (extScan a = (er, .zero)) := by show _ = _; rw [extScan_err H.out (by rw [HM.out]; exact he), HM.out]
    clear he
    have hbw := st2.out.1
    obtain ⟨⟨r0, r1, r2, r3, r4⟩, rf, zr⟩ := rb2.out
    go_wp2
    rw [HE.out]
    refine bodyPost_ret (v := .tuple #[.agg #[.int .i64 0, .int .i64 0, .int .i64 0, .int .i64 0, .slice none 0 0], .int .i64 er]) (by simp [results, Try.results44, go_sem, *]) rfl (arr_zero _ (by (repeat (first | with_reducible exact Below.refl _ _ | with_reducible assumption | (with_reducible refine bl_set ?_ (by simp; try omega) _) | (with_reducible refine bl_alloc ?_ _) | (with_reducible refine bl_dn ?_ _) | (with_reducible refine bl_drew ?_) | (with_reducible refine bl_then ?_ (by with_reducible assumption))))))
theorem fscan_any (a : Arr) (A : Option Addr) (c : Nat) (hla : a.xs.length ≤ 9223372036854775807) (f0 : Fits a.l0) (f1 : Fits a.l1) (hx : ∀ x ∈ a.xs, Fits x) (hcA : a.xs.length ≤ c) (w : World) (hs : Sl w A a.xs) : Calls Try.prog 44 #[.agg #[.int .i64 a.k, .int .i64 a.r, .int .i64 a.l0, .int .i64 a.l1, .slice A a.xs.length c]] w (ArrRet w (extScan a)) := by
  by_cases h : chkF true a = 0
  · exact fscan_main a A c hla f0 f1 hx hcA w hs h
  · rw [extScan_bad h]; exact fscan_bad a A c hla f0 f1 w hs h
end Ar
end Go.Proofs.Ytfpnafeildigaaa
/-
awake of chapter 11: it answers true.
-/
set_option linter.unusedSimpArgs false
set_option linter.unusedVariables false
namespace Go.Proofs.Ytfpnafeildigaaa
namespace Ar
open Go.RowKit Sc
theorem is11_any (a b : Arr) (A B : Option Addr) (c d : Nat) (e : Int) (hla : a.xs.length ≤ 9223372036854775807) (hlb : b.xs.length ≤ 9223372036854775807) (w : World) (ha : Sl w A a.xs) (hb : Sl w B b.xs) :
    Calls Try.prog 54 #[.agg #[.int .i64 a.k, .int .i64 a.r, .int .i64 a.l0, .int .i64 a.l1, .slice A a.xs.length c], .int .i64 e, .agg #[.int .i64 b.k, .int .i64 b.r, .int .i64 b.l0, .int .i64 b.l1, .slice B b.xs.length d]] w fun e' w' => e' = .returned (.bool (e == 0 && same a b)) ∧ Below w.heap.size w w' := by
  by_cases h : e = 0
  · have n1 : (e == 0) = true := by simpa using h
    clear h
    go_enter Try.func54, Try.ntmps54
    go_wp2_with (go_at_call 35; refine (same_any a b A B c d hla hlb _ (ha.below (by (repeat (first | with_reducible exact Below.refl _ _ | with_reducible assumption | (with_reducible refine bl_set ?_ (by simp; try omega) _) | (with_reducible refine bl_alloc ?_ _) | (with_reducible refine bl_dn ?_ _) | (with_reducible refine bl_drew ?_) | (with_reducible refine bl_then ?_ (by with_reducible assumption)))))) (hb.below (by (repeat (first | with_reducible exact Below.refl _ _ | with_reducible assumption | (with_reducible refine bl_set ?_ (by simp; try omega) _) | (with_reducible refine bl_alloc ?_ _) | (with_reducible refine bl_dn ?_ _) | (with_reducible refine bl_drew ?_) | (with_reducible refine bl_then ?_ (by with_reducible assumption))))))).mono ?_; rintro e w' ⟨rfl, hg⟩)
    go_ret
    exact ⟨by rw [n1]; rfl, by (repeat (first | with_reducible exact Below.refl _ _ | with_reducible assumption | (with_reducible refine bl_set ?_ (by simp; try omega) _) | (with_reducible refine bl_alloc ?_ _) | (with_reducible refine bl_dn ?_ _) | (with_reducible refine bl_drew ?_) | (with_reducible refine bl_then ?_ (by with_reducible assumption))))⟩
  · have n1 : (e == 0) = false := by simpa using h
    clear h
    go_enter Try.func54, Try.ntmps54
    go_wp2
    go_ret
    exact ⟨by rw [n1]; rfl, by (repeat (first | with_reducible exact Below.refl _ _ | with_reducible assumption | (with_reducible refine bl_set ?_ (by simp; try omega) _) | (with_reducible refine bl_alloc ?_ _) | (with_reducible refine bl_dn ?_ _) | (with_reducible refine bl_drew ?_) | (with_reducible refine bl_then ?_ (by with_reducible assumption))))⟩
theorem is11_yes (a b : Arr) (A B : Option Addr) (c d : Nat) (hs : same a b = true) (hla : a.xs.length ≤ 9223372036854775807) (hlb : b.xs.length ≤ 9223372036854775807) (w : World) (ha : Sl w A a.xs) (hb : Sl w B b.xs) :
    Calls Try.prog 54 #[.agg #[.int .i64 a.k, .int .i64 a.r, .int .i64 a.l0, .int .i64 a.l1, .slice A a.xs.length c], .int .i64 0, .agg #[.int .i64 b.k, .int .i64 b.r, .int .i64 b.l0, .int .i64 b.l1, .slice B b.xs.length d]] w fun e' w' => e' = .returned (.bool true) ∧ Below w.heap.size w w' :=
  (is11_any a b A B c d 0 hla hlb w ha hb).mono fun _ _ ⟨h, hg⟩ => ⟨by rw [h, hs]; rfl, hg⟩
/-- an array and an error that are answered, with the slice's capacity -/
def RetC (w : World) (er : Int) (R : Arr) (e : Ending) (w' : World) : Prop :=
  Below w.heap.size w w' ∧ ∃ (C : Option Addr) (n : Nat), e = .returned (.tuple #[.agg #[.int .i64 R.k, .int .i64 R.r, .int .i64 R.l0, .int .i64 R.l1, .slice C R.xs.length n], .int .i64 er]) ∧ Sl w' C R.xs ∧ (∀ g o, C = some ⟨g, o, none⟩ → w.heap.size ≤ g) ∧ R.xs.length ≤ n
theorem fsum_go (a : Arr) (A : Option Addr) {c : Nat} (ha : Hid (Fine a)) (hc : Hid (a.xs.length ≤ c)) {er : Int} {R : Arr} (hE : Hid (extSum a = (er, R))) (w : World) (hs : Sl w A a.xs) : Calls Try.prog 42 #[.agg #[.int .i64 a.k, .int .i64 a.r, .int .i64 a.l0, .int .i64 a.l1, .slice A a.xs.length c]] w (RetC w er R) := by
  have h := fsum_any a A c (Nat.le_trans ha.out.1 (by decide)) ha.out.2.1 ha.out.2.2.1 ha.out.2.2.2 hc.out w hs
  rw [hE.out] at h
  exact h
theorem fscan_go (a : Arr) (A : Option Addr) {c : Nat} (ha : Hid (Fine a)) (hc : Hid (a.xs.length ≤ c)) {er : Int} {R : Arr} (hE : Hid (extScan a = (er, R))) (w : World) (hs : Sl w A a.xs) : Calls Try.prog 44 #[.agg #[.int .i64 a.k, .int .i64 a.r, .int .i64 a.l0, .int .i64 a.l1, .slice A a.xs.length c]] w (RetC w er R) := by
  have h := fscan_any a A c (Nat.le_trans ha.out.1 (by decide)) ha.out.2.1 ha.out.2.2.1 ha.out.2.2.2 hc.out w hs
  rw [hE.out] at h
  exact h
theorem fleast_go (a : Arr) (A : Option Addr) {c : Nat} (ha : Hid (Fine a)) (hc : Hid (a.xs.length ≤ c)) {er : Int} {R : Arr} (hE : Hid (extEnd 31 a = (er, R))) (w : World) (hs : Sl w A a.xs) : Calls Try.prog 46 #[.agg #[.int .i64 a.k, .int .i64 a.r, .int .i64 a.l0, .int .i64 a.l1, .slice A a.xs.length c]] w (RetC w er R) := by
  have h := fleast_any a A c (Nat.le_trans ha.out.1 (by decide)) ha.out.2.1 ha.out.2.2.1 hc.out w hs
  rw [hE.out] at h
  exact h
theorem fmost_go (a : Arr) (A : Option Addr) {c : Nat} (ha : Hid (Fine a)) (hc : Hid (a.xs.length ≤ c)) {er : Int} {R : Arr} (hE : Hid (extEnd 32 a = (er, R))) (w : World) (hs : Sl w A a.xs) : Calls Try.prog 48 #[.agg #[.int .i64 a.k, .int .i64 a.r, .int .i64 a.l0, .int .i64 a.l1, .slice A a.xs.length c]] w (RetC w er R) := by
  have h := fmost_any a A c (Nat.le_trans ha.out.1 (by decide)) ha.out.2.1 ha.out.2.2.1 hc.out w hs
  rw [hE.out] at h
  exact h
theorem fcount_go (a : Arr) (A : Option Addr) {c : Nat} (ha : Hid (Fine a)) (hc : Hid (a.xs.length ≤ c)) {er : Int} {R : Arr} (hE : Hid (extCount a = (er, R))) (w : World) (hs : Sl w A a.xs) : Calls Try.prog 50 #[.agg #[.int .i64 a.k, .int .i64 a.r, .int .i64 a.l0, .int .i64 a.l1, .slice A a.xs.length c]] w (RetC w er R) := by
  have h := fcount_any a A c (Nat.le_trans ha.out.1 (by decide)) ha.out.2.1 ha.out.2.2.1 ha.out.2.2.2 hc.out w hs
  rw [hE.out] at h
  exact h
theorem fine_lit {a : Arr} (h1 : a.xs.length ≤ 100000) (h2 : -9223372036854775808 ≤ a.l0 ∧ a.l0 ≤ 9223372036854775807) (h3 : -9223372036854775808 ≤ a.l1 ∧ a.l1 ≤ 9223372036854775807) (h4 : ∀ x ∈ a.xs, -9223372036854775808 ≤ x ∧ x ≤ 9223372036854775807) : Fine a := ⟨h1, h2, h3, h4⟩
abbrev mat (m n : Int) (xs : List Int) : Arr := ⟨1, 2, m, n, xs⟩
theorem fw1 : extSum (mat 2 3 [1, 2, 3, 4, 5, 6]) = (0, vec 1 [6, 15]) := by rfl
theorem fw2 : extScan (mat 2 3 [1, 2, 3, 4, 5, 6]) = (0, mat 2 3 [1, 3, 6, 4, 9, 15]) := by rfl
theorem fw3 : extEnd 31 (vec 1 [3, 1, 2]) = (0, sca 1 1) := by rfl
theorem fw4 : extEnd 32 (vec 1 []) = (13, .zero) := by rfl
theorem fw5 : extCount (vec 2 [97, 98, 99]) = (0, sca 1 3) := by rfl
theorem fw6 : extSum (vec 1 [9223372036854775807, 1, -1]) = (12, .zero) := by rfl
theorem fw7 : extSum (mat 2 0 []) = (0, vec 1 [0, 0]) := by rfl
end Ar
end Go.Proofs.Ytfpnafeildigaaa
