/-
Chapter 15: slices.Sort and slices.Compact of strings.
-/
import Derived.Test.YtpkldfkmokeamaaGreatDoorNu1
import Derived.Test.YtpkldfkmokeamaaGreatDoorShelf2
import Derived.Sort.OwnSorted
import Derived.Lib.OwnBridge
import Derived.Shelf.SortM.SortNone
import Derived.Shelf.SortM.Plain
import Derived.Shelf.SlicesG.CompactS
set_option linter.unusedSimpArgs false
set_option linter.unusedVariables false
namespace Go.Proofs.YtpkldfkmokeamaaGreatDoor
namespace Pr
open Go Go.RowKit En
open Ex Rf Go.Sort
def bsV (u : List UInt8) : SV := .v (encStr u)
def bsS : SV → List UInt8
  | .v (.string s) => s.data.toList
  | _ => []
def bsL (cs : List SV) : List (List UInt8) := cs.map bsS
theorem bsL_v (us : List (List UInt8)) : bsL (us.map bsV) = us := by
  rw [bsL, List.map_map]
  conv => rhs; rw [← List.map_id us]
  exact List.map_congr_left fun u _ => rfl
theorem dens_bs (us : List (List UInt8)) : dens (us.map bsV) = us.map encStr := by rw [dens_eq, List.map_map]; rfl
def sortU (us : List (List UInt8)) : List (List UInt8) := us.mergeSort fun x y => decide (x ≤ y)
def soC (A : Option Addr) (c n : Nat) : Ch → Prop
  | .rowV A' c' _ z n' cs => A = A' ∧ c = c' ∧ z = 1 ∧ n = n' ∧ n ≤ 100000 ∧ cs = (bsL cs).map bsV
  | _ => False
def soU : Ch → List (List UInt8)
  | .rowV _ _ _ _ _ cs => bsL cs
  | _ => []
def soE : Ch → TypeId
  | .rowV _ _ e _ _ _ => e
  | _ => 0
theorem soC_inv {A : Option Addr} {c n : Nat} {x : Ch} (h : soC A c n x) : n ≤ 100000 ∧ x = .rowV A c (soE x) 1 n ((soU x).map bsV) := by
  unfold soC at h
  split at h
  · obtain ⟨rfl, rfl, rfl, rfl, h1, h2⟩ := h
    exact ⟨h1, by simp only [soE, soU]; rw [← h2]⟩
  · exact h.elim
def spSort : Spc
  | [.g k A n c], H, _ => .app (soC A c n (H k)) k fun _ _ => (.tup [], [(k, .rowV A c (soE (H k)) 1 n ((sortU (soU (H k))).map bsV))])
  | _, _, _ => .bad
theorem spSort_q {k n c nx : Nat} {A : Option Addr} {H : Nat → Ch} : spSort [.g k A n c] H nx = .app (soC A c n (H k)) k fun _ _ => (.tup [], [(k, .rowV A c (soE (H k)) 1 n ((sortU (soU (H k))).map bsV))]) := rfl
theorem soC_q {A : Option Addr} {c n : Nat} {e : TypeId} {us : List (List UInt8)} : soC A c n (.rowV A c e 1 n (us.map bsV)) = (n ≤ 100000) := by
  simp only [soC, true_and, bsL_v, and_true]
theorem soU_q {A : Option Addr} {c n z : Nat} {e : TypeId} {us : List (List UInt8)} : soU (.rowV A c e z n (us.map bsV)) = us := bsL_v us
theorem soE_q {A : Option Addr} {c n z : Nat} {e : TypeId} {cs : List SV} : soE (.rowV A c e z n cs) = e := rfl
theorem stp_row {O : Nat → Prop} {w0 w w' : World} {hp : Hp} {k g : Nat} {c : Ch} (H : HH w0 O hp w) (hm : mutb (lookH hp k) = true) (hg : foot (lookH hp k) g) (h : w.grownBy w' (some g)) (hh : Hold w0.heap.size w' c) (hf : ∀ b, foot c b → b = g) : Stp w0 hp w (some k) [(k, c)] w' := by
  have hk : ∀ j, has [(k, c)] j = true → j = k := by
    intro j h
    simp only [has] at h
    cases e : (k == j)
    · rw [e] at h; cases h
    · exact (eq_of_beq e).symm
  have hl : lookH [(k, c)] k = c := by simp [lookH]
  refine ⟨h.os, h.tape, h.output, h.size, fun b hb hn => h.block b hb ?_, fun j hj => ?_, fun j hj => ?_, fun j hj b hb => ?_, fun i j hij hi hj => ?_⟩
  · intro e
    cases e
    exact hn k rfl hg
  · cases hj
    exact ⟨hm, by simp [has]⟩
  · cases hk j hj; rw [hl]; exact hh
  · cases hk j hj
    rw [hl] at hb
    cases hf b hb
    exact .inr ⟨k, hg, .inl ⟨hm, by simp [has]⟩⟩
  · exact absurd ((hk i hi).trans (hk j hj).symm) hij
theorem spSort_ok : SpecOk Tryz.prog 82 spSort := by
  intro args hp nx w0 O w H hv
  unfold spSort at hv ⊢
  split at hv
  · next k A n c =>
    have hv : soC A c n (lookH hp k) := hv
    obtain ⟨hn, hx⟩ := soC_inv hv
    have hk := H.hold k
    rw [hx] at hk
    generalize soU (lookH hp k) = us at hx hk ⊢
    generalize soE (lookH hp k) = e at hx hk ⊢
    obtain ⟨h1, h2⟩ := hk
    rw [dens_bs, List.length_map, Nat.mul_one] at h1
    have hlen : (sortU us).length = us.length := by simp [sortU]
    rcases h2 with ⟨e0, h0⟩ | ⟨g, cap, cur, e0, hb, hg, g1, g2, g3, g4⟩
    · cases e0
      have hus : us = [] := List.eq_nil_of_length_eq_zero h1
      subst hus
      refine (AnyM.slices_Sort_string_none laysSort none 0 w).mono ?_
      rintro e w' ⟨rfl, rfl⟩
      refine ⟨⟨0, none, 0, none, 0, mz⟩, rfl, Stp.put (by rw [hx]; rfl) rfl rfl rfl rfl (fun _ _ => rfl) ⟨by rw [dens_bs, List.length_map]; simp [sortU], .inl ⟨rfl, rfl⟩⟩ ?_⟩
      rintro b ⟨a, ha, _⟩; cases ha
    · cases e0
      rw [dens_bs, Nat.mul_one] at g4
      have hgl : g < w.heap.size := (Array.getElem?_eq_some_iff.1 hg).1
      subst h1
      refine (AnyM.slices_Sort_string laysSort g 0 c us w (holds_of_block hg g4) hgl (by omega)).mono ?_
      rintro e' w' ⟨rfl, m, os, rfl⟩
      refine ⟨⟨0, none, 0, none, 0, mz⟩, rfl, stp_row H (g := g) (by rw [hx]; rfl) (by rw [hx]; exact ⟨_, rfl, rfl⟩) (grownBy_sorted _) ?_ ?_⟩
      · have := ownsRow_sorted (n := m) (os := os) (ts := sortU us) hlen hb hg g1 g2 g3
        show World.ownsRow _ _ _ _ _ _ _
        rw [dens_bs]
        exact this
      · rintro b ⟨a, ha, rfl⟩; cases ha; rfl
  · exact hv.elim
def spComp : Spc
  | [.g k A n c], H, _ => .app (soC A c n (H k)) k fun _ _ => (.g k A (Lib.compact (soU (H k))).length c, [(k, .rowV A c (soE (H k)) 1 (Lib.compact (soU (H k))).length ((Lib.compact (soU (H k))).map bsV))])
  | _, _, _ => .bad
theorem spComp_q {k n c nx : Nat} {A : Option Addr} {H : Nat → Ch} : spComp [.g k A n c] H nx = .app (soC A c n (H k)) k fun _ _ => (.g k A (Lib.compact (soU (H k))).length c, [(k, .rowV A c (soE (H k)) 1 (Lib.compact (soU (H k))).length ((Lib.compact (soU (H k))).map bsV))]) := rfl
theorem spComp_ok : SpecOk Tryz.prog 83 spComp := by
  intro args hp nx w0 O w H hv
  unfold spComp at hv ⊢
  split at hv
  · next k A n c =>
    have hv : soC A c n (lookH hp k) := hv
    obtain ⟨hn, hx⟩ := soC_inv hv
    have hk := H.hold k
    rw [hx] at hk
    generalize soU (lookH hp k) = us at hx hk ⊢
    generalize soE (lookH hp k) = e at hx hk ⊢
    have hk' := hk
    obtain ⟨h1, h2⟩ := hk
    rw [dens_bs, List.length_map, Nat.mul_one] at h1
    have hle := Lib.compact_length_le us
    rcases h2 with ⟨e0, h0⟩ | ⟨g, cap, cur, e0, hb, hg, g1, g2, g3, g4⟩
    · cases e0
      have hus : us = [] := List.eq_nil_of_length_eq_zero h1
      subst hus
      refine (AnyG.slices_Compact_string_empty laysCompact none 0 w).mono ?_
      rintro e w' ⟨rfl, rfl⟩
      refine ⟨⟨0, none, 0, none, 0, mz⟩, rfl, Stp.put (by rw [hx]; rfl) rfl rfl rfl rfl (fun _ _ => rfl) ⟨rfl, .inl ⟨rfl, rfl⟩⟩ ?_⟩
      rintro b ⟨a, ha, _⟩; cases ha
    · cases e0
      rw [dens_bs, Nat.mul_one] at g4
      subst h1
      refine (AnyG.slices_Compact_string laysCompact g 0 c us w (holds_of_block hg g4) (by omega) g1).mono ?_
      rintro e' w' ⟨rfl, m, rfl⟩
      refine ⟨⟨0, none, 0, none, 0, mz⟩, rfl, stp_row H (g := g) (by rw [hx]; rfl) (by rw [hx]; exact ⟨_, rfl, rfl⟩) ?_ ?_ ?_⟩
      · have := grownBy_sorted (w := w) (g := g) (n := m) (os := #[]) (Lib.compact us ++ List.replicate (us.length - (Lib.compact us).length) []).toArray
        rwa [grow_empty] at this
      · have h3 : w.ownsRow w0.heap.size e 1 (.slice (some ⟨g, 0, none⟩) us.length c) us.length (us.map encStr) := by
          have : w.ownsRow w0.heap.size e 1 (.slice (some ⟨g, 0, none⟩) us.length c) us.length (dens (us.map bsV)) := hk'
          rwa [dens_bs] at this
        have h4 := Lib.ownsRow_putRow (q := m) (ys := Lib.compact us ++ List.replicate (us.length - (Lib.compact us).length) []) (k := (Lib.compact us).length) h3 (by simp; omega) hle
        rw [List.take_left' rfl] at h4
        show World.ownsRow _ _ _ _ _ _ _
        rw [dens_bs]
        exact h4
      · rintro b ⟨a, ha, rfl⟩; cases ha; rfl
  · exact hv.elim
theorem at_arr {us : List (List UInt8)} {j : Nat} (h : j < us.length) : us.toArray[j]! = us[j] := by simp [getElem!_pos, h]
theorem mem_compact {us : List (List UInt8)} : ∀ x, x ∈ Lib.compact us ↔ x ∈ us := by
  intro x
  constructor
  · intro h
    obtain ⟨j, hj, rfl⟩ := List.mem_map.1 h
    have hj := List.mem_range.1 (List.mem_filter.1 hj).1
    rw [at_arr hj]; exact List.getElem_mem hj
  · intro h
    obtain ⟨j, hj, rfl⟩ := List.mem_iff_getElem.1 h
    clear h
    induction j with
    | zero =>
      refine List.mem_map.2 ⟨0, List.mem_filter.2 ⟨List.mem_range.2 hj, by simp [Lib.keeps]⟩, at_arr hj⟩
    | succ j ih =>
      by_cases e : us[j + 1] = us[j]
      · rw [e]; exact ih (by omega)
      · refine List.mem_map.2 ⟨j + 1, List.mem_filter.2 ⟨List.mem_range.2 hj, ?_⟩, at_arr hj⟩
        simp only [Lib.keeps, decide_eq_true_eq]
        right
        rw [at_arr hj, Nat.add_sub_cancel, at_arr (by omega)]
        exact e
theorem lt_of_le_ne {x y : List UInt8} (h : x ≤ y) (hn : x ≠ y) : x < y := by
  by_cases e : x < y
  · exact e
  · exact absurd (List.le_antisymm h (List.not_lt.1 e)) hn
theorem compact_lt {us : List (List UInt8)} (h : us.Pairwise (· ≤ ·)) : (Lib.compact us).Pairwise (· < ·) := by
  have hle : ∀ i j (hi : i < us.length) (hj : j < us.length), i ≤ j → us[i] ≤ us[j] := by
    intro i j hi hj hij
    by_cases e : i = j
    · subst e; exact List.le_refl _
    · exact List.pairwise_iff_getElem.1 h i j hi hj (by omega)
  rw [Lib.compact, Lib.compactUpTo, List.pairwise_map]
  refine (List.Pairwise.filter _ List.pairwise_lt_range).imp_of_mem fun {i j} hi hj hij => ?_
  obtain ⟨hj1, hj2⟩ := List.mem_filter.1 hj
  have hjl := List.mem_range.1 hj1
  have hjl : j < us.length := by simpa using hjl
  simp only [Lib.keeps, decide_eq_true_eq] at hj2
  rw [at_arr hjl, at_arr (by omega)]
  rcases hj2 with h0 | h0
  · omega
  · rw [at_arr hjl, at_arr (by omega)] at h0
    have h1 := hle i (j - 1) (by omega) (by omega) (by omega)
    have h2 := lt_of_le_ne (hle (j - 1) j (by omega) hjl (by omega)) (fun e => h0 e.symm)
    exact List.lt_of_le_of_lt h1 h2
theorem sort_le (us : List (List UInt8)) : (sortU us).Pairwise (· ≤ ·) := by
  have := List.pairwise_mergeSort (le := fun x y : List UInt8 => decide (x ≤ y)) (by intro a b c h1 h2; simp only [decide_eq_true_eq] at *; exact List.le_trans h1 h2) (by intro a b; simp only [Bool.or_eq_true, decide_eq_true_eq]; exact List.le_total a b) us
  exact this.imp fun h => by simpa using h
theorem asc_eq {a b : List (List UInt8)} (ha : a.Pairwise (· < ·)) (hb : b.Pairwise (· < ·)) (h : ∀ x, x ∈ a ↔ x ∈ b) : a = b := by
  have na : a.Nodup := ha.imp fun h e => by subst e; exact List.lt_irrefl _ h
  have nb : b.Nodup := hb.imp fun h e => by subst e; exact List.lt_irrefl _ h
  have hp : a.Perm b := (List.perm_ext_iff_of_nodup na nb).2 h
  exact hp.eq_of_pairwise (fun x y _ _ h1 h2 => absurd (List.lt_trans h1 h2) (List.lt_irrefl _)) ha hb
end Pr
end Go.Proofs.YtpkldfkmokeamaaGreatDoor
/-
Chapter 15: expr.named.
-/
set_option linter.unusedSimpArgs false
set_option linter.unusedVariables false
namespace Go.Proofs.YtpkldfkmokeamaaGreatDoor
namespace Pr
open Go Go.RowKit En
open Ex Rf Go.Sort
def nmU (x : Nd) : List UInt8 := x.nm.data.toList
theorem bs_nm (x : Nd) : bsV (nmU x) = .v (.string x.nm) := rfl
def namU (l : List Nd) (q : Int) : List (List UInt8) := (l.filter fun x => x.k == q).map nmU
def resU (l : List Nd) (q : Int) : List (List UInt8) := Lib.compact (sortU (namU l q))
theorem nam_snoc {l : List Nd} {q : Int} {i : Nat} (hi : i < l.length) : namU (l.take (i + 1)) q = namU (l.take i) q ++ bif (ndAt l i).k == q then [nmU (ndAt l i)] else [] := by
  have e : l[i] = ndAt l i := by simp [ndAt, List.getD_eq_getElem?_getD, hi]
  rw [namU, List.take_succ_eq_append_getElem hi, List.filter_append, List.map_append, e]
  congr 1
  cases h : (ndAt l i).k == q <;> simp [List.filter_cons, h]
theorem nam_len (l : List Nd) (q : Int) (i : Nat) : (namU (l.take i) q).length ≤ l.length := by
  rw [namU, List.length_map]
  exact Nat.le_trans (List.length_filter_le _ _) (by rw [List.length_take]; omega)
theorem res_asc (l : List Nd) (q : Int) : (resU l q).Pairwise (· < ·) := compact_lt (sort_le _)
theorem res_mem (l : List Nd) (q : Int) (x : List UInt8) : x ∈ resU l q ↔ x ∈ namU l q := by
  rw [resU, mem_compact, sortU, List.mem_mergeSort]
theorem res_len (l : List Nd) (q : Int) : (resU l q).length ≤ l.length := by
  refine Nat.le_trans (Lib.compact_length_le _) ?_
  rw [sortU, List.length_mergeSort, namU, List.length_map]
  exact List.length_filter_le _ _
def stC (A : Option Addr) (c : Nat) (us : List (List UInt8)) : Ch := .recs A c 1 us.length fun i => [bsV (us.getD i [])]
theorem row_strs {B B' : Nat} {w : World} {A : Option Addr} {c n : Nat} {e : TypeId} {us : List (List UInt8)} (h : Hold B w (.rowV A c e 1 n (us.map bsV))) (hn : n = us.length) : Hold B' w (stC A c us) := by
  subst hn
  refine ⟨(row_sl h).congr fun i hi j hj => ?_, fun i hi => rfl⟩
  obtain rfl : j = 0 := by omega
  rw [dens_bs, Nat.mul_one, Nat.add_zero, List.getD_eq_getElem?_getD, List.getElem?_map, List.getElem?_eq_getElem hi]
  show encStr us[i] = encStr (us.getD i [])
  rw [List.getD_eq_getElem?_getD, List.getElem?_eq_getElem hi]; rfl
def baU (u : List UInt8) : ByteArray := ⟨u.toArray⟩
def namV (l : List Nd) (q : Int) : List ByteArray := (resU l q).map baU
theorem st_strs {B B' : Nat} {w : World} {A : Option Addr} {c : Nat} {us : List (List UInt8)} (h : Hold B w (stC A c us)) : Hold B' w (.strs A c (us.map baU)) := by
  show SlOk w A c 1 (us.map baU).length _
  rw [List.length_map]
  refine h.1.congr fun i hi j hj => ?_
  obtain rfl : j = 0 := by omega
  show encStr (us.getD i []) = .string ((us.map baU).getD i ByteArray.empty)
  rw [List.getD_eq_getElem?_getD, List.getElem?_eq_getElem hi, List.getD_eq_getElem?_getD, List.getElem?_map, List.getElem?_eq_getElem hi]
  rfl
def stR (c : Prop) (xs : List ByteArray) (er : Int) (nx : Nat) : Res := bif er == 0 then .val c fun B d => (.tup [.g nx B xs.length d, .v (.int .i64 0)], [(nx, .strs B d xs)]) else .is c (.tup [.v (.slice none 0 0), .v (.int .i64 er)])
theorem stR_y {c : Prop} {xs : List ByteArray} {er : Int} {nx : Nat} (h : er = 0) : stR c xs er nx = .val c fun B d => (.tup [.g nx B xs.length d, .v (.int .i64 0)], [(nx, .strs B d xs)]) := by rw [stR, h]; rfl
theorem stR_n {c : Prop} {xs : List ByteArray} {er : Int} {nx : Nat} (h : er ≠ 0) : stR c xs er nx = .is c (.tup [.v (.slice none 0 0), .v (.int .i64 er)]) := by
  have : (er == 0) = false := by simpa using h
  rw [stR, this]; rfl
theorem stR_vc {c : Prop} {xs : List ByteArray} {er : Int} {nx : Nat} (h : (stR c xs er nx).vc) : c := by
  unfold stR at h
  cases hq : (er == 0) <;> rw [hq] at h <;> exact h
def SoP (us : List (List UInt8)) (er : Int) (s : SS) (ys : List SV) : Prop := (er ≠ 0 ∧ ys = [.v (.slice none 0 0), .v (.int .i64 er)]) ∨
  (er = 0 ∧ ∃ (k : Nat) (A : Option Addr) (c : Nat) (e : TypeId), ys = [.g k A us.length c, .v (.int .i64 0)] ∧ (lookH s.hp k = .rowV A c e 1 us.length (us.map bsV) ∨ lookH s.hp k = stC A c us))
def SoQ (O : Nat → Prop) (xs : List ByteArray) (er : Int) (w : World) (e : Ending) (w' : World) : Prop := Below w.heap.size w w' ∧ ((er ≠ 0 ∧ e = .returned (.tuple #[.slice none 0 0, .int .i64 er])) ∨
  (er = 0 ∧ ∃ B d, e = .returned (.tuple #[.slice B xs.length d, .int .i64 0]) ∧ Hold w.heap.size w' (.strs B d xs) ∧ ∀ b, foot (.strs B d xs) b → w.heap.size ≤ b ∨ O b))
theorem SoP_Q {us : List (List UInt8)} {er : Int} {w w' : World} {hp : Hp} {s : SS} {ys : List SV} (h : SoP us er s ys) (H : HH w (oldOf hp) s.hp w') : SoQ (oldOf hp) (us.map baU) er w (.returned (oneV ys)) w' := by
  have hne : us.map baU ≠ [] → us.length ≠ 0 := fun h e => h (by rw [List.eq_nil_of_length_eq_zero e]; rfl)
  rcases h with ⟨h0, rfl⟩ | ⟨h0, k, A, c, e, rfl, hk | hk⟩
  · exact ⟨H.below, .inl ⟨h0, rfl⟩⟩
  · have hb := H.hold k
    have ho := H.old k
    rw [hk] at hb ho
    exact ⟨H.below, .inr ⟨h0, A, c, by rw [List.length_map]; rfl, st_strs (B := 0) (row_strs hb rfl), fun b hf => ho b hf.2⟩⟩
  · have hb := H.hold k
    have ho := H.old k
    rw [hk] at hb ho
    exact ⟨H.below, .inr ⟨h0, A, c, by rw [List.length_map]; rfl, st_strs hb, fun b hf => ho b ⟨hne hf.1, hf.2⟩⟩⟩
def SpP (xs : List ByteArray) (er : Int) (s : SS) (ys : List SV) : Prop := (er ≠ 0 ∧ ys = [.v (.slice none 0 0), .v (.int .i64 er)]) ∨
  (er = 0 ∧ ∃ (k : Nat) (A : Option Addr) (c : Nat), ys = [.g k A xs.length c, .v (.int .i64 0)] ∧ lookH s.hp k = .strs A c xs)
theorem SpP_Q {xs : List ByteArray} {er : Int} {w w' : World} {hp : Hp} {s : SS} {ys : List SV} (h : SpP xs er s ys) (H : HH w (oldOf hp) s.hp w') : SoQ (oldOf hp) xs er w (.returned (oneV ys)) w' := by
  rcases h with ⟨h0, rfl⟩ | ⟨h0, k, A, c, rfl, hk⟩
  · exact ⟨H.below, .inl ⟨h0, rfl⟩⟩
  · have hb := H.hold k
    have ho := H.old k
    rw [hk] at hb ho
    exact ⟨H.below, .inr ⟨h0, A, c, rfl, hb, ho⟩⟩
theorem stR_ok {c : Prop} {xs : List ByteArray} {er : Int} {nx : Nat} {O O' : Nat → Prop} {w0 w w' : World} {hp : Hp} {e : Ending} (H : HH w0 O' hp w) (hO : ∀ b, O b → ∃ j, foot (lookH hp j) b ∧ mutb (lookH hp j) = false) (h : SoQ O xs er w e w') :
    ∃ u, e = .returned (den ((stR c xs er nx).out u).1) ∧ Stp w0 hp w (stR c xs er nx).wr ((stR c xs er nx).out u).2 w' := by
  obtain ⟨hb, ⟨h0, rfl⟩ | ⟨h0, B, d, rfl, hs, hf⟩⟩ := h
  · simp only [stR_n h0]
    exact ⟨⟨0, none, 0, none, 0, mz⟩, rfl, .still hb⟩
  · simp only [stR_y h0]
    refine ⟨⟨0, B, d, none, 0, mz⟩, rfl, Stp.rd hb ⟨⟨hs, rfl⟩, trivial⟩ fun k b' hx => ?_⟩
    exact foot_look (Q := fun b => w.heap.size ≤ b ∨ ∃ j, foot (lookH hp j) b ∧ mutb (lookH hp j) = false) (l := [(_, _)]) ⟨fun b hb => (hf b hb).imp id (hO b), trivial⟩ hx
def tlSt : List (TypeId × TI) := tyStrs :: tlRe
theorem tlSt_ok : TyAll Tryz.prog (lookT tlSt) := tyAll_p tyStrs_ok tlRe_ok
def glNd : List (FuncId × Spc) := [(13, spExC), (82, spSort), (83, spComp)]
theorem glNd_ok : GOk Tryz.prog (lookG glNd) := lG_cons (by kernel_rfl) spExC_ok <| lG_cons (by kernel_rfl) spSort_ok <| lG_cons (by kernel_rfl) spComp_ok lG_nil
section
variable (l : List Nd) (A : Option Addr) (c bn on cn ba oa ca : Nat) (q : Int)
def ndI (i : Nat) (E : Option Addr) (e : Nat) : SS := ⟨[(0, .g 1000 A l.length c), (1, .v (.int .i64 q)), (8, .g 1001 E (namU (l.take i) q).length e), (19, .g 1000 A l.length c), (20, .v (.int .i64 l.length)), (21, .v (.int .i64 i))],
  (1001, .rowV E e 9 1 (namU (l.take i) q).length ((namU (l.take i) q).map bsV)) :: odHp l A c bn on cn ba oa ca, 30000⟩
end
set_option maxRecDepth 100000 in
set_option maxHeartbeats 4000000 in
theorem named15_any (l : List Nd) (hlen : l.length ≤ 100000) (hz : zsN l) (q : Int) (A : Option Addr) (c bn on cn ba oa ca : Nat) (h4 : 4 ≤ cn) (h3 : 3 ≤ ca) (w : World) (h : allRd w.heap.size w (odHp l A c bn on cn ba oa ca)) :
    Calls Tryz.prog 60 #[.slice A l.length c, .int .i64 q] w (SoQ (oldOf (odHp l A c bn on cn ba oa ca)) (namV l q) (chkV l).2 w) := by
  refine calls_go (args := [.g 1000 A l.length c, .v (.int .i64 q)]) (hp := odHp l A c bn on cn ba oa ca) (nx := 1002) (n := 2000) (U := [(1000000, 22)]) (V := []) (tl := tlSt) (gl := glNd) (post := SoP (resU l q) (chkV l).2)
    followP tlSt_ok glNd_ok Tryz.func60 rfl (by kernel_rfl) (Nat.le_of_ble_eq_true (by kernel_rfl)) (by kernel_rfl) (by kernel_rfl) (hh_list h) (free_list (by simp [allLt, odHp, gHu, gHp])) ?_ ?_
  · exact fun s ys w' hp H => SoP_Q hp H
  intro L F T G nd va hE
  obtain ⟨hL, hF, hs, hv, hT, hG, hR, hI, hJ, hW⟩ := hE
  rw [Tryz.results60] at hF
  simp (maxSteps := 1000000) only [En.nN, En.E, En.evsC, List.map_cons, List.map_nil, Nat.reduceBEq, Nat.reduceAdd, Nat.reduceMul, Nat.reduceEqDiff, Nat.reduceLeDiff, Nat.reduceLT, ne_eq, reduceCtorEq, Int.reduceBEq, Int.reduceBNe, Int.reduceAdd, Int.reduceSub, Int.reduceMul, Int.reduceNeg, Nat.reduceBNe, Int.reduceToNat, Nat.reduceSub, Int.reduceLE, Int.reduceLT] at hv
  simp only [En.at_nil, En.at_cons, En.ag_nil, En.ag_cons, and_true, tlSt, glNd, tlRe, tyStrs, tyInt, tyI64, tyBool, tyStr, tyErr, tyNode, tyNodes, tyInts] at hT hG
  have b07 : ((0 : Int) != 0) = false := rfl
  by_cases h1 : (chkV l).2 = 0
  · simp (maxSteps := 10000000) only [En.E, En.evsC, List.map_cons, List.map_nil, Nat.reduceBEq, Nat.reduceAdd, Nat.reduceMul, Nat.reduceEqDiff, Nat.reduceLeDiff, Nat.reduceLT, ne_eq, reduceCtorEq, Int.reduceBEq, Int.reduceBNe, Int.reduceAdd, Int.reduceSub, Int.reduceMul, Int.reduceNeg, Nat.reduceBNe, Int.reduceToNat, Nat.reduceSub, Int.reduceLE, Int.reduceLT, En.vV, hs, hv, hT, hG, hF, odHp, gHu, gHp, spExC_q, ckR, NdR_q, chL_q, globR_q, globU_q, hlen, hz, h4, h3, h1, b07]
    refine hW _ _ _ (sle_hp (hp := (1001, .rowV none 0 9 1 0 []) :: _) (fun w0 O w H => hh_row0 H) fun k hk hn => ?_) ?_
    · have : (1001 == k) = false := by simp only [] at hk; simp; omega
      simp only [lookH, this, cond_false]; exact hn
    refine hI {x : Nat × Option Addr × Nat // x.1 ≤ l.length} (fun x => ndI l A c bn on cn ba oa ca q x.1.1 x.1.2.1 x.1.2.2) (fun x => l.length - x.1.1) _ _ _
      ⟨(0, none, 0), Nat.zero_le _⟩ (sle_all [1001, 1000, 4, 5, 0, 1, 2, 3] (by decide) (by simp only [En.E, En.evsC, List.map_cons, List.map_nil, Nat.reduceBEq, Nat.reduceAdd, Nat.reduceMul, Nat.reduceEqDiff, Nat.reduceLeDiff, Nat.reduceLT, ne_eq, reduceCtorEq, Int.reduceBEq, Int.reduceBNe, Int.reduceAdd, Int.reduceSub, Int.reduceMul, Int.reduceNeg, Nat.reduceBNe, Int.reduceToNat, Nat.reduceSub, Int.reduceLE, Int.reduceLT, En.slLe, En.hpLe, En.chE, En.allLt, ndI, odHp, gHu, gHp, namU, List.take_zero, List.filter_nil, List.map_nil, List.length_nil, rp0_s, Int.cast_ofNat_Int])) ?_
    rintro ⟨⟨i, E, e⟩, hi⟩
    simp only at hi
    by_cases hlt : i < l.length
    · have d1 : decide ((i : Int) < (l.length : Int)) = true := decide_eq_true (by omega)
      have i1 : inr .i64 ((i : Int) + 1) := by simp only [En.inr, En.lo, En.hi]; omega
      have g1 : (0 : Int) ≤ i ∧ (i : Int) < l.length := by omega
      have hA : ¬A = none := slok_some h.1.1.1 (by omega)
      have hrl := nam_len l q i
      have hsn := nam_snoc (q := q) hlt
      have hX : ndC (ndAt l i) = [.v (.int .i64 (ndAt l i).k), .v (.int .i64 (ndAt l i).p), .v (.int .i64 (ndAt l i).c), .v (.string (ndAt l i).nm), .v (.string (ndAt l i).tx), .v (.int .i64 (ndAt l i).n), .v (.int .i64 (ndAt l i).s)] := rfl
      have ln : ∀ us : List (List UInt8), lenS (us.map bsV) = us.length := fun us => by rw [lenS_eq, List.length_map]
      refine hR 4000 _ _ ?_
      cases d4 : (ndAt l i).k == q with
      | true =>
        rw [d4, cond_true] at hsn
        simp (maxSteps := 10000000) only [En.E, En.evsC, List.map_cons, List.map_nil, Nat.reduceBEq, Nat.reduceAdd, Nat.reduceMul, Nat.reduceEqDiff, Nat.reduceLeDiff, Nat.reduceLT, ne_eq, reduceCtorEq, Int.reduceBEq, Int.reduceBNe, Int.reduceAdd, Int.reduceSub, Int.reduceMul, Int.reduceNeg, Nat.reduceBNe, Int.reduceToNat, Nat.reduceSub, Int.reduceLE, Int.reduceLT, En.vV, hs, hv, hT, hG, hF, ndI, odHp, gHu, gHp, d1, d4, i1, hX, g1, hA, Int.toNat_natCast]
        exact ⟨hlt, fun b b1 => ⟨⟨by omega, by omega⟩, fun A1 c1 => ⟨⟨(i + 1, A1, c1), hlt⟩, (sle_all [31536, 1000, 4, 5, 0, 1, 2, 3] (by decide) (by simp only [En.E, En.evsC, List.map_cons, List.map_nil, Nat.reduceBEq, Nat.reduceAdd, Nat.reduceMul, Nat.reduceEqDiff, Nat.reduceLeDiff, Nat.reduceLT, ne_eq, reduceCtorEq, Int.reduceBEq, Int.reduceBNe, Int.reduceAdd, Int.reduceSub, Int.reduceMul, Int.reduceNeg, Nat.reduceBNe, Int.reduceToNat, Nat.reduceSub, Int.reduceLE, Int.reduceLT, En.slLe, En.hpLe, En.chE, En.allLt, ndI, odHp, gHu, gHp, hsn, List.map_append, List.map_cons, List.map_nil, List.length_append, List.length_cons, List.length_nil, Nat.zero_add, bs_nm, rpgg, Int.natCast_add, Int.cast_ofNat_Int])), by simp only; omega⟩⟩⟩
      | false =>
        rw [d4, cond_false, List.append_nil] at hsn
        simp (maxSteps := 10000000) only [En.E, En.evsC, List.map_cons, List.map_nil, Nat.reduceBEq, Nat.reduceAdd, Nat.reduceMul, Nat.reduceEqDiff, Nat.reduceLeDiff, Nat.reduceLT, ne_eq, reduceCtorEq, Int.reduceBEq, Int.reduceBNe, Int.reduceAdd, Int.reduceSub, Int.reduceMul, Int.reduceNeg, Nat.reduceBNe, Int.reduceToNat, Nat.reduceSub, Int.reduceLE, Int.reduceLT, En.vV, hs, hv, hT, hG, hF, ndI, odHp, gHu, gHp, d1, d4, i1, hX, g1, hA, Int.toNat_natCast]
        exact ⟨hlt, fun b => ⟨⟨(i + 1, E, e), hlt⟩, (sle_all [1001, 1000, 4, 5, 0, 1, 2, 3] (by decide) (by simp only [En.E, En.evsC, List.map_cons, List.map_nil, Nat.reduceBEq, Nat.reduceAdd, Nat.reduceMul, Nat.reduceEqDiff, Nat.reduceLeDiff, Nat.reduceLT, ne_eq, reduceCtorEq, Int.reduceBEq, Int.reduceBNe, Int.reduceAdd, Int.reduceSub, Int.reduceMul, Int.reduceNeg, Nat.reduceBNe, Int.reduceToNat, Nat.reduceSub, Int.reduceLE, Int.reduceLT, En.slLe, En.hpLe, En.chE, En.allLt, ndI, odHp, gHu, gHp, hsn, Int.natCast_add, Int.cast_ofNat_Int])), by simp only; omega⟩⟩
    · have d1 : decide ((i : Int) < (l.length : Int)) = false := decide_eq_false (by omega)
      obtain rfl : i = l.length := by omega
      refine hR 4000 _ _ ?_
      have hr2 := nam_len l q l.length
      have hr3 : (sortU (namU l q)).length = (namU l q).length := by rw [sortU, List.length_mergeSort]
      rw [List.take_length] at hr2
      have hr4 : (namU l q).length ≤ 100000 := by omega
      simp (maxSteps := 10000000) only [En.E, En.evsC, List.map_cons, List.map_nil, Nat.reduceBEq, Nat.reduceAdd, Nat.reduceMul, Nat.reduceEqDiff, Nat.reduceLeDiff, Nat.reduceLT, ne_eq, reduceCtorEq, Int.reduceBEq, Int.reduceBNe, Int.reduceAdd, Int.reduceSub, Int.reduceMul, Int.reduceNeg, Nat.reduceBNe, Int.reduceToNat, Nat.reduceSub, Int.reduceLE, Int.reduceLT, En.vV, hs, hv, hT, hG, hF, ndI, odHp, gHu, gHp, d1, List.take_length, Int.toNat_natCast, spSort_q, spComp_q, soC_q, soU_q, soE_q, hr4]
      exact .inr ⟨h1, 1001, E, e, _, rfl, .inl rfl⟩
  · have d3 : ((chkV l).2 != 0) = true := by simpa using h1
    simp (maxSteps := 10000000) only [En.E, En.evsC, List.map_cons, List.map_nil, Nat.reduceBEq, Nat.reduceAdd, Nat.reduceMul, Nat.reduceEqDiff, Nat.reduceLeDiff, Nat.reduceLT, ne_eq, reduceCtorEq, Int.reduceBEq, Int.reduceBNe, Int.reduceAdd, Int.reduceSub, Int.reduceMul, Int.reduceNeg, Nat.reduceBNe, Int.reduceToNat, Nat.reduceSub, Int.reduceLE, Int.reduceLT, En.vV, hs, hv, hT, hG, hF, odHp, gHu, gHp, spExC_q, ckR, NdR_q, chL_q, globR_q, globU_q, hlen, hz, h4, h3, d3]
    exact .inl ⟨h1, rfl⟩
def spNamed15 : Spc
  | [.g k A n c, .v (.int .i64 q)], H, nx => stR (ckR A n c k H) (namV (chL n (H k)) q) (chkV (chL n (H k))).2 nx
  | _, _, _ => .bad
theorem spNamed15_q {k n c : Nat} {A : Option Addr} {q : Int} {H : Nat → Ch} {nx : Nat} : spNamed15 [.g k A n c, .v (.int .i64 q)] H nx = stR (ckR A n c k H) (namV (chL n (H k)) q) (chkV (chL n (H k))).2 nx := rfl
theorem spNamed15_ok : SpecOk Tryz.prog 60 spNamed15 := by
  intro args hp nx w0 O w H hv
  unfold spNamed15 at hv ⊢
  split at hv
  · next k A n c q =>
    have hc := stR_vc hv
    obtain ⟨bn, on, cn, ba, oa, ca, h4, h3, hl, hr, ho⟩ := ck_old H hc rfl
    obtain ⟨_, hn, hz, _⟩ := hc
    generalize chL n (lookH hp k) = l at hl hz hr ho hv ⊢
    subst hl
    exact (named15_any l hn hz q A c bn on cn ba oa ca h4 h3 w hr).mono fun e w' h => stR_ok H ho h
  · exact hv.elim
end Pr
end Go.Proofs.YtpkldfkmokeamaaGreatDoor
/-
Chapter 15: the reference's named.
-/
set_option linter.unusedSimpArgs false
set_option linter.unusedVariables false
namespace Go.Proofs.YtpkldfkmokeamaaGreatDoor
namespace Pr
open Go Go.RowKit En
open Ex Rf Go.Sort
theorem put_asc {us : List (List UInt8)} {v : List UInt8} {k : Nat} (ha : us.Pairwise (· < ·)) (hk : k ≤ us.length) (h1 : ∀ j (h : j < us.length), j < k → us[j] < v) (h2 : ∀ h : k < us.length, v < us[k]) : (us.take k ++ v :: us.drop k).Pairwise (· < ·) := by
  have hlt : ∀ i j (hi : i < us.length) (hj : j < us.length), i < j → us[i] < us[j] := fun i j hi hj hij => List.pairwise_iff_getElem.1 ha i j hi hj hij
  rw [List.pairwise_append, List.pairwise_cons]
  refine ⟨ha.sublist (List.take_sublist _ _), ⟨fun x hx => ?_, ha.sublist (List.drop_sublist _ _)⟩, fun x hx y hy => ?_⟩
  · obtain ⟨j, hj, rfl⟩ := List.mem_iff_getElem.1 hx
    rw [List.length_drop] at hj
    rw [List.getElem_drop]
    have hk' : k < us.length := by omega
    by_cases e : j = 0
    · subst e; exact h2 hk'
    · exact List.lt_trans (h2 hk') (hlt k (k + j) hk' (by omega) (by omega))
  · obtain ⟨i, hi, rfl⟩ := List.mem_iff_getElem.1 hx
    rw [List.length_take] at hi
    rw [List.getElem_take]
    have hv := h1 i (by omega) (by omega)
    rcases List.mem_cons.1 hy with rfl | hy
    · exact hv
    · obtain ⟨j, hj, rfl⟩ := List.mem_iff_getElem.1 hy
      rw [List.length_drop] at hj
      rw [List.getElem_drop]
      exact hlt i (k + j) (by omega) (by omega) (by omega)
theorem put_mem {us : List (List UInt8)} {v x : List UInt8} {k : Nat} : x ∈ us.take k ++ v :: us.drop k ↔ x ∈ us ∨ x = v := by
  conv => rhs; rw [← List.take_append_drop k us]
  simp only [List.mem_append, List.mem_cons]
  constructor
  · rintro (h | rfl | h)
    · exact .inl (.inl h)
    · exact .inr rfl
    · exact .inl (.inr h)
  · rintro ((h | h) | rfl)
    · exact .inl h
    · exact .inr (.inr h)
    · exact .inr (.inl rfl)
def glNe : List (FuncId × Spc) := [(14, spRChk)]
theorem glNe_ok : GOk Tryz.prog (lookG glNe) := lG_cons (by kernel_rfl) spRChk_ok lG_nil
def reU (l : List Nd) (q : Int) (i : Nat) : List (List UInt8) := resU (l.take i) q
theorem reU_len (l : List Nd) (q : Int) (i : Nat) : (reU l q i).length ≤ l.length := Nat.le_trans (res_len _ _) (by rw [List.length_take]; omega)
theorem reU_zero (l : List Nd) (q : Int) : reU l q 0 = [] := by
  have : (reU l q 0).length ≤ 0 := res_len _ _
  exact List.eq_nil_of_length_eq_zero (by omega)
theorem reU_all (l : List Nd) (q : Int) : reU l q l.length = resU l q := by rw [reU, List.take_length]
theorem reU_no {l : List Nd} {q : Int} {i : Nat} (hi : i < l.length) (h : ((ndAt l i).k == q) = false) : reU l q (i + 1) = reU l q i := by
  rw [reU, resU, nam_snoc hi, h, cond_false, List.append_nil]; rfl
theorem reU_mem {l : List Nd} {q : Int} {i : Nat} (hi : i < l.length) (h : ((ndAt l i).k == q) = true) (x : List UInt8) : x ∈ reU l q (i + 1) ↔ x ∈ reU l q i ∨ x = nmU (ndAt l i) := by
  rw [reU, res_mem, nam_snoc hi, h, cond_true, List.mem_append, List.mem_singleton, reU, res_mem]
theorem reU_old {l : List Nd} {q : Int} {i k : Nat} (hi : i < l.length) (h : ((ndAt l i).k == q) = true) (hk : k < (reU l q i).length) (he : (reU l q i)[k] = nmU (ndAt l i)) : reU l q (i + 1) = reU l q i :=
  asc_eq (res_asc _ _) (res_asc _ _) fun x => by
    show x ∈ reU l q (i + 1) ↔ x ∈ reU l q i
    rw [reU_mem hi h]
    exact ⟨fun h => h.elim id fun e => by rw [e, ← he]; exact List.getElem_mem hk, .inl⟩
theorem reU_new {l : List Nd} {q : Int} {i k : Nat} (hi : i < l.length) (h : ((ndAt l i).k == q) = true) (hk : k ≤ (reU l q i).length) (h1 : ∀ j (h : j < (reU l q i).length), j < k → (reU l q i)[j] < nmU (ndAt l i)) (h2 : ∀ h : k < (reU l q i).length, nmU (ndAt l i) < (reU l q i)[k]) :
    reU l q (i + 1) = (reU l q i).take k ++ nmU (ndAt l i) :: (reU l q i).drop k :=
  asc_eq (res_asc _ _) (put_asc (res_asc _ _) hk h1 h2) fun x => by
    show x ∈ reU l q (i + 1) ↔ _
    rw [reU_mem hi h, put_mem]
section
variable (l : List Nd) (A : Option Addr) (c : Nat) (q : Int)
def neI (i : Nat) (E : Option Addr) (e : Nat) : SS := ⟨[(0, .g 1000 A l.length c), (1, .v (.int .i64 q)), (8, .g 1001 E (reU l q i).length e), (9, .v (.int .i64 i))],
  (1001, stC E e (reU l q i)) :: rdH l A c, 30000⟩
def neJ (i : Nat) (E : Option Addr) (e : Nat) (k : Nat) : SS := ⟨[(0, .g 1000 A l.length c), (1, .v (.int .i64 q)), (8, .g 1001 E (reU l q i).length e), (9, .v (.int .i64 i)), (10, .v (.int .i64 k))],
  (1001, stC E e (reU l q i)) :: rdH l A c, 40000⟩
end
theorem hh_ro {O : Nat → Prop} {w0 w : World} {hp : Hp} (k : Nat) (c : Ch) (H : HH w0 O hp w) (hm : mutb c = false) (hh : ∀ w, Hold w0.heap.size w (lookH hp k) → Hold w0.heap.size w c) (ft : ∀ b, foot c b → foot (lookH hp k) b) : HH w0 O ((k, c) :: hp) w := by
  have lk : ∀ j, lookH ((k, c) :: hp) j = if k = j then c else lookH hp j := by
    intro j
    simp only [lookH]
    by_cases h : k = j
    · simp [h]
    · have e : (k == j) = false := by simpa using h
      rw [e, if_neg h]; rfl
  refine ⟨H.below, fun j b hb => ?_, fun j => ?_, fun i j hij hm' b hb => ?_⟩
  · rw [lk] at hb
    split at hb
    · exact H.old k b (ft b hb)
    · exact H.old j b hb
  · rw [lk]
    split
    · exact hh w (H.hold k)
    · exact H.hold j
  · rw [lk] at hm' hb ⊢
    split at hb
    · next h1 => rw [if_pos h1, hm] at hm'; cases hm'
    · next h1 =>
      rw [if_neg h1] at hm'
      split
      · next h2 =>
        intro hf
        exact H.sep i k (fun e => h1 e.symm) hm' b hb (ft b hf)
      · exact H.sep i j hij hm' b hb
theorem sle_ro {s : SS} (k : Nat) (c : Ch) (hm : mutb c = false) (hh : ∀ B w, Hold B w (lookH s.hp k) → Hold B w c) (ft : ∀ b, foot c b → foot (lookH s.hp k) b) (hk : k < s.nx) : SLe s ⟨s.sl, (k, c) :: s.hp, s.nx⟩ :=
  sle_hp (fun w0 O w H => hh_ro k c H hm (fun w h => hh _ w h) ft) fun j hj hn => by
    have : (k == j) = false := by simp; omega
    simp only [lookH, this, cond_false]; exact hn
theorem fm_map (f : Nat → SV) (L : List Nat) : (L.flatMap fun j => [f j]) = L.map f := by
  induction L with
  | nil => rfl
  | cons a L ih => rw [List.flatMap_cons, ih]; rfl
theorem fm_take {us : List (List UInt8)} {k : Nat} (hk : k ≤ us.length) : ((List.range k).flatMap fun j => [SV.v (.string ⟨(us.getD j []).toArray⟩)]) = (us.take k).map bsV := by
  rw [fm_map]
  apply List.ext_getElem
  · simp [hk]
  · intro j h1 h2
    have hj : j < us.length := by simp at h2; omega
    simp only [List.getElem_map, List.getElem_range, List.getElem_take, List.getD_eq_getElem?_getD, List.getElem?_eq_getElem hj]
    rfl
theorem fm_drop {us : List (List UInt8)} {k : Nat} : ((List.range (us.length - k)).flatMap fun j => [SV.v (.string ⟨(us.getD (k + j) []).toArray⟩)]) = (us.drop k).map bsV := by
  rw [fm_map]
  apply List.ext_getElem
  · simp
  · intro j h1 h2
    have hj : k + j < us.length := by simp at h2; omega
    simp only [List.getElem_map, List.getElem_range, List.getElem_drop, List.getD_eq_getElem?_getD, List.getElem?_eq_getElem hj]
    rfl
theorem ln_map (us : List (List UInt8)) : lenS (us.map bsV) = us.length := by rw [lenS_eq, List.length_map]
theorem ao_map (us : List (List UInt8)) : allOne (us.map bsV) = true := by
  induction us with
  | nil => rfl
  | cons u us ih => exact ih
theorem les_u {u : List UInt8} {x : Nd} : Op.bytesLess (⟨u.toArray⟩ : ByteArray).toList x.nm.toList = decide (u < nmU x) := by
  rw [bytesLess_eq, Lib.toList_data, Lib.toList_data]; rfl
theorem eq_u {u : List UInt8} {x : Nd} : ((⟨u.toArray⟩ : ByteArray).toList == x.nm.toList) = decide (u = nmU x) := by
  rw [Lib.toList_data, Lib.toList_data, Bool.eq_iff_iff, beq_iff_eq, decide_eq_true_iff]; exact Iff.rfl
theorem bs_str (u : List UInt8) : bsV u = .v (.string ⟨u.toArray⟩) := rfl
set_option maxRecDepth 100000 in
set_option maxHeartbeats 4000000 in
theorem rNamed15_any (l : List Nd) (hlen : l.length ≤ 100000) (hz : zsN l) (q : Int) (A : Option Addr) (c : Nat) (w : World) (h : allRd w.heap.size w (rdH l A c)) :
    Calls Tryz.prog 61 #[.slice A l.length c, .int .i64 q] w (SoQ (oldOf (rdH l A c)) (namV l q) (chkV l).2 w) := by
  refine calls_go (args := [.g 1000 A l.length c, .v (.int .i64 q)]) (hp := rdH l A c) (nx := 1002) (n := 2000) (U := [(1000000, 12)]) (V := []) (tl := tlSt) (gl := glNe) (post := SoP (resU l q) (chkV l).2)
    followP tlSt_ok glNe_ok Tryz.func61 rfl (by kernel_rfl) (Nat.le_of_ble_eq_true (by kernel_rfl)) (by kernel_rfl) (by kernel_rfl) (hh_list h) (free_list (by simp [allLt, rdH])) ?_ ?_
  · exact fun s ys w' hp H => SoP_Q hp H
  intro L F T G nd va hE
  obtain ⟨hL, hF, hs, hv, hT, hG, hR, hI, hJ, hW⟩ := hE
  rw [Tryz.results61] at hF
  simp (maxSteps := 1000000) only [En.nN, En.E, En.evsC, List.map_cons, List.map_nil, Nat.reduceBEq, Nat.reduceAdd, Nat.reduceMul, Nat.reduceEqDiff, Nat.reduceLeDiff, Nat.reduceLT, ne_eq, reduceCtorEq, Int.reduceBEq, Int.reduceBNe, Int.reduceAdd, Int.reduceSub, Int.reduceMul, Int.reduceTDiv, Int.reduceTMod, Int.reduceNeg, En.bitN, Nat.testBit, Nat.reduceShiftRight, Nat.reduceShiftLeft, Nat.reduceAnd, Nat.reduceOr, Nat.reduceBNe, Int.reduceToNat, Nat.reduceSub, Int.reduceLE, Int.reduceLT] at hv
  simp only [En.at_nil, En.at_cons, En.ag_nil, En.ag_cons, and_true, tlSt, glNe, tlRe, tyStrs, tyInt, tyI64, tyBool, tyStr, tyErr, tyNode, tyNodes, tyInts] at hT hG
  have b07 : ((0 : Int) != 0) = false := rfl
  by_cases h1 : (chkV l).2 = 0
  · simp (maxSteps := 10000000) only [En.E, En.evsC, List.map_cons, List.map_nil, Nat.reduceBEq, Nat.reduceAdd, Nat.reduceMul, Nat.reduceEqDiff, Nat.reduceLeDiff, Nat.reduceLT, ne_eq, reduceCtorEq, Int.reduceBEq, Int.reduceBNe, Int.reduceAdd, Int.reduceSub, Int.reduceMul, Int.reduceTDiv, Int.reduceTMod, Int.reduceNeg, En.bitN, Nat.testBit, Nat.reduceShiftRight, Nat.reduceShiftLeft, Nat.reduceAnd, Nat.reduceOr, Nat.reduceBNe, Int.reduceToNat, Nat.reduceSub, Int.reduceLE, Int.reduceLT, En.vV, hs, hv, hT, hG, hF, rdH, spRChk_q, NdR_q, chL_q, hlen, hz, h1, b07]
    refine hW _ _ _ (sle_hp (hp := (1001, stC none 0 []) :: _) (fun w0 O w H => hh_ro 1001 _ H rfl (fun w _ => ⟨⟨Nat.le_refl _, fun h => absurd rfl h⟩, fun i hi => absurd hi (Nat.not_lt_zero i)⟩) fun b hb => absurd rfl hb.1) fun k hk hn => ?_) ?_
    · have : (1001 == k) = false := by simp only [] at hk; simp; omega
      simp only [lookH, this, cond_false]; exact hn
    refine hI {x : Nat × Option Addr × Nat // x.1 ≤ l.length} (fun x => neI l A c q x.1.1 x.1.2.1 x.1.2.2) (fun x => l.length - x.1.1) _ _ _
      ⟨(0, none, 0), Nat.zero_le _⟩ (sle_all [1001, 1000] (by decide) (by simp only [En.E, En.evsC, List.map_cons, List.map_nil, Nat.reduceBEq, Nat.reduceAdd, Nat.reduceMul, Nat.reduceEqDiff, Nat.reduceLeDiff, Nat.reduceLT, ne_eq, reduceCtorEq, Int.reduceBEq, Int.reduceBNe, Int.reduceAdd, Int.reduceSub, Int.reduceMul, Int.reduceTDiv, Int.reduceTMod, Int.reduceNeg, En.bitN, Nat.testBit, Nat.reduceShiftRight, Nat.reduceShiftLeft, Nat.reduceAnd, Nat.reduceOr, Nat.reduceBNe, Int.reduceToNat, Nat.reduceSub, Int.reduceLE, Int.reduceLT, En.slLe, En.hpLe, En.chE, En.allLt, neI, rdH, stC, reU_zero, List.length_nil, rp0_s, Int.cast_ofNat_Int])) ?_
    rintro ⟨⟨i, E, e⟩, hi⟩
    simp only at hi
    by_cases hlt : i < l.length
    · have d1 : decide ((i : Int) < (l.length : Int)) = true := decide_eq_true (by omega)
      have i1 : inr .i64 ((i : Int) + 1) := by simp only [En.inr, En.lo, En.hi]; omega
      have g1 : (0 : Int) ≤ i ∧ (i : Int) < l.length := by omega
      have hA : ¬A = none := slok_some h.1.1.1 (by omega)
      have hrl := reU_len l q i
      refine hR 4000 _ _ ?_
      cases d4 : (ndAt l i).k == q with
      | false =>
        have d5 : ((ndAt l i).k != q) = true := by simp [bne, d4]
        simp (maxSteps := 10000000) only [En.E, En.evsC, List.map_cons, List.map_nil, Nat.reduceBEq, Nat.reduceAdd, Nat.reduceMul, Nat.reduceEqDiff, Nat.reduceLeDiff, Nat.reduceLT, ne_eq, reduceCtorEq, Int.reduceBEq, Int.reduceBNe, Int.reduceAdd, Int.reduceSub, Int.reduceMul, Int.reduceTDiv, Int.reduceTMod, Int.reduceNeg, En.bitN, Nat.testBit, Nat.reduceShiftRight, Nat.reduceShiftLeft, Nat.reduceAnd, Nat.reduceOr, Nat.reduceBNe, Int.reduceToNat, Nat.reduceSub, Int.reduceLE, Int.reduceLT, En.vV, hs, hv, hT, hG, hF, neI, rdH, stC, d1, d5, i1, ndC_n, g1, hA, Int.toNat_natCast]
        have c1 := reU_no hlt d4
        exact ⟨hlt, ⟨(i + 1, E, e), hlt⟩, (sle_all [1001, 1000] (by decide) (by simp only [En.E, En.evsC, List.map_cons, List.map_nil, Nat.reduceBEq, Nat.reduceAdd, Nat.reduceMul, Nat.reduceEqDiff, Nat.reduceLeDiff, Nat.reduceLT, ne_eq, reduceCtorEq, Int.reduceBEq, Int.reduceBNe, Int.reduceAdd, Int.reduceSub, Int.reduceMul, Int.reduceTDiv, Int.reduceTMod, Int.reduceNeg, En.bitN, Nat.testBit, Nat.reduceShiftRight, Nat.reduceShiftLeft, Nat.reduceAnd, Nat.reduceOr, Nat.reduceBNe, Int.reduceToNat, Nat.reduceSub, Int.reduceLE, Int.reduceLT, En.slLe, En.hpLe, En.chE, En.allLt, neI, rdH, stC, c1, Int.natCast_add, Int.cast_ofNat_Int])), by simp only; omega⟩
      | true =>
        have d5 : ((ndAt l i).k != q) = false := by simp [bne, d4]
        simp (maxSteps := 10000000) only [En.E, En.evsC, List.map_cons, List.map_nil, Nat.reduceBEq, Nat.reduceAdd, Nat.reduceMul, Nat.reduceEqDiff, Nat.reduceLeDiff, Nat.reduceLT, ne_eq, reduceCtorEq, Int.reduceBEq, Int.reduceBNe, Int.reduceAdd, Int.reduceSub, Int.reduceMul, Int.reduceTDiv, Int.reduceTMod, Int.reduceNeg, En.bitN, Nat.testBit, Nat.reduceShiftRight, Nat.reduceShiftLeft, Nat.reduceAnd, Nat.reduceOr, Nat.reduceBNe, Int.reduceToNat, Nat.reduceSub, Int.reduceLE, Int.reduceLT, En.vV, hs, hv, hT, hG, hF, neI, rdH, stC, d1, d5, i1, ndC_n, g1, hA, Int.toNat_natCast]
        refine ⟨hlt, ?_⟩
        refine hI {k : Nat // k ≤ (reU l q i).length ∧ ∀ j (h : j < (reU l q i).length), j < k → (reU l q i)[j] < nmU (ndAt l i)} (fun x => neJ l A c q i E e x.1) (fun x => (reU l q i).length - x.1) _ _ _
          ⟨0, Nat.zero_le _, fun j _ hj => absurd hj (Nat.not_lt_zero j)⟩ (sle_all [1001, 1000] (by decide) (by simp only [En.E, En.evsC, List.map_cons, List.map_nil, Nat.reduceBEq, Nat.reduceAdd, Nat.reduceMul, Nat.reduceEqDiff, Nat.reduceLeDiff, Nat.reduceLT, ne_eq, reduceCtorEq, Int.reduceBEq, Int.reduceBNe, Int.reduceAdd, Int.reduceSub, Int.reduceMul, Int.reduceTDiv, Int.reduceTMod, Int.reduceNeg, En.bitN, Nat.testBit, Nat.reduceShiftRight, Nat.reduceShiftLeft, Nat.reduceAnd, Nat.reduceOr, Nat.reduceBNe, Int.reduceToNat, Nat.reduceSub, Int.reduceLE, Int.reduceLT, En.slLe, En.hpLe, En.chE, En.allLt, neJ, rdH, stC, Int.cast_ofNat_Int])) ?_
        rintro ⟨k, hk, hkl⟩
        by_cases hkt : k < (reU l q i).length
        · have e1 : decide ((k : Int) < ((reU l q i).length : Int)) = true := decide_eq_true (by omega)
          have e2 : ((k : Int) == ((reU l q i).length : Int)) = false := by simp; omega
          have g2 : (0 : Int) ≤ k ∧ (k : Int) < (reU l q i).length := by omega
          have k1 : inr .i64 ((k : Int) + 1) := by simp only [En.inr, En.lo, En.hi]; omega
          have eU : (reU l q i).getD k [] = (reU l q i)[k] := by rw [List.getD_eq_getElem?_getD, List.getElem?_eq_getElem hkt]; rfl
          refine hR 5000 _ _ ?_
          have ft := fm_take (us := reU l q i) hk
          by_cases hl2 : (reU l q i)[k] < nmU (ndAt l i)
          · have d6 : decide ((reU l q i)[k] < nmU (ndAt l i)) = true := decide_eq_true hl2
            simp (maxSteps := 10000000) only [En.E, En.evsC, List.map_cons, List.map_nil, Nat.reduceBEq, Nat.reduceAdd, Nat.reduceMul, Nat.reduceEqDiff, Nat.reduceLeDiff, Nat.reduceLT, ne_eq, reduceCtorEq, Int.reduceBEq, Int.reduceBNe, Int.reduceAdd, Int.reduceSub, Int.reduceMul, Int.reduceTDiv, Int.reduceTMod, Int.reduceNeg, En.bitN, Nat.testBit, Nat.reduceShiftRight, Nat.reduceShiftLeft, Nat.reduceAnd, Nat.reduceOr, Nat.reduceBNe, Int.reduceToNat, Nat.reduceSub, Int.reduceLE, Int.reduceLT, En.vV, hs, hv, hT, hG, hF, neJ, rdH, stC, bs_str, e1, e2, g2, g1, hA, ndC_n, k1, eU, les_u, d6, Int.toNat_natCast]
            refine ⟨hkt, hlt, ⟨k + 1, hkt, fun j hj hjk => ?_⟩, (sle_all [1001, 1000] (by decide) (by simp only [En.E, En.evsC, List.map_cons, List.map_nil, Nat.reduceBEq, Nat.reduceAdd, Nat.reduceMul, Nat.reduceEqDiff, Nat.reduceLeDiff, Nat.reduceLT, ne_eq, reduceCtorEq, Int.reduceBEq, Int.reduceBNe, Int.reduceAdd, Int.reduceSub, Int.reduceMul, Int.reduceTDiv, Int.reduceTMod, Int.reduceNeg, En.bitN, Nat.testBit, Nat.reduceShiftRight, Nat.reduceShiftLeft, Nat.reduceAnd, Nat.reduceOr, Nat.reduceBNe, Int.reduceToNat, Nat.reduceSub, Int.reduceLE, Int.reduceLT, En.slLe, En.hpLe, En.chE, En.allLt, neJ, rdH, stC, bs_str, Int.natCast_add, Int.cast_ofNat_Int])), by simp only; omega⟩
            by_cases e : j = k
            · subst e; exact hl2
            · exact hkl j hj (by omega)
          · have d6 : decide ((reU l q i)[k] < nmU (ndAt l i)) = false := decide_eq_false hl2
            by_cases he : (reU l q i)[k] = nmU (ndAt l i)
            · have d7 : decide ((reU l q i)[k] = nmU (ndAt l i)) = true := decide_eq_true he
              simp (maxSteps := 10000000) only [En.E, En.evsC, List.map_cons, List.map_nil, Nat.reduceBEq, Nat.reduceAdd, Nat.reduceMul, Nat.reduceEqDiff, Nat.reduceLeDiff, Nat.reduceLT, ne_eq, reduceCtorEq, Int.reduceBEq, Int.reduceBNe, Int.reduceAdd, Int.reduceSub, Int.reduceMul, Int.reduceTDiv, Int.reduceTMod, Int.reduceNeg, En.bitN, Nat.testBit, Nat.reduceShiftRight, Nat.reduceShiftLeft, Nat.reduceAnd, Nat.reduceOr, Nat.reduceBNe, Int.reduceToNat, Nat.reduceSub, Int.reduceLE, Int.reduceLT, En.vV, hs, hv, hT, hG, hF, neJ, rdH, stC, bs_str, e1, e2, g2, g1, hA, ndC_n, k1, eU, les_u, d6, bne, eq_u, d7, Bool.not_true, i1, Int.toNat_natCast]
              have c1 := reU_old hlt d4 hkt he
              exact ⟨hkt, hlt, hkt, hlt, ⟨(i + 1, E, e), hlt⟩, (sle_all [1001, 1000] (by decide) (by simp only [En.E, En.evsC, List.map_cons, List.map_nil, Nat.reduceBEq, Nat.reduceAdd, Nat.reduceMul, Nat.reduceEqDiff, Nat.reduceLeDiff, Nat.reduceLT, ne_eq, reduceCtorEq, Int.reduceBEq, Int.reduceBNe, Int.reduceAdd, Int.reduceSub, Int.reduceMul, Int.reduceTDiv, Int.reduceTMod, Int.reduceNeg, En.bitN, Nat.testBit, Nat.reduceShiftRight, Nat.reduceShiftLeft, Nat.reduceAnd, Nat.reduceOr, Nat.reduceBNe, Int.reduceToNat, Nat.reduceSub, Int.reduceLE, Int.reduceLT, En.slLe, En.hpLe, En.chE, En.allLt, neI, rdH, stC, bs_str, c1, Int.natCast_add, Int.cast_ofNat_Int])), by simp only; omega⟩
            · have d7 : decide ((reU l q i)[k] = nmU (ndAt l i)) = false := decide_eq_false he
              simp (maxSteps := 10000000) only [En.E, En.evsC, List.map_cons, List.map_nil, Nat.reduceBEq, Nat.reduceAdd, Nat.reduceMul, Nat.reduceEqDiff, Nat.reduceLeDiff, Nat.reduceLT, ne_eq, reduceCtorEq, Int.reduceBEq, Int.reduceBNe, Int.reduceAdd, Int.reduceSub, Int.reduceMul, Int.reduceTDiv, Int.reduceTMod, Int.reduceNeg, En.bitN, Nat.testBit, Nat.reduceShiftRight, Nat.reduceShiftLeft, Nat.reduceAnd, Nat.reduceOr, Nat.reduceBNe, Int.reduceToNat, Nat.reduceSub, Int.reduceLE, Int.reduceLT, En.vV, hs, hv, hT, hG, hF, neJ, rdH, stC, bs_str, e1, e2, g2, g1, hA, ndC_n, k1, eU, les_u, d6, bne, eq_u, d7, Bool.not_false, i1, fm_drop, ft, ln_map, ao_map, Int.toNat_natCast]
              have hnw : nmU (ndAt l i) < (reU l q i)[k] := by
                by_cases hh : nmU (ndAt l i) < (reU l q i)[k]
                · exact hh
                · exact absurd (List.le_antisymm (List.not_lt.1 hh) (List.not_lt.1 hl2)) he
              have c1 := reU_new hlt d4 hk hkl (fun _ => hnw)
              have hln : (reU l q (i + 1)).length = k + (1 + ((reU l q i).length - k)) := by rw [c1]; simp; omega
              have hcs : (reU l q (i + 1)).map bsV = List.map bsV (List.take k (reU l q i)) ++ SV.v (Value.string (ndAt l i).nm) :: List.map bsV (List.drop k (reU l q i)) := by rw [c1, List.map_append, List.map_cons, bs_nm]
              refine ⟨hkt, hlt, hkt, hlt, hlt, fun b => ⟨⟨by omega, by omega⟩, ⟨by omega, by omega, by simp⟩, fun A1 e1' b1 => ⟨by omega, ⟨by omega, by omega, by simp; omega⟩, fun A2 c2 => ⟨⟨by omega, by omega, by simp; omega⟩, fun A3 c3 => ⟨⟨(i + 1, A3, c3), hlt⟩, ?_, by simp only; omega⟩⟩⟩⟩⟩
              exact SLe.trans (sle_ro 63552 (stC A3 c3 (reU l q (i + 1))) rfl (fun B w hh => row_strs (e := 9) (by rw [hcs]; exact hh) hln.symm) (fun b hb => hb.2) (by exact (by decide : (63552 : Nat) < 64064))) (sle_all [63552, 1000] (by decide) (by simp only [En.E, En.evsC, List.map_cons, List.map_nil, Nat.reduceBEq, Nat.reduceAdd, Nat.reduceMul, Nat.reduceEqDiff, Nat.reduceLeDiff, Nat.reduceLT, ne_eq, reduceCtorEq, Int.reduceBEq, Int.reduceBNe, Int.reduceAdd, Int.reduceSub, Int.reduceMul, Int.reduceTDiv, Int.reduceTMod, Int.reduceNeg, En.bitN, Nat.testBit, Nat.reduceShiftRight, Nat.reduceShiftLeft, Nat.reduceAnd, Nat.reduceOr, Nat.reduceBNe, Int.reduceToNat, Nat.reduceSub, Int.reduceLE, Int.reduceLT, En.slLe, En.hpLe, En.chE, En.allLt, neI, rdH, stC, bs_str, hln, rpgg, Int.natCast_add, Int.cast_ofNat_Int]))
        · have e1 : decide ((k : Int) < ((reU l q i).length : Int)) = false := decide_eq_false (by omega)
          have e2 : ((k : Int) == ((reU l q i).length : Int)) = true := by simp; omega
          refine hR 5000 _ _ ?_
          have ft := fm_take (us := reU l q i) hk
          simp (maxSteps := 10000000) only [En.E, En.evsC, List.map_cons, List.map_nil, Nat.reduceBEq, Nat.reduceAdd, Nat.reduceMul, Nat.reduceEqDiff, Nat.reduceLeDiff, Nat.reduceLT, ne_eq, reduceCtorEq, Int.reduceBEq, Int.reduceBNe, Int.reduceAdd, Int.reduceSub, Int.reduceMul, Int.reduceTDiv, Int.reduceTMod, Int.reduceNeg, En.bitN, Nat.testBit, Nat.reduceShiftRight, Nat.reduceShiftLeft, Nat.reduceAnd, Nat.reduceOr, Nat.reduceBNe, Int.reduceToNat, Nat.reduceSub, Int.reduceLE, Int.reduceLT, En.vV, hs, hv, hT, hG, hF, neJ, rdH, stC, bs_str, e1, e2, g1, hA, ndC_n, i1, fm_drop, ft, ln_map, ao_map, Int.toNat_natCast]
          have c1 := reU_new hlt d4 hk hkl (fun h => absurd h hkt)
          have hln : (reU l q (i + 1)).length = k + (1 + ((reU l q i).length - k)) := by rw [c1]; simp; omega
          have hcs : (reU l q (i + 1)).map bsV = List.map bsV (List.take k (reU l q i)) ++ SV.v (Value.string (ndAt l i).nm) :: List.map bsV (List.drop k (reU l q i)) := by rw [c1, List.map_append, List.map_cons, bs_nm]
          refine ⟨hlt, fun b => ⟨⟨by omega, by omega, by omega⟩, ⟨by omega, by omega, by simp⟩, fun A1 e1' b1 => ⟨⟨by omega, by omega⟩, ⟨by omega, by omega, by simp; omega⟩, fun A2 c2 => ⟨⟨by omega, by omega, by simp; omega⟩, fun A3 c3 => ⟨⟨(i + 1, A3, c3), hlt⟩, ?_, by simp only; omega⟩⟩⟩⟩⟩
          exact SLe.trans (sle_ro 63552 (stC A3 c3 (reU l q (i + 1))) rfl (fun B w hh => row_strs (e := 9) (by rw [hcs]; exact hh) hln.symm) (fun b hb => hb.2) (by exact (by decide : (63552 : Nat) < 64064))) (sle_all [63552, 1000] (by decide) (by simp only [En.E, En.evsC, List.map_cons, List.map_nil, Nat.reduceBEq, Nat.reduceAdd, Nat.reduceMul, Nat.reduceEqDiff, Nat.reduceLeDiff, Nat.reduceLT, ne_eq, reduceCtorEq, Int.reduceBEq, Int.reduceBNe, Int.reduceAdd, Int.reduceSub, Int.reduceMul, Int.reduceTDiv, Int.reduceTMod, Int.reduceNeg, En.bitN, Nat.testBit, Nat.reduceShiftRight, Nat.reduceShiftLeft, Nat.reduceAnd, Nat.reduceOr, Nat.reduceBNe, Int.reduceToNat, Nat.reduceSub, Int.reduceLE, Int.reduceLT, En.slLe, En.hpLe, En.chE, En.allLt, neI, rdH, stC, bs_str, hln, rpgg, Int.natCast_add, Int.cast_ofNat_Int]))
    · have d1 : decide ((i : Int) < (l.length : Int)) = false := decide_eq_false (by omega)
      obtain rfl : i = l.length := by omega
      refine hR 4000 _ _ ?_
      simp (maxSteps := 10000000) only [En.E, En.evsC, List.map_cons, List.map_nil, Nat.reduceBEq, Nat.reduceAdd, Nat.reduceMul, Nat.reduceEqDiff, Nat.reduceLeDiff, Nat.reduceLT, ne_eq, reduceCtorEq, Int.reduceBEq, Int.reduceBNe, Int.reduceAdd, Int.reduceSub, Int.reduceMul, Int.reduceTDiv, Int.reduceTMod, Int.reduceNeg, En.bitN, Nat.testBit, Nat.reduceShiftRight, Nat.reduceShiftLeft, Nat.reduceAnd, Nat.reduceOr, Nat.reduceBNe, Int.reduceToNat, Nat.reduceSub, Int.reduceLE, Int.reduceLT, En.vV, hs, hv, hT, hG, hF, neI, rdH, stC, d1, reU_all, Int.toNat_natCast]
      exact .inr ⟨h1, 1001, E, e, 0, rfl, .inr rfl⟩
  · have d3 : ((chkV l).2 != 0) = true := by simpa using h1
    simp (maxSteps := 10000000) only [En.E, En.evsC, List.map_cons, List.map_nil, Nat.reduceBEq, Nat.reduceAdd, Nat.reduceMul, Nat.reduceEqDiff, Nat.reduceLeDiff, Nat.reduceLT, ne_eq, reduceCtorEq, Int.reduceBEq, Int.reduceBNe, Int.reduceAdd, Int.reduceSub, Int.reduceMul, Int.reduceTDiv, Int.reduceTMod, Int.reduceNeg, En.bitN, Nat.testBit, Nat.reduceShiftRight, Nat.reduceShiftLeft, Nat.reduceAnd, Nat.reduceOr, Nat.reduceBNe, Int.reduceToNat, Nat.reduceSub, Int.reduceLE, Int.reduceLT, En.vV, hs, hv, hT, hG, hF, rdH, spRChk_q, NdR_q, chL_q, hlen, hz, d3]
    exact .inl ⟨h1, rfl⟩
def spRNamed15 : Spc
  | [.g k A n c, .v (.int .i64 q)], H, nx => stR (NdR A n c (H k) ∧ n ≤ 100000 ∧ zsN (chL n (H k))) (namV (chL n (H k)) q) (chkV (chL n (H k))).2 nx
  | _, _, _ => .bad
theorem spRNamed15_ok : SpecOk Tryz.prog 61 spRNamed15 := by
  intro args hp nx w0 O w H hv
  unfold spRNamed15 at hv ⊢
  split at hv
  · next k A n c q =>
    obtain ⟨h1, hn, hz⟩ := stR_vc hv
    obtain ⟨hl, hh⟩ := NdR_hold h1 (H.hold k)
    have ho := rd_old (c := c) h1 hl
    generalize chL n (lookH hp k) = l at hl hh hz ho hv ⊢
    subst hl
    exact (rNamed15_any l hn hz q A c w ⟨⟨hh _, rfl⟩, trivial⟩).mono fun e w' h => stR_ok H ho h
  · exact hv.elim
end Pr
end Go.Proofs.YtpkldfkmokeamaaGreatDoor
/-
Chapter 15: Names, Calls; Strings, has.
-/
set_option linter.unusedSimpArgs false
set_option linter.unusedVariables false
namespace Go.Proofs.YtpkldfkmokeamaaGreatDoor
namespace Pr
open Go Go.RowKit En
open Ex Rf Go.Sort
def glNm : List (FuncId × Spc) := [(60, spNamed15), (61, spRNamed15)]
theorem glNm_ok : GOk Tryz.prog (lookG glNm) := lG_cons (by kernel_rfl) spNamed15_ok <| lG_cons (by kernel_rfl) spRNamed15_ok lG_nil
set_option maxRecDepth 100000 in
set_option maxHeartbeats 4000000 in
theorem aNames15_any (l : List Nd) (hlen : l.length ≤ 100000) (hz : zsN l) (A : Option Addr) (c bn on cn ba oa ca : Nat) (h4 : 4 ≤ cn) (h3 : 3 ≤ ca) (w : World) (h : allRd w.heap.size w (odHp l A c bn on cn ba oa ca)) :
    Calls Tryz.prog 29 #[.slice A l.length c] w (SoQ (oldOf (odHp l A c bn on cn ba oa ca)) (namV l 4) (chkV l).2 w) := by
  refine calls_go (args := [.g 1000 A l.length c]) (hp := odHp l A c bn on cn ba oa ca) (nx := 1001) (n := 200) (U := []) (V := []) (tl := tlSt) (gl := glNm) (post := SpP (namV l 4) (chkV l).2)
    followP tlSt_ok glNm_ok Tryz.func29 rfl (by kernel_rfl) (Nat.le_of_ble_eq_true (by kernel_rfl)) (by kernel_rfl) (by kernel_rfl) (hh_list h) (free_list (by simp [allLt, odHp, gHu, gHp])) ?_ ?_
  · exact fun s ys w' hp H => SpP_Q hp H
  intro L F T G nd va hE
  obtain ⟨hL, hF, hs, hv, hT, hG, hR, hI, hJ, hW⟩ := hE
  rw [Tryz.results29] at hF
  simp (maxSteps := 1000000) only [En.nN, En.E, En.evsC, List.map_cons, List.map_nil, Nat.reduceBEq, Nat.reduceAdd, Nat.reduceMul, Nat.reduceEqDiff, Nat.reduceLeDiff, Nat.reduceLT, ne_eq, reduceCtorEq, Int.reduceBEq, Int.reduceBNe, Int.reduceAdd, Int.reduceSub, Int.reduceMul, Int.reduceTDiv, Int.reduceTMod, Int.reduceNeg, En.bitN, Nat.testBit, Nat.reduceShiftRight, Nat.reduceShiftLeft, Nat.reduceAnd, Nat.reduceOr, Nat.reduceBNe, Int.reduceToNat, Nat.reduceSub, Int.reduceLE, Int.reduceLT] at hv
  simp only [En.at_nil, En.at_cons, En.ag_nil, En.ag_cons, and_true, tlSt, glNm, tlRe, tyStrs, tyInt, tyI64, tyBool, tyStr, tyErr, tyNode, tyNodes, tyInts] at hT hG
  by_cases h1 : (chkV l).2 = 0
  · have e0 : ((chkV l).2 == 0) = true := by rw [h1]; rfl
    simp (maxSteps := 10000000) only [En.E, En.evsC, List.map_cons, List.map_nil, Nat.reduceBEq, Nat.reduceAdd, Nat.reduceMul, Nat.reduceEqDiff, Nat.reduceLeDiff, Nat.reduceLT, ne_eq, reduceCtorEq, Int.reduceBEq, Int.reduceBNe, Int.reduceAdd, Int.reduceSub, Int.reduceMul, Int.reduceTDiv, Int.reduceTMod, Int.reduceNeg, En.bitN, Nat.testBit, Nat.reduceShiftRight, Nat.reduceShiftLeft, Nat.reduceAnd, Nat.reduceOr, Nat.reduceBNe, Int.reduceToNat, Nat.reduceSub, Int.reduceLE, Int.reduceLT, En.vV, hs, hv, hT, hG, hF, odHp, gHu, gHp, spNamed15_q, ckR, NdR_q, chL_q, globR_q, globU_q, hlen, hz, h4, h3, stR, e0]
    exact fun B d => .inr ⟨h1, _, B, d, rfl, rfl⟩
  · have e0 : ((chkV l).2 == 0) = false := by simpa using h1
    simp (maxSteps := 10000000) only [En.E, En.evsC, List.map_cons, List.map_nil, Nat.reduceBEq, Nat.reduceAdd, Nat.reduceMul, Nat.reduceEqDiff, Nat.reduceLeDiff, Nat.reduceLT, ne_eq, reduceCtorEq, Int.reduceBEq, Int.reduceBNe, Int.reduceAdd, Int.reduceSub, Int.reduceMul, Int.reduceTDiv, Int.reduceTMod, Int.reduceNeg, En.bitN, Nat.testBit, Nat.reduceShiftRight, Nat.reduceShiftLeft, Nat.reduceAnd, Nat.reduceOr, Nat.reduceBNe, Int.reduceToNat, Nat.reduceSub, Int.reduceLE, Int.reduceLT, En.vV, hs, hv, hT, hG, hF, odHp, gHu, gHp, spNamed15_q, ckR, NdR_q, chL_q, globR_q, globU_q, hlen, hz, h4, h3, stR, e0]
    exact .inl ⟨h1, rfl⟩
def spNames15 : Spc
  | [.g k A n c], H, nx => stR (ckR A n c k H) (namV (chL n (H k)) 4) (chkV (chL n (H k))).2 nx
  | _, _, _ => .bad
theorem spNames15_q {k n c : Nat} {A : Option Addr} {H : Nat → Ch} {nx : Nat} : spNames15 [.g k A n c] H nx = stR (ckR A n c k H) (namV (chL n (H k)) 4) (chkV (chL n (H k))).2 nx := rfl
theorem spNames15_ok : SpecOk Tryz.prog 29 spNames15 := by
  intro args hp nx w0 O w H hv
  unfold spNames15 at hv ⊢
  split at hv
  · next k A n c =>
    have hc := stR_vc hv
    obtain ⟨bn, on, cn, ba, oa, ca, h4, h3, hl, hr, ho⟩ := ck_old H hc rfl
    obtain ⟨_, hn, hz, _⟩ := hc
    generalize chL n (lookH hp k) = l at hl hz hr ho hv ⊢
    subst hl
    exact (aNames15_any l hn hz A c bn on cn ba oa ca h4 h3 w hr).mono fun e w' h => stR_ok H ho h
  · exact hv.elim
set_option maxRecDepth 100000 in
set_option maxHeartbeats 4000000 in
theorem aCalls15_any (l : List Nd) (hlen : l.length ≤ 100000) (hz : zsN l) (A : Option Addr) (c bn on cn ba oa ca : Nat) (h4 : 4 ≤ cn) (h3 : 3 ≤ ca) (w : World) (h : allRd w.heap.size w (odHp l A c bn on cn ba oa ca)) :
    Calls Tryz.prog 32 #[.slice A l.length c] w (SoQ (oldOf (odHp l A c bn on cn ba oa ca)) (namV l 6) (chkV l).2 w) := by
  refine calls_go (args := [.g 1000 A l.length c]) (hp := odHp l A c bn on cn ba oa ca) (nx := 1001) (n := 200) (U := []) (V := []) (tl := tlSt) (gl := glNm) (post := SpP (namV l 6) (chkV l).2)
    followP tlSt_ok glNm_ok Tryz.func32 rfl (by kernel_rfl) (Nat.le_of_ble_eq_true (by kernel_rfl)) (by kernel_rfl) (by kernel_rfl) (hh_list h) (free_list (by simp [allLt, odHp, gHu, gHp])) ?_ ?_
  · exact fun s ys w' hp H => SpP_Q hp H
  intro L F T G nd va hE
  obtain ⟨hL, hF, hs, hv, hT, hG, hR, hI, hJ, hW⟩ := hE
  rw [Tryz.results32] at hF
  simp (maxSteps := 1000000) only [En.nN, En.E, En.evsC, List.map_cons, List.map_nil, Nat.reduceBEq, Nat.reduceAdd, Nat.reduceMul, Nat.reduceEqDiff, Nat.reduceLeDiff, Nat.reduceLT, ne_eq, reduceCtorEq, Int.reduceBEq, Int.reduceBNe, Int.reduceAdd, Int.reduceSub, Int.reduceMul, Int.reduceTDiv, Int.reduceTMod, Int.reduceNeg, En.bitN, Nat.testBit, Nat.reduceShiftRight, Nat.reduceShiftLeft, Nat.reduceAnd, Nat.reduceOr, Nat.reduceBNe, Int.reduceToNat, Nat.reduceSub, Int.reduceLE, Int.reduceLT] at hv
  simp only [En.at_nil, En.at_cons, En.ag_nil, En.ag_cons, and_true, tlSt, glNm, tlRe, tyStrs, tyInt, tyI64, tyBool, tyStr, tyErr, tyNode, tyNodes, tyInts] at hT hG
  by_cases h1 : (chkV l).2 = 0
  · have e0 : ((chkV l).2 == 0) = true := by rw [h1]; rfl
    simp (maxSteps := 10000000) only [En.E, En.evsC, List.map_cons, List.map_nil, Nat.reduceBEq, Nat.reduceAdd, Nat.reduceMul, Nat.reduceEqDiff, Nat.reduceLeDiff, Nat.reduceLT, ne_eq, reduceCtorEq, Int.reduceBEq, Int.reduceBNe, Int.reduceAdd, Int.reduceSub, Int.reduceMul, Int.reduceTDiv, Int.reduceTMod, Int.reduceNeg, En.bitN, Nat.testBit, Nat.reduceShiftRight, Nat.reduceShiftLeft, Nat.reduceAnd, Nat.reduceOr, Nat.reduceBNe, Int.reduceToNat, Nat.reduceSub, Int.reduceLE, Int.reduceLT, En.vV, hs, hv, hT, hG, hF, odHp, gHu, gHp, spNamed15_q, ckR, NdR_q, chL_q, globR_q, globU_q, hlen, hz, h4, h3, stR, e0]
    exact fun B d => .inr ⟨h1, _, B, d, rfl, rfl⟩
  · have e0 : ((chkV l).2 == 0) = false := by simpa using h1
    simp (maxSteps := 10000000) only [En.E, En.evsC, List.map_cons, List.map_nil, Nat.reduceBEq, Nat.reduceAdd, Nat.reduceMul, Nat.reduceEqDiff, Nat.reduceLeDiff, Nat.reduceLT, ne_eq, reduceCtorEq, Int.reduceBEq, Int.reduceBNe, Int.reduceAdd, Int.reduceSub, Int.reduceMul, Int.reduceTDiv, Int.reduceTMod, Int.reduceNeg, En.bitN, Nat.testBit, Nat.reduceShiftRight, Nat.reduceShiftLeft, Nat.reduceAnd, Nat.reduceOr, Nat.reduceBNe, Int.reduceToNat, Nat.reduceSub, Int.reduceLE, Int.reduceLT, En.vV, hs, hv, hT, hG, hF, odHp, gHu, gHp, spNamed15_q, ckR, NdR_q, chL_q, globR_q, globU_q, hlen, hz, h4, h3, stR, e0]
    exact .inl ⟨h1, rfl⟩
def spCalls15 : Spc
  | [.g k A n c], H, nx => stR (ckR A n c k H) (namV (chL n (H k)) 6) (chkV (chL n (H k))).2 nx
  | _, _, _ => .bad
theorem spCalls15_q {k n c : Nat} {A : Option Addr} {H : Nat → Ch} {nx : Nat} : spCalls15 [.g k A n c] H nx = stR (ckR A n c k H) (namV (chL n (H k)) 6) (chkV (chL n (H k))).2 nx := rfl
theorem spCalls15_ok : SpecOk Tryz.prog 32 spCalls15 := by
  intro args hp nx w0 O w H hv
  unfold spCalls15 at hv ⊢
  split at hv
  · next k A n c =>
    have hc := stR_vc hv
    obtain ⟨bn, on, cn, ba, oa, ca, h4, h3, hl, hr, ho⟩ := ck_old H hc rfl
    obtain ⟨_, hn, hz, _⟩ := hc
    generalize chL n (lookH hp k) = l at hl hz hr ho hv ⊢
    subst hl
    exact (aCalls15_any l hn hz A c bn on cn ba oa ca h4 h3 w hr).mono fun e w' h => stR_ok H ho h
  · exact hv.elim
def tsH (xs ys : List ByteArray) (A : Option Addr) (c : Nat) (B : Option Addr) (d : Nat) : Hp := [(1000, .strs A c xs), (1001, .strs B d ys)]
def tsI (xs ys : List ByteArray) (A : Option Addr) (c : Nat) (B : Option Addr) (d i : Nat) : SS := ⟨[(0, .g 1000 A xs.length c), (1, .g 1001 B ys.length d), (5, .v (.int .i64 i))], tsH xs ys A c B d, 3000⟩
set_option maxRecDepth 100000 in
set_option maxHeartbeats 4000000 in
theorem strings15_any (xs ys : List ByteArray) (hx : xs.length ≤ 9223372036854775807) (hy : ys.length ≤ 9223372036854775807) (A : Option Addr) (c : Nat) (B : Option Addr) (d : Nat) (w : World) (h : allRd w.heap.size w (tsH xs ys A c B d)) :
    Calls Tryz.prog 31 #[.slice A xs.length c, .slice B ys.length d] w fun e w' => e = .returned (.bool (decide (xs = ys))) ∧ Below w.heap.size w w' := by
  obtain ⟨q, hq⟩ : ∃ q, q = decide (xs = ys) := ⟨_, rfl⟩
  rw [← hq]
  refine calls_go (args := [.g 1000 A xs.length c, .g 1001 B ys.length d]) (hp := tsH xs ys A c B d) (nx := 1002) (n := 1000) (U := [(1000000, 11)]) (V := []) (tl := tlSt) (gl := gl0) (post := fun s ys => ys = [.v (.bool q)])
    followP tlSt_ok gl0_ok Tryz.func31 rfl (by kernel_rfl) (Nat.le_of_ble_eq_true (by kernel_rfl)) (by kernel_rfl) (by kernel_rfl) (hh_list h) (free_list (by simp [allLt, tsH])) ?_ ?_
  · rintro s ys w' rfl H
    exact ⟨rfl, H.below⟩
  intro L F T G nd va hE
  obtain ⟨hL, hF, hs, hv, hT, hG, hR, hI, hJ, hW⟩ := hE
  rw [Tryz.results31] at hF
  simp (maxSteps := 1000000) only [En.nN, En.E, En.evsC, List.map_cons, List.map_nil, Nat.reduceBEq, Nat.reduceAdd, Nat.reduceMul, Nat.reduceEqDiff, Nat.reduceLeDiff, Nat.reduceLT, ne_eq, reduceCtorEq, Int.reduceBEq, Int.reduceBNe, Int.reduceAdd, Int.reduceSub, Int.reduceMul, Int.reduceTDiv, Int.reduceTMod, Int.reduceNeg, En.bitN, Nat.testBit, Nat.reduceShiftRight, Nat.reduceShiftLeft, Nat.reduceAnd, Nat.reduceOr, Nat.reduceBNe, Int.reduceToNat, Nat.reduceSub, Int.reduceLE, Int.reduceLT] at hv
  simp only [En.at_nil, En.at_cons, En.ag_nil, En.ag_cons, and_true, tlSt, gl0, tlRe, tyStrs, tyInt, tyI64, tyBool, tyStr, tyErr, tyNode, tyNodes, tyInts] at hT hG
  by_cases hl : xs.length = ys.length
  · have d0 : ((xs.length : Int) != (ys.length : Int)) = false := by rw [hl]; simp
    simp (maxSteps := 10000000) only [En.E, En.evsC, List.map_cons, List.map_nil, Nat.reduceBEq, Nat.reduceAdd, Nat.reduceMul, Nat.reduceEqDiff, Nat.reduceLeDiff, Nat.reduceLT, ne_eq, reduceCtorEq, Int.reduceBEq, Int.reduceBNe, Int.reduceAdd, Int.reduceSub, Int.reduceMul, Int.reduceTDiv, Int.reduceTMod, Int.reduceNeg, En.bitN, Nat.testBit, Nat.reduceShiftRight, Nat.reduceShiftLeft, Nat.reduceAnd, Nat.reduceOr, Nat.reduceBNe, Int.reduceToNat, Nat.reduceSub, Int.reduceLE, Int.reduceLT, En.vV, hs, hv, hT, hG, hF, tsH, d0]
    refine hI {i : Nat // i ≤ xs.length ∧ ∀ j, j < i → xs.getD j ByteArray.empty = ys.getD j ByteArray.empty} (fun x => tsI xs ys A c B d x.1) (fun x => xs.length - x.1) _ _ _ ⟨0, Nat.zero_le _, fun j hj => absurd hj (Nat.not_lt_zero j)⟩ (sle_all [1000, 1001] (by decide) (by simp only [En.E, En.evsC, List.map_cons, List.map_nil, Nat.reduceBEq, Nat.reduceAdd, Nat.reduceMul, Nat.reduceEqDiff, Nat.reduceLeDiff, Nat.reduceLT, ne_eq, reduceCtorEq, Int.reduceBEq, Int.reduceBNe, Int.reduceAdd, Int.reduceSub, Int.reduceMul, Int.reduceTDiv, Int.reduceTMod, Int.reduceNeg, En.bitN, Nat.testBit, Nat.reduceShiftRight, Nat.reduceShiftLeft, Nat.reduceAnd, Nat.reduceOr, Nat.reduceBNe, Int.reduceToNat, Nat.reduceSub, Int.reduceLE, Int.reduceLT, En.slLe, En.hpLe, En.chE, En.allLt, tsI, tsH, Int.cast_ofNat_Int])) ?_
    rintro ⟨i, hi, hp⟩
    refine hR 1000 _ _ ?_
    by_cases hlt : i < xs.length
    · have d1 : decide ((i : Int) < (xs.length : Int)) = true := decide_eq_true (by omega)
      have i1 : inr .i64 ((i : Int) + 1) := by simp only [En.inr, En.lo, En.hi]; omega
      have g1 : (0 : Int) ≤ i ∧ (i : Int) < xs.length := by omega
      have g2 : (0 : Int) ≤ i ∧ (i : Int) < ys.length := by omega
      by_cases he : xs.getD i ByteArray.empty = ys.getD i ByteArray.empty
      · have d5 : ((ys.getD i ByteArray.empty).toList == (ys.getD i ByteArray.empty).toList) = true := beq_self_eq_true _
        simp (maxSteps := 10000000) only [En.E, En.evsC, List.map_cons, List.map_nil, Nat.reduceBEq, Nat.reduceAdd, Nat.reduceMul, Nat.reduceEqDiff, Nat.reduceLeDiff, Nat.reduceLT, ne_eq, reduceCtorEq, Int.reduceBEq, Int.reduceBNe, Int.reduceAdd, Int.reduceSub, Int.reduceMul, Int.reduceTDiv, Int.reduceTMod, Int.reduceNeg, En.bitN, Nat.testBit, Nat.reduceShiftRight, Nat.reduceShiftLeft, Nat.reduceAnd, Nat.reduceOr, Nat.reduceBNe, Int.reduceToNat, Nat.reduceSub, Int.reduceLE, Int.reduceLT, En.vV, hs, hv, hT, hG, hF, tsI, tsH, d1, i1, g1, g2, he, bne, d5, Bool.not_true, Int.toNat_natCast]
        refine ⟨hlt, by omega, ⟨i + 1, hlt, fun j hj => ?_⟩, (sle_all [1000, 1001] (by decide) (by simp only [En.E, En.evsC, List.map_cons, List.map_nil, Nat.reduceBEq, Nat.reduceAdd, Nat.reduceMul, Nat.reduceEqDiff, Nat.reduceLeDiff, Nat.reduceLT, ne_eq, reduceCtorEq, Int.reduceBEq, Int.reduceBNe, Int.reduceAdd, Int.reduceSub, Int.reduceMul, Int.reduceTDiv, Int.reduceTMod, Int.reduceNeg, En.bitN, Nat.testBit, Nat.reduceShiftRight, Nat.reduceShiftLeft, Nat.reduceAnd, Nat.reduceOr, Nat.reduceBNe, Int.reduceToNat, Nat.reduceSub, Int.reduceLE, Int.reduceLT, En.slLe, En.hpLe, En.chE, En.allLt, tsI, tsH, Int.natCast_add, Int.cast_ofNat_Int])), by simp only; omega⟩
        by_cases e : j = i
        · subst e; exact he
        · exact hp j (by omega)
      · have d5 := str_ne he
        have hqq : q = false := by
          rw [hq]; exact decide_eq_false fun e => he (by rw [e])
        simp (maxSteps := 10000000) only [En.E, En.evsC, List.map_cons, List.map_nil, Nat.reduceBEq, Nat.reduceAdd, Nat.reduceMul, Nat.reduceEqDiff, Nat.reduceLeDiff, Nat.reduceLT, ne_eq, reduceCtorEq, Int.reduceBEq, Int.reduceBNe, Int.reduceAdd, Int.reduceSub, Int.reduceMul, Int.reduceTDiv, Int.reduceTMod, Int.reduceNeg, En.bitN, Nat.testBit, Nat.reduceShiftRight, Nat.reduceShiftLeft, Nat.reduceAnd, Nat.reduceOr, Nat.reduceBNe, Int.reduceToNat, Nat.reduceSub, Int.reduceLE, Int.reduceLT, En.vV, hs, hv, hT, hG, hF, tsI, tsH, d1, i1, g1, g2, bne, d5, Bool.not_false, hqq, Int.toNat_natCast]
        exact ⟨hlt, by omega⟩
    · have d1 : decide ((i : Int) < (xs.length : Int)) = false := decide_eq_false (by omega)
      have hqq : q = true := by
        rw [hq]
        refine decide_eq_true (List.ext_getElem hl fun j h1 h2 => ?_)
        have := hp j (by omega)
        rw [List.getD_eq_getElem?_getD, List.getElem?_eq_getElem h1, List.getD_eq_getElem?_getD, List.getElem?_eq_getElem h2] at this
        exact this
      simp (maxSteps := 10000000) only [En.E, En.evsC, List.map_cons, List.map_nil, Nat.reduceBEq, Nat.reduceAdd, Nat.reduceMul, Nat.reduceEqDiff, Nat.reduceLeDiff, Nat.reduceLT, ne_eq, reduceCtorEq, Int.reduceBEq, Int.reduceBNe, Int.reduceAdd, Int.reduceSub, Int.reduceMul, Int.reduceTDiv, Int.reduceTMod, Int.reduceNeg, En.bitN, Nat.testBit, Nat.reduceShiftRight, Nat.reduceShiftLeft, Nat.reduceAnd, Nat.reduceOr, Nat.reduceBNe, Int.reduceToNat, Nat.reduceSub, Int.reduceLE, Int.reduceLT, En.vV, hs, hv, hT, hG, hF, tsI, tsH, d1, hqq]
  · have d0 : ((xs.length : Int) != (ys.length : Int)) = true := by
      simp only [bne_iff_ne, ne_eq]; omega
    have hqq : q = false := by
      rw [hq]; exact decide_eq_false fun e => hl (by rw [e])
    simp (maxSteps := 10000000) only [En.E, En.evsC, List.map_cons, List.map_nil, Nat.reduceBEq, Nat.reduceAdd, Nat.reduceMul, Nat.reduceEqDiff, Nat.reduceLeDiff, Nat.reduceLT, ne_eq, reduceCtorEq, Int.reduceBEq, Int.reduceBNe, Int.reduceAdd, Int.reduceSub, Int.reduceMul, Int.reduceTDiv, Int.reduceTMod, Int.reduceNeg, En.bitN, Nat.testBit, Nat.reduceShiftRight, Nat.reduceShiftLeft, Nat.reduceAnd, Nat.reduceOr, Nat.reduceBNe, Int.reduceToNat, Nat.reduceSub, Int.reduceLE, Int.reduceLT, En.vV, hs, hv, hT, hG, hF, tsH, d0, hqq]
def strsR : Option (List ByteArray) → Option (List ByteArray) → Res
  | some xs, some ys => .is (xs.length ≤ 9223372036854775807 ∧ ys.length ≤ 9223372036854775807) (.v (.bool (decide (xs = ys))))
  | _, _ => .bad
def spStrs15 : Spc
  | [x, y], H, _ => strsR (getS H x) (getS H y)
  | _, _, _ => .bad
theorem spStrs15_q {x y : SV} {H : Nat → Ch} {nx : Nat} : spStrs15 [x, y] H nx = strsR (getS H x) (getS H y) := rfl
theorem strsR_q {xs ys : List ByteArray} : strsR (some xs) (some ys) = .is (xs.length ≤ 9223372036854775807 ∧ ys.length ≤ 9223372036854775807) (.v (.bool (decide (xs = ys)))) := rfl
theorem getS_g {H : Nat → Ch} {k n c : Nat} {A : Option Addr} : getS H (.g k A n c) = (match H k with | .strs A' c' xs => if A = A' ∧ n = xs.length ∧ c = c' then some xs else none | _ => none) := rfl
theorem spStrs15_ok : SpecOk Tryz.prog 31 spStrs15 := by
  intro args hp nx w0 O w H hv
  unfold spStrs15 at hv ⊢
  split at hv
  · next x y =>
    cases hx : getS (lookH hp) x with
    | none => rw [hx] at hv; exact hv.elim
    | some xs =>
      cases hy : getS (lookH hp) y with
      | none => rw [hx, hy] at hv; exact hv.elim
      | some ys =>
        rw [hx, hy] at hv
        obtain ⟨h1, h2⟩ := hv
        obtain ⟨A, c, e1, s1, _⟩ := getS_ok H hx
        obtain ⟨B, d, e2, s2, _⟩ := getS_ok H hy
        have : (dens [x, y]).toArray = #[.slice A xs.length c, .slice B ys.length d] := by rw [← e1, ← e2]; rfl
        rw [this]
        refine (strings15_any xs ys h1 h2 A c B d w ⟨⟨s1, rfl⟩, ⟨s2, rfl⟩, trivial⟩).mono ?_
        rintro e w' ⟨rfl, hb⟩
        exact ⟨⟨0, none, 0, none, 0, mz⟩, rfl, .still hb⟩
  · exact hv.elim
end Pr
end Go.Proofs.YtpkldfkmokeamaaGreatDoor
