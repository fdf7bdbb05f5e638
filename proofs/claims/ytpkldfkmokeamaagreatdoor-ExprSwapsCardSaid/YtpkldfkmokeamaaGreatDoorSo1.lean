/-
Chapter 15: slices.Sort and slices.Compact of strings.
-/
import Derived.Test.YtpkldfkmokeamaaGreatDoorNu1
import Derived.Test.YtpkldfkmokeamaaGreatDoorShelf2
import Derived.Sort.OwnSorted
import Derived.Lib.OwnBridge
import Derived.Shelf.SortM.SortNone
import Derived.Shelf.SortM.Plain
import Derived.Shelf.SlicesG.CompactS
set_option linter.unusedSimpArgs false
set_option linter.unusedVariables false
namespace Go.Proofs.YtpkldfkmokeamaaGreatDoor
namespace Pr
open Go Go.RowKit En
open Ex Rf Go.Sort
def bsV (u : List UInt8) : SV := .v (encStr u)
def bsS : SV → List UInt8
  | .v (.string s) => s.data.toList
  | _ => []
def bsL (cs : List SV) : List (List UInt8) := cs.map bsS
theorem bsL_v (us : List (List UInt8)) : bsL (us.map bsV) = us := by
  rw [bsL, List.map_map]
  conv => rhs; rw [← List.map_id us]
  exact List.map_congr_left fun u _ => rfl
theorem dens_bs (us : List (List UInt8)) : dens (us.map bsV) = us.map encStr := by rw [dens_eq, List.map_map]; rfl
def sortU (us : List (List UInt8)) : List (List UInt8) := us.mergeSort fun x y => decide (x ≤ y)
def soC (A : Option Addr) (c n : Nat) : Ch → Prop
  | .rowV A' c' _ z n' cs => A = A' ∧ c = c' ∧ z = 1 ∧ n = n' ∧ n ≤ 100000 ∧ cs = (bsL cs).map bsV
  | _ => False
def soU : Ch → List (List UInt8)
  | .rowV _ _ _ _ _ cs => bsL cs
  | _ => []
def soE : Ch → TypeId
  | .rowV _ _ e _ _ _ => e
  | _ => 0
theorem soC_inv {A : Option Addr} {c n : Nat} {x : Ch} (h : soC A c n x) : n ≤ 100000 ∧ x = .rowV A c (soE x) 1 n ((soU x).map bsV) := by
  unfold soC at h
  split at h
  · obtain ⟨rfl, rfl, rfl, rfl, h1, h2⟩ := h
    exact ⟨h1, by simp only [soE, soU]; rw [← h2]⟩
  · exact h.elim
def spSort : Spc
  | [.g k A n c], H, _ => .app (soC A c n (H k)) k fun _ _ => (.tup [], [(k, .rowV A c (soE (H k)) 1 n ((sortU (soU (H k))).map bsV))])
  | _, _, _ => .bad
theorem spSort_q {k n c nx : Nat} {A : Option Addr} {H : Nat → Ch} : spSort [.g k A n c] H nx = .app (soC A c n (H k)) k fun _ _ => (.tup [], [(k, .rowV A c (soE (H k)) 1 n ((sortU (soU (H k))).map bsV))]) := rfl
theorem soC_q {A : Option Addr} {c n : Nat} {e : TypeId} {us : List (List UInt8)} : soC A c n (.rowV A c e 1 n (us.map bsV)) = (n ≤ 100000) := by
  simp only [soC, true_and, bsL_v, and_true]
theorem soU_q {A : Option Addr} {c n z : Nat} {e : TypeId} {us : List (List UInt8)} : soU (.rowV A c e z n (us.map bsV)) = us := bsL_v us
theorem soE_q {A : Option Addr} {c n z : Nat} {e : TypeId} {cs : List SV} : soE (.rowV A c e z n cs) = e := rfl
theorem stp_row {O : Nat → Prop} {w0 w w' : World} {hp : Hp} {k g : Nat} {c : Ch} (H : HH w0 O hp w) (hm : mutb (lookH hp k) = true) (hg : foot (lookH hp k) g) (h : w.grownBy w' (some g)) (hh : Hold w0.heap.size w' c) (hf : ∀ b, foot c b → b = g) : Stp w0 hp w (some k) [(k, c)] w' := by
  have hk : ∀ j, has [(k, c)] j = true → j = k := by
    intro j h
    simp only [has] at h
    cases e : (k == j)
    · rw [e] at h; cases h
    · exact (eq_of_beq e).symm
  have hl : lookH [(k, c)] k = c := by simp [lookH]
  refine ⟨h.os, h.tape, h.output, h.size, fun b hb hn => h.block b hb ?_, fun j hj => ?_, fun j hj => ?_, fun j hj b hb => ?_, fun i j hij hi hj => ?_⟩
  · intro e
    cases e
    exact hn k rfl hg
  · cases hj
    exact ⟨hm, by simp [has]⟩
  · cases hk j hj; rw [hl]; exact hh
  · cases hk j hj
    rw [hl] at hb
    cases hf b hb
    exact .inr ⟨k, hg, .inl ⟨hm, by simp [has]⟩⟩
  · exact absurd ((hk i hi).trans (hk j hj).symm) hij
theorem spSort_ok : SpecOk Tryz.prog 82 spSort := by
  intro args hp nx w0 O w H hv
  unfold spSort at hv ⊢
  split at hv
  · next k A n c =>
    have hv : soC A c n (lookH hp k) := hv
    obtain ⟨hn, hx⟩ := soC_inv hv
    have hk := H.hold k
    rw [hx] at hk
    generalize soU (lookH hp k) = us at hx hk ⊢
    generalize soE (lookH hp k) = e at hx hk ⊢
    obtain ⟨h1, h2⟩ := hk
    rw [dens_bs, List.length_map, Nat.mul_one] at h1
    have hlen : (sortU us).length = us.length := by simp [sortU]
    rcases h2 with ⟨e0, h0⟩ | ⟨g, cap, cur, e0, hb, hg, g1, g2, g3, g4⟩
    · cases e0
      have hus : us = [] := List.eq_nil_of_length_eq_zero h1
      subst hus
      refine (AnyM.slices_Sort_string_none laysSort none 0 w).mono ?_
      rintro e w' ⟨rfl, rfl⟩
      refine ⟨⟨0, none, 0, none, 0, mz⟩, rfl, Stp.put (by rw [hx]; rfl) rfl rfl rfl rfl (fun _ _ => rfl) ⟨by rw [dens_bs, List.length_map]; simp [sortU], .inl ⟨rfl, rfl⟩⟩ ?_⟩
      rintro b ⟨a, ha, _⟩; cases ha
    · cases e0
      rw [dens_bs, Nat.mul_one] at g4
      have hgl : g < w.heap.size := (Array.getElem?_eq_some_iff.1 hg).1
      subst h1
      refine (AnyM.slices_Sort_string laysSort g 0 c us w (holds_of_block hg g4) hgl (by omega)).mono ?_
      rintro e' w' ⟨rfl, m, os, rfl⟩
      refine ⟨⟨0, none, 0, none, 0, mz⟩, rfl, stp_row H (g := g) (by rw [hx]; rfl) (by rw [hx]; exact ⟨_, rfl, rfl⟩) (grownBy_sorted _) ?_ ?_⟩
      · have := ownsRow_sorted (n := m) (os := os) (ts := sortU us) hlen hb hg g1 g2 g3
        show World.ownsRow _ _ _ _ _ _ _
        rw [dens_bs]
        exact this
      · rintro b ⟨a, ha, rfl⟩; cases ha; rfl
  · exact hv.elim
def spComp : Spc
  | [.g k A n c], H, _ => .app (soC A c n (H k)) k fun _ _ => (.g k A (Lib.compact (soU (H k))).length c, [(k, .rowV A c (soE (H k)) 1 (Lib.compact (soU (H k))).length ((Lib.compact (soU (H k))).map bsV))])
  | _, _, _ => .bad
theorem spComp_q {k n c nx : Nat} {A : Option Addr} {H : Nat → Ch} : spComp [.g k A n c] H nx = .app (soC A c n (H k)) k fun _ _ => (.g k A (Lib.compact (soU (H k))).length c, [(k, .rowV A c (soE (H k)) 1 (Lib.compact (soU (H k))).length ((Lib.compact (soU (H k))).map bsV))]) := rfl
theorem spComp_ok : SpecOk Tryz.prog 83 spComp := by
  intro args hp nx w0 O w H hv
  unfold spComp at hv ⊢
  split at hv
  · next k A n c =>
    have hv : soC A c n (lookH hp k) := hv
    obtain ⟨hn, hx⟩ := soC_inv hv
    have hk := H.hold k
    rw [hx] at hk
    generalize soU (lookH hp k) = us at hx hk ⊢
    generalize soE (lookH hp k) = e at hx hk ⊢
    have hk' := hk
    obtain ⟨h1, h2⟩ := hk
    rw [dens_bs, List.length_map, Nat.mul_one] at h1
    have hle := Lib.compact_length_le us
    rcases h2 with ⟨e0, h0⟩ | ⟨g, cap, cur, e0, hb, hg, g1, g2, g3, g4⟩
    · cases e0
      have hus : us = [] := List.eq_nil_of_length_eq_zero h1
      subst hus
      refine (AnyG.slices_Compact_string_empty laysCompact none 0 w).mono ?_
      rintro e w' ⟨rfl, rfl⟩
      refine ⟨⟨0, none, 0, none, 0, mz⟩, rfl, Stp.put (by rw [hx]; rfl) rfl rfl rfl rfl (fun _ _ => rfl) ⟨rfl, .inl ⟨rfl, rfl⟩⟩ ?_⟩
      rintro b ⟨a, ha, _⟩; cases ha
    · cases e0
      rw [dens_bs, Nat.mul_one] at g4
      subst h1
      refine (AnyG.slices_Compact_string laysCompact g 0 c us w (holds_of_block hg g4) (by omega) g1).mono ?_
      rintro e' w' ⟨rfl, m, rfl⟩
      refine ⟨⟨0, none, 0, none, 0, mz⟩, rfl, stp_row H (g := g) (by rw [hx]; rfl) (by rw [hx]; exact ⟨_, rfl, rfl⟩) ?_ ?_ ?_⟩
      · have := grownBy_sorted (w := w) (g := g) (n := m) (os := #[]) (Lib.compact us ++ List.replicate (us.length - (Lib.compact us).length) []).toArray
        rwa [grow_empty] at this
      · have h3 : w.ownsRow w0.heap.size e 1 (.slice (some ⟨g, 0, none⟩) us.length c) us.length (us.map encStr) := by
          have : w.ownsRow w0.heap.size e 1 (.slice (some ⟨g, 0, none⟩) us.length c) us.length (dens (us.map bsV)) := hk'
          rwa [dens_bs] at this
        have h4 := Lib.ownsRow_putRow (q := m) (ys := Lib.compact us ++ List.replicate (us.length - (Lib.compact us).length) []) (k := (Lib.compact us).length) h3 (by simp; omega) hle
        rw [List.take_left' rfl] at h4
        show World.ownsRow _ _ _ _ _ _ _
        rw [dens_bs]
        exact h4
      · rintro b ⟨a, ha, rfl⟩; cases ha; rfl
  · exact hv.elim
theorem at_arr {us : List (List UInt8)} {j : Nat} (h : j < us.length) : us.toArray[j]! = us[j] := by simp [getElem!_pos, h]
theorem mem_compact {us : List (List UInt8)} : ∀ x, x ∈ Lib.compact us ↔ x ∈ us := by
  intro x
  constructor
  · intro h
    obtain ⟨j, hj, rfl⟩ := List.mem_map.1 h
    have hj := List.mem_range.1 (List.mem_filter.1 hj).1
    rw [at_arr hj]; exact List.getElem_mem hj
  · intro h
    obtain ⟨j, hj, rfl⟩ := List.mem_iff_getElem.1 h
    clear h
    induction j with
    | zero =>
      refine List.mem_map.2 ⟨0, List.mem_filter.2 ⟨List.mem_range.2 hj, by simp [Lib.keeps]⟩, at_arr hj⟩
    | succ j ih =>
      by_cases e : us[j + 1] = us[j]
      · rw [e]; exact ih (by omega)
      · refine List.mem_map.2 ⟨j + 1, List.mem_filter.2 ⟨List.mem_range.2 hj, ?_⟩, at_arr hj⟩
        simp only [Lib.keeps, decide_eq_true_eq]
        right
        rw [at_arr hj, Nat.add_sub_cancel, at_arr (by omega)]
        exact e
end Pr
end Go.Proofs.YtpkldfkmokeamaaGreatDoor
/-
Chapter 15: expr.named.
-/
set_option linter.unusedSimpArgs false
set_option linter.unusedVariables false
namespace Go.Proofs.YtpkldfkmokeamaaGreatDoor
namespace Pr
open Go Go.RowKit En
open Ex Rf Go.Sort
def nmU (x : Nd) : List UInt8 := x.nm.data.toList
theorem bs_nm (x : Nd) : bsV (nmU x) = .v (.string x.nm) := rfl
def namU (l : List Nd) (q : Int) : List (List UInt8) := (l.filter fun x => x.k == q).map nmU
def resU (l : List Nd) (q : Int) : List (List UInt8) := Lib.compact (sortU (namU l q))
theorem nam_snoc {l : List Nd} {q : Int} {i : Nat} (hi : i < l.length) : namU (l.take (i + 1)) q = namU (l.take i) q ++ bif (ndAt l i).k == q then [nmU (ndAt l i)] else [] := by
  have e : l[i] = ndAt l i := by simp [ndAt, List.getD_eq_getElem?_getD, hi]
  rw [namU, List.take_succ_eq_append_getElem hi, List.filter_append, List.map_append, e]
  congr 1
  cases h : (ndAt l i).k == q <;> simp [List.filter_cons, h]
theorem nam_len (l : List Nd) (q : Int) (i : Nat) : (namU (l.take i) q).length ≤ l.length := by
  rw [namU, List.length_map]
  exact Nat.le_trans (List.length_filter_le _ _) (by rw [List.length_take]; omega)
theorem res_mem (l : List Nd) (q : Int) (x : List UInt8) : x ∈ resU l q ↔ x ∈ namU l q := by
  rw [resU, mem_compact, sortU, List.mem_mergeSort]
theorem res_len (l : List Nd) (q : Int) : (resU l q).length ≤ l.length := by
  refine Nat.le_trans (Lib.compact_length_le _) ?_
  rw [sortU, List.length_mergeSort, namU, List.length_map]
  exact List.length_filter_le _ _
def stC (A : Option Addr) (c : Nat) (us : List (List UInt8)) : Ch := .recs A c 1 us.length fun i => [bsV (us.getD i [])]
theorem row_strs {B B' : Nat} {w : World} {A : Option Addr} {c n : Nat} {e : TypeId} {us : List (List UInt8)} (h : Hold B w (.rowV A c e 1 n (us.map bsV))) (hn : n = us.length) : Hold B' w (stC A c us) := by
  subst hn
  refine ⟨(row_sl h).congr fun i hi j hj => ?_, fun i hi => rfl⟩
  obtain rfl : j = 0 := by omega
  rw [dens_bs, Nat.mul_one, Nat.add_zero, List.getD_eq_getElem?_getD, List.getElem?_map, List.getElem?_eq_getElem hi]
  show encStr us[i] = encStr (us.getD i [])
  rw [List.getD_eq_getElem?_getD, List.getElem?_eq_getElem hi]; rfl
def baU (u : List UInt8) : ByteArray := ⟨u.toArray⟩
def namV (l : List Nd) (q : Int) : List ByteArray := (resU l q).map baU
theorem st_strs {B B' : Nat} {w : World} {A : Option Addr} {c : Nat} {us : List (List UInt8)} (h : Hold B w (stC A c us)) : Hold B' w (.strs A c (us.map baU)) := by
  show SlOk w A c 1 (us.map baU).length _
  rw [List.length_map]
  refine h.1.congr fun i hi j hj => ?_
  obtain rfl : j = 0 := by omega
  show encStr (us.getD i []) = .string ((us.map baU).getD i ByteArray.empty)
  rw [List.getD_eq_getElem?_getD, List.getElem?_eq_getElem hi, List.getD_eq_getElem?_getD, List.getElem?_map, List.getElem?_eq_getElem hi]
  rfl
def stR (c : Prop) (xs : List ByteArray) (er : Int) (nx : Nat) : Res := bif er == 0 then .val c fun B d => (.tup [.g nx B xs.length d, .v (.int .i64 0)], [(nx, .strs B d xs)]) else .is c (.tup [.v (.slice none 0 0), .v (.int .i64 er)])
theorem stR_y {c : Prop} {xs : List ByteArray} {er : Int} {nx : Nat} (h : er = 0) : stR c xs er nx = .val c fun B d => (.tup [.g nx B xs.length d, .v (.int .i64 0)], [(nx, .strs B d xs)]) := by rw [stR, h]; rfl
theorem stR_n {c : Prop} {xs : List ByteArray} {er : Int} {nx : Nat} (h : er ≠ 0) : stR c xs er nx = .is c (.tup [.v (.slice none 0 0), .v (.int .i64 er)]) := by
  have : (er == 0) = false := by simpa using h
  rw [stR, this]; rfl
theorem stR_vc {c : Prop} {xs : List ByteArray} {er : Int} {nx : Nat} (h : (stR c xs er nx).vc) : c := by
  unfold stR at h
  cases hq : (er == 0) <;> rw [hq] at h <;> exact h
def SoP (us : List (List UInt8)) (er : Int) (s : SS) (ys : List SV) : Prop := (er ≠ 0 ∧ ys = [.v (.slice none 0 0), .v (.int .i64 er)]) ∨
  (er = 0 ∧ ∃ (k : Nat) (A : Option Addr) (c : Nat) (e : TypeId), ys = [.g k A us.length c, .v (.int .i64 0)] ∧ (lookH s.hp k = .rowV A c e 1 us.length (us.map bsV) ∨ lookH s.hp k = stC A c us))
def SoQ (O : Nat → Prop) (xs : List ByteArray) (er : Int) (w : World) (e : Ending) (w' : World) : Prop := Below w.heap.size w w' ∧ ((er ≠ 0 ∧ e = .returned (.tuple #[.slice none 0 0, .int .i64 er])) ∨
  (er = 0 ∧ ∃ B d, e = .returned (.tuple #[.slice B xs.length d, .int .i64 0]) ∧ Hold w.heap.size w' (.strs B d xs) ∧ ∀ b, foot (.strs B d xs) b → w.heap.size ≤ b ∨ O b))
theorem SoP_Q {us : List (List UInt8)} {er : Int} {w w' : World} {hp : Hp} {s : SS} {ys : List SV} (h : SoP us er s ys) (H : HH w (oldOf hp) s.hp w') : SoQ (oldOf hp) (us.map baU) er w (.returned (oneV ys)) w' := by
  have hne : us.map baU ≠ [] → us.length ≠ 0 := fun h e => h (by rw [List.eq_nil_of_length_eq_zero e]; rfl)
  rcases h with ⟨h0, rfl⟩ | ⟨h0, k, A, c, e, rfl, hk | hk⟩
  · exact ⟨H.below, .inl ⟨h0, rfl⟩⟩
  · have hb := H.hold k
    have ho := H.old k
    rw [hk] at hb ho
    exact ⟨H.below, .inr ⟨h0, A, c, by rw [List.length_map]; rfl, st_strs (B := 0) (row_strs hb rfl), fun b hf => ho b hf.2⟩⟩
  · have hb := H.hold k
    have ho := H.old k
    rw [hk] at hb ho
    exact ⟨H.below, .inr ⟨h0, A, c, by rw [List.length_map]; rfl, st_strs hb, fun b hf => ho b ⟨hne hf.1, hf.2⟩⟩⟩
def SpP (xs : List ByteArray) (er : Int) (s : SS) (ys : List SV) : Prop := (er ≠ 0 ∧ ys = [.v (.slice none 0 0), .v (.int .i64 er)]) ∨
  (er = 0 ∧ ∃ (k : Nat) (A : Option Addr) (c : Nat), ys = [.g k A xs.length c, .v (.int .i64 0)] ∧ lookH s.hp k = .strs A c xs)
theorem SpP_Q {xs : List ByteArray} {er : Int} {w w' : World} {hp : Hp} {s : SS} {ys : List SV} (h : SpP xs er s ys) (H : HH w (oldOf hp) s.hp w') : SoQ (oldOf hp) xs er w (.returned (oneV ys)) w' := by
  rcases h with ⟨h0, rfl⟩ | ⟨h0, k, A, c, rfl, hk⟩
  · exact ⟨H.below, .inl ⟨h0, rfl⟩⟩
  · have hb := H.hold k
    have ho := H.old k
    rw [hk] at hb ho
    exact ⟨H.below, .inr ⟨h0, A, c, rfl, hb, ho⟩⟩
theorem stR_ok {c : Prop} {xs : List ByteArray} {er : Int} {nx : Nat} {O O' : Nat → Prop} {w0 w w' : World} {hp : Hp} {e : Ending} (H : HH w0 O' hp w) (hO : ∀ b, O b → ∃ j, foot (lookH hp j) b ∧ mutb (lookH hp j) = false) (h : SoQ O xs er w e w') :
    ∃ u, e = .returned (den ((stR c xs er nx).out u).1) ∧ Stp w0 hp w (stR c xs er nx).wr ((stR c xs er nx).out u).2 w' := by
  obtain ⟨hb, ⟨h0, rfl⟩ | ⟨h0, B, d, rfl, hs, hf⟩⟩ := h
  · simp only [stR_n h0]
    exact ⟨⟨0, none, 0, none, 0, mz⟩, rfl, .still hb⟩
  · simp only [stR_y h0]
    refine ⟨⟨0, B, d, none, 0, mz⟩, rfl, Stp.rd hb ⟨⟨hs, rfl⟩, trivial⟩ fun k b' hx => ?_⟩
    exact foot_look (Q := fun b => w.heap.size ≤ b ∨ ∃ j, foot (lookH hp j) b ∧ mutb (lookH hp j) = false) (l := [(_, _)]) ⟨fun b hb => (hf b hb).imp id (hO b), trivial⟩ hx
def tlSt : List (TypeId × TI) := tyStrs :: tlRe
theorem tlSt_ok : TyAll Tryz.prog (lookT tlSt) := tyAll_p tyStrs_ok tlRe_ok
def glNd : List (FuncId × Spc) := [(13, spExC), (82, spSort), (83, spComp)]
theorem glNd_ok : GOk Tryz.prog (lookG glNd) := lG_cons (by kernel_rfl) spExC_ok <| lG_cons (by kernel_rfl) spSort_ok <| lG_cons (by kernel_rfl) spComp_ok lG_nil
section
variable (l : List Nd) (A : Option Addr) (c bn on cn ba oa ca : Nat) (q : Int)
def ndI (i : Nat) (E : Option Addr) (e : Nat) : SS := ⟨[(0, .g 1000 A l.length c), (1, .v (.int .i64 q)), (8, .g 1001 E (namU (l.take i) q).length e), (19, .g 1000 A l.length c), (20, .v (.int .i64 l.length)), (21, .v (.int .i64 i))],
  (1001, .rowV E e 9 1 (namU (l.take i) q).length ((namU (l.take i) q).map bsV)) :: odHp l A c bn on cn ba oa ca, 30000⟩
end
set_option maxRecDepth 100000 in
set_option maxHeartbeats 4000000 in
theorem named15_any (l : List Nd) (hlen : l.length ≤ 100000) (hz : zsN l) (q : Int) (A : Option Addr) (c bn on cn ba oa ca : Nat) (h4 : 4 ≤ cn) (h3 : 3 ≤ ca) (w : World) (h : allRd w.heap.size w (odHp l A c bn on cn ba oa ca)) :
    Calls Tryz.prog 60 #[.slice A l.length c, .int .i64 q] w (SoQ (oldOf (odHp l A c bn on cn ba oa ca)) (namV l q) (chkV l).2 w) := by
  refine calls_go (args := [.g 1000 A l.length c, .v (.int .i64 q)]) (hp := odHp l A c bn on cn ba oa ca) (nx := 1002) (n := 2000) (U := [(1000000, 22)]) (V := []) (tl := tlSt) (gl := glNd) (post := SoP (resU l q) (chkV l).2)
    followP tlSt_ok glNd_ok Tryz.func60 rfl (by kernel_rfl) (Nat.le_of_ble_eq_true (by kernel_rfl)) (by kernel_rfl) (by kernel_rfl) (hh_list h) (free_list (by simp [allLt, odHp, gHu, gHp])) ?_ ?_
  · exact fun s ys w' hp H => SoP_Q hp H
  intro L F T G nd va hE
  obtain ⟨hL, hF, hs, hv, hT, hG, hR, hI, hJ, hW⟩ := hE
  rw [Tryz.results60] at hF
  simp (maxSteps := 1000000) only [En.nN, En.E, En.evsC, List.map_cons, List.map_nil, Nat.reduceBEq, Nat.reduceAdd, Nat.reduceMul, Nat.reduceEqDiff, Nat.reduceLeDiff, Nat.reduceLT, ne_eq, reduceCtorEq, Int.reduceBEq, Int.reduceBNe, Int.reduceAdd, Int.reduceSub, Int.reduceMul, Int.reduceNeg, Nat.reduceBNe, Int.reduceToNat, Nat.reduceSub, Int.reduceLE, Int.reduceLT] at hv
  simp only [En.at_nil, En.at_cons, En.ag_nil, En.ag_cons, and_true, tlSt, glNd, tlRe, tyStrs, tyInt, tyI64, tyBool, tyStr, tyErr, tyNode, tyNodes, tyInts] at hT hG
  have b07 : ((0 : Int) != 0) = false := rfl
  by_cases h1 : (chkV l).2 = 0
  · simp (maxSteps := 10000000) only [En.E, En.evsC, List.map_cons, List.map_nil, Nat.reduceBEq, Nat.reduceAdd, Nat.reduceMul, Nat.reduceEqDiff, Nat.reduceLeDiff, Nat.reduceLT, ne_eq, reduceCtorEq, Int.reduceBEq, Int.reduceBNe, Int.reduceAdd, Int.reduceSub, Int.reduceMul, Int.reduceNeg, Nat.reduceBNe, Int.reduceToNat, Nat.reduceSub, Int.reduceLE, Int.reduceLT, En.vV, hs, hv, hT, hG, hF, odHp, gHu, gHp, spExC_q, ckR, NdR_q, chL_q, globR_q, globU_q, hlen, hz, h4, h3, h1, b07]
    refine hW _ _ _ (sle_hp (hp := (1001, .rowV none 0 9 1 0 []) :: _) (fun w0 O w H => hh_row0 H) fun k hk hn => ?_) ?_
    · have : (1001 == k) = false := by simp only [] at hk; simp; omega
      simp only [lookH, this, cond_false]; exact hn
    refine hI {x : Nat × Option Addr × Nat // x.1 ≤ l.length} (fun x => ndI l A c bn on cn ba oa ca q x.1.1 x.1.2.1 x.1.2.2) (fun x => l.length - x.1.1) _ _ _
      ⟨(0, none, 0), Nat.zero_le _⟩ (sle_all [1001, 1000, 4, 5, 0, 1, 2, 3] (by decide) (by simp only [En.E, En.evsC, List.map_cons, List.map_nil, Nat.reduceBEq, Nat.reduceAdd, Nat.reduceMul, Nat.reduceEqDiff, Nat.reduceLeDiff, Nat.reduceLT, ne_eq, reduceCtorEq, Int.reduceBEq, Int.reduceBNe, Int.reduceAdd, Int.reduceSub, Int.reduceMul, Int.reduceNeg, Nat.reduceBNe, Int.reduceToNat, Nat.reduceSub, Int.reduceLE, Int.reduceLT, En.slLe, En.hpLe, En.chE, En.allLt, ndI, odHp, gHu, gHp, namU, List.take_zero, List.filter_nil, List.map_nil, List.length_nil, rp0_s, Int.cast_ofNat_Int])) ?_
    rintro ⟨⟨i, E, e⟩, hi⟩
    simp only at hi
    by_cases hlt : i < l.length
    · have d1 : decide ((i : Int) < (l.length : Int)) = true := decide_eq_true (by omega)
      have i1 : inr .i64 ((i : Int) + 1) := by simp only [En.inr, En.lo, En.hi]; omega
      have g1 : (0 : Int) ≤ i ∧ (i : Int) < l.length := by omega
      have hA : ¬A = none := slok_some h.1.1.1 (by omega)
      have hrl := nam_len l q i
      have hsn := nam_snoc (q := q) hlt
      have hX : ndC (ndAt l i) = [.v (.int .i64 (ndAt l i).k), .v (.int .i64 (ndAt l i).p), .v (.int .i64 (ndAt l i).c), .v (.string (ndAt l i).nm), .v (.string (ndAt l i).tx), .v (.int .i64 (ndAt l i).n), .v (.int .i64 (ndAt l i).s)] := rfl
      have ln : ∀ us : List (List UInt8), lenS (us.map bsV) = us.length := fun us => by rw [lenS_eq, List.length_map]
      refine hR 4000 _ _ ?_
      cases d4 : (ndAt l i).k == q with
      | true =>
        rw [d4, cond_true] at hsn
        simp (maxSteps := 10000000) only [En.E, En.evsC, List.map_cons, List.map_nil, Nat.reduceBEq, Nat.reduceAdd, Nat.reduceMul, Nat.reduceEqDiff, Nat.reduceLeDiff, Nat.reduceLT, ne_eq, reduceCtorEq, Int.reduceBEq, Int.reduceBNe, Int.reduceAdd, Int.reduceSub, Int.reduceMul, Int.reduceNeg, Nat.reduceBNe, Int.reduceToNat, Nat.reduceSub, Int.reduceLE, Int.reduceLT, En.vV, hs, hv, hT, hG, hF, ndI, odHp, gHu, gHp, d1, d4, i1, hX, g1, hA, Int.toNat_natCast]
        exact ⟨hlt, fun b b1 => ⟨⟨by omega, by omega⟩, fun A1 c1 => ⟨⟨(i + 1, A1, c1), hlt⟩, (sle_all [31536, 1000, 4, 5, 0, 1, 2, 3] (by decide) (by simp only [En.E, En.evsC, List.map_cons, List.map_nil, Nat.reduceBEq, Nat.reduceAdd, Nat.reduceMul, Nat.reduceEqDiff, Nat.reduceLeDiff, Nat.reduceLT, ne_eq, reduceCtorEq, Int.reduceBEq, Int.reduceBNe, Int.reduceAdd, Int.reduceSub, Int.reduceMul, Int.reduceNeg, Nat.reduceBNe, Int.reduceToNat, Nat.reduceSub, Int.reduceLE, Int.reduceLT, En.slLe, En.hpLe, En.chE, En.allLt, ndI, odHp, gHu, gHp, hsn, List.map_append, List.map_cons, List.map_nil, List.length_append, List.length_cons, List.length_nil, Nat.zero_add, bs_nm, rpgg, Int.natCast_add, Int.cast_ofNat_Int])), by simp only; omega⟩⟩⟩
      | false =>
        rw [d4, cond_false, List.append_nil] at hsn
        simp (maxSteps := 10000000) only [En.E, En.evsC, List.map_cons, List.map_nil, Nat.reduceBEq, Nat.reduceAdd, Nat.reduceMul, Nat.reduceEqDiff, Nat.reduceLeDiff, Nat.reduceLT, ne_eq, reduceCtorEq, Int.reduceBEq, Int.reduceBNe, Int.reduceAdd, Int.reduceSub, Int.reduceMul, Int.reduceNeg, Nat.reduceBNe, Int.reduceToNat, Nat.reduceSub, Int.reduceLE, Int.reduceLT, En.vV, hs, hv, hT, hG, hF, ndI, odHp, gHu, gHp, d1, d4, i1, hX, g1, hA, Int.toNat_natCast]
        exact ⟨hlt, fun b => ⟨⟨(i + 1, E, e), hlt⟩, (sle_all [1001, 1000, 4, 5, 0, 1, 2, 3] (by decide) (by simp only [En.E, En.evsC, List.map_cons, List.map_nil, Nat.reduceBEq, Nat.reduceAdd, Nat.reduceMul, Nat.reduceEqDiff, Nat.reduceLeDiff, Nat.reduceLT, ne_eq, reduceCtorEq, Int.reduceBEq, Int.reduceBNe, Int.reduceAdd, Int.reduceSub, Int.reduceMul, Int.reduceNeg, Nat.reduceBNe, Int.reduceToNat, Nat.reduceSub, Int.reduceLE, Int.reduceLT, En.slLe, En.hpLe, En.chE, En.allLt, ndI, odHp, gHu, gHp, hsn, Int.natCast_add, Int.cast_ofNat_Int])), by simp only; omega⟩⟩
    · have d1 : decide ((i : Int) < (l.length : Int)) = false := decide_eq_false (by omega)
      obtain rfl : i = l.length := by omega
      refine hR 4000 _ _ ?_
      have hr2 := nam_len l q l.length
      have hr3 : (sortU (namU l q)).length = (namU l q).length := by rw [sortU, List.length_mergeSort]
      rw [List.take_length] at hr2
      have hr4 : (namU l q).length ≤ 100000 := by omega
      simp (maxSteps := 10000000) only [En.E, En.evsC, List.map_cons, List.map_nil, Nat.reduceBEq, Nat.reduceAdd, Nat.reduceMul, Nat.reduceEqDiff, Nat.reduceLeDiff, Nat.reduceLT, ne_eq, reduceCtorEq, Int.reduceBEq, Int.reduceBNe, Int.reduceAdd, Int.reduceSub, Int.reduceMul, Int.reduceNeg, Nat.reduceBNe, Int.reduceToNat, Nat.reduceSub, Int.reduceLE, Int.reduceLT, En.vV, hs, hv, hT, hG, hF, ndI, odHp, gHu, gHp, d1, List.take_length, Int.toNat_natCast, spSort_q, spComp_q, soC_q, soU_q, soE_q, hr4]
      exact .inr ⟨h1, 1001, E, e, _, rfl, .inl rfl⟩
  · have d3 : ((chkV l).2 != 0) = true := by simpa using h1
    simp (maxSteps := 10000000) only [En.E, En.evsC, List.map_cons, List.map_nil, Nat.reduceBEq, Nat.reduceAdd, Nat.reduceMul, Nat.reduceEqDiff, Nat.reduceLeDiff, Nat.reduceLT, ne_eq, reduceCtorEq, Int.reduceBEq, Int.reduceBNe, Int.reduceAdd, Int.reduceSub, Int.reduceMul, Int.reduceNeg, Nat.reduceBNe, Int.reduceToNat, Nat.reduceSub, Int.reduceLE, Int.reduceLT, En.vV, hs, hv, hT, hG, hF, odHp, gHu, gHp, spExC_q, ckR, NdR_q, chL_q, globR_q, globU_q, hlen, hz, h4, h3, d3]
    exact .inl ⟨h1, rfl⟩
def spNamed15 : Spc
  | [.g k A n c, .v (.int .i64 q)], H, nx => stR (ckR A n c k H) (namV (chL n (H k)) q) (chkV (chL n (H k))).2 nx
  | _, _, _ => .bad
theorem spNamed15_q {k n c : Nat} {A : Option Addr} {q : Int} {H : Nat → Ch} {nx : Nat} : spNamed15 [.g k A n c, .v (.int .i64 q)] H nx = stR (ckR A n c k H) (namV (chL n (H k)) q) (chkV (chL n (H k))).2 nx := rfl
theorem spNamed15_ok : SpecOk Tryz.prog 60 spNamed15 := by
  intro args hp nx w0 O w H hv
  unfold spNamed15 at hv ⊢
  split at hv
  · next k A n c q =>
    have hc := stR_vc hv
    obtain ⟨bn, on, cn, ba, oa, ca, h4, h3, hl, hr, ho⟩ := ck_old H hc rfl
    obtain ⟨_, hn, hz, _⟩ := hc
    generalize chL n (lookH hp k) = l at hl hz hr ho hv ⊢
    subst hl
    exact (named15_any l hn hz q A c bn on cn ba oa ca h4 h3 w hr).mono fun e w' h => stR_ok H ho h
  · exact hv.elim
end Pr
end Go.Proofs.YtpkldfkmokeamaaGreatDoor
/-
Chapter 15: the reference's named.
-/
set_option linter.unusedSimpArgs false
set_option linter.unusedVariables false
namespace Go.Proofs.YtpkldfkmokeamaaGreatDoor
namespace Pr
open Go Go.RowKit En
open Ex Rf Go.Sort
theorem put_mem {us : List (List UInt8)} {v x : List UInt8} {k : Nat} : x ∈ us.take k ++ v :: us.drop k ↔ x ∈ us ∨ x = v := by
  conv => rhs; rw [← List.take_append_drop k us]
  simp only [List.mem_append, List.mem_cons]
  constructor
  · rintro (h | rfl | h)
    · exact .inl (.inl h)
    · exact .inr rfl
    · exact .inl (.inr h)
  · rintro ((h | h) | rfl)
    · exact .inl h
    · exact .inr (.inr h)
    · exact .inr (.inl rfl)
section
variable (l : List Nd) (A : Option Addr) (c : Nat) (q : Int)
end
end Pr
end Go.Proofs.YtpkldfkmokeamaaGreatDoor
/-
Chapter 15: Names, Calls; Strings, has.
-/
set_option linter.unusedSimpArgs false
set_option linter.unusedVariables false
namespace Go.Proofs.YtpkldfkmokeamaaGreatDoor
namespace Pr
open Go Go.RowKit En
open Ex Rf Go.Sort
def glNm : List (FuncId × Spc) := [(60, spNamed15)]
theorem glNm_ok : GOk Tryz.prog (lookG glNm) := lG_cons (by kernel_rfl) spNamed15_ok lG_nil
set_option maxRecDepth 100000 in
set_option maxHeartbeats 4000000 in
theorem aNames15_any (l : List Nd) (hlen : l.length ≤ 100000) (hz : zsN l) (A : Option Addr) (c bn on cn ba oa ca : Nat) (h4 : 4 ≤ cn) (h3 : 3 ≤ ca) (w : World) (h : allRd w.heap.size w (odHp l A c bn on cn ba oa ca)) :
    Calls Tryz.prog 29 #[.slice A l.length c] w (SoQ (oldOf (odHp l A c bn on cn ba oa ca)) (namV l 4) (chkV l).2 w) := by
  refine calls_go (args := [.g 1000 A l.length c]) (hp := odHp l A c bn on cn ba oa ca) (nx := 1001) (n := 200) (U := []) (V := []) (tl := tlSt) (gl := glNm) (post := SpP (namV l 4) (chkV l).2)
    followP tlSt_ok glNm_ok Tryz.func29 rfl (by kernel_rfl) (Nat.le_of_ble_eq_true (by kernel_rfl)) (by kernel_rfl) (by kernel_rfl) (hh_list h) (free_list (by simp [allLt, odHp, gHu, gHp])) ?_ ?_
  · exact fun s ys w' hp H => SpP_Q hp H
  intro L F T G nd va hE
  obtain ⟨hL, hF, hs, hv, hT, hG, hR, hI, hJ, hW⟩ := hE
  rw [Tryz.results29] at hF
  simp (maxSteps := 1000000) only [En.nN, En.E, En.evsC, List.map_cons, List.map_nil, Nat.reduceBEq, Nat.reduceAdd, Nat.reduceMul, Nat.reduceEqDiff, Nat.reduceLeDiff, Nat.reduceLT, ne_eq, reduceCtorEq, Int.reduceBEq, Int.reduceBNe, Int.reduceAdd, Int.reduceSub, Int.reduceMul, Int.reduceTDiv, Int.reduceTMod, Int.reduceNeg, En.bitN, Nat.testBit, Nat.reduceShiftRight, Nat.reduceShiftLeft, Nat.reduceAnd, Nat.reduceOr, Nat.reduceBNe, Int.reduceToNat, Nat.reduceSub, Int.reduceLE, Int.reduceLT] at hv
  simp only [En.at_nil, En.at_cons, En.ag_nil, En.ag_cons, and_true, tlSt, glNm, tlRe, tyStrs, tyInt, tyI64, tyBool, tyStr, tyErr, tyNode, tyNodes, tyInts] at hT hG
  by_cases h1 : (chkV l).2 = 0
  · have e0 : ((chkV l).2 == 0) = true := by rw [h1]; rfl
    simp (maxSteps := 10000000) only [En.E, En.evsC, List.map_cons, List.map_nil, Nat.reduceBEq, Nat.reduceAdd, Nat.reduceMul, Nat.reduceEqDiff, Nat.reduceLeDiff, Nat.reduceLT, ne_eq, reduceCtorEq, Int.reduceBEq, Int.reduceBNe, Int.reduceAdd, Int.reduceSub, Int.reduceMul, Int.reduceTDiv, Int.reduceTMod, Int.reduceNeg, En.bitN, Nat.testBit, Nat.reduceShiftRight, Nat.reduceShiftLeft, Nat.reduceAnd, Nat.reduceOr, Nat.reduceBNe, Int.reduceToNat, Nat.reduceSub, Int.reduceLE, Int.reduceLT, En.vV, hs, hv, hT, hG, hF, odHp, gHu, gHp, spNamed15_q, ckR, NdR_q, chL_q, globR_q, globU_q, hlen, hz, h4, h3, stR, e0]
    exact fun B d => .inr ⟨h1, _, B, d, rfl, rfl⟩
  · have e0 : ((chkV l).2 == 0) = false := by simpa using h1
    simp (maxSteps := 10000000) only [En.E, En.evsC, List.map_cons, List.map_nil, Nat.reduceBEq, Nat.reduceAdd, Nat.reduceMul, Nat.reduceEqDiff, Nat.reduceLeDiff, Nat.reduceLT, ne_eq, reduceCtorEq, Int.reduceBEq, Int.reduceBNe, Int.reduceAdd, Int.reduceSub, Int.reduceMul, Int.reduceTDiv, Int.reduceTMod, Int.reduceNeg, En.bitN, Nat.testBit, Nat.reduceShiftRight, Nat.reduceShiftLeft, Nat.reduceAnd, Nat.reduceOr, Nat.reduceBNe, Int.reduceToNat, Nat.reduceSub, Int.reduceLE, Int.reduceLT, En.vV, hs, hv, hT, hG, hF, odHp, gHu, gHp, spNamed15_q, ckR, NdR_q, chL_q, globR_q, globU_q, hlen, hz, h4, h3, stR, e0]
    exact .inl ⟨h1, rfl⟩
def spNames15 : Spc
  | [.g k A n c], H, nx => stR (ckR A n c k H) (namV (chL n (H k)) 4) (chkV (chL n (H k))).2 nx
  | _, _, _ => .bad
theorem spNames15_q {k n c : Nat} {A : Option Addr} {H : Nat → Ch} {nx : Nat} : spNames15 [.g k A n c] H nx = stR (ckR A n c k H) (namV (chL n (H k)) 4) (chkV (chL n (H k))).2 nx := rfl
theorem spNames15_ok : SpecOk Tryz.prog 29 spNames15 := by
  intro args hp nx w0 O w H hv
  unfold spNames15 at hv ⊢
  split at hv
  · next k A n c =>
    have hc := stR_vc hv
    obtain ⟨bn, on, cn, ba, oa, ca, h4, h3, hl, hr, ho⟩ := ck_old H hc rfl
    obtain ⟨_, hn, hz, _⟩ := hc
    generalize chL n (lookH hp k) = l at hl hz hr ho hv ⊢
    subst hl
    exact (aNames15_any l hn hz A c bn on cn ba oa ca h4 h3 w hr).mono fun e w' h => stR_ok H ho h
  · exact hv.elim
theorem getS_g {H : Nat → Ch} {k n c : Nat} {A : Option Addr} : getS H (.g k A n c) = (match H k with | .strs A' c' xs => if A = A' ∧ n = xs.length ∧ c = c' then some xs else none | _ => none) := rfl
end Pr
end Go.Proofs.YtpkldfkmokeamaaGreatDoor
