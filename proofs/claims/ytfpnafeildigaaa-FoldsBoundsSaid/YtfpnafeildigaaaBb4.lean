/-
The reference's moves that the laws use: rows, Reverse (chapter 7).
-/
import Derived.Test.YtfpnafeildigaaaArL9
import Derived.Deep.DeepCutAuto
import Derived.RegionTactic
import Derived.Test.YtfpnafeildigaaaBb3
set_option linter.unusedSimpArgs false
set_option linter.unusedVariables false
namespace Go.Proofs.Ytfpnafeildigaaa
namespace Ar
open Go.RowKit Sc
/-- the cells of a list, at other places -/
def reix (f : Nat → Nat) (n : Nat) (xs : List Int) : List Int := (List.range n).map (fun j => xs.getD (f j) 0)
theorem reix_len (f : Nat → Nat) (n : Nat) (xs : List Int) : (reix f n xs).length = n := by simp [reix]
theorem reix_getD (f : Nat → Nat) {n j : Nat} (xs : List Int) (h : j < n) : (reix f n xs).getD j 0 = xs.getD (f j) 0 := by
  simp [reix, List.getD_eq_getElem?_getD, h]
theorem reix_eq {f : Nat → Nat} {n : Nat} {xs ys : List Int} (hl : ys.length = n) (h : ∀ j, j < n → ys.getD j 0 = xs.getD (f j) 0) : ys = reix f n xs := by
  refine List.ext_getElem (by rw [hl, reix_len]) fun j h1 h2 => ?_
  have e := h j (by omega)
  rw [← reix_getD f xs (show j < n by omega)] at e
  simpa [List.getD_eq_getElem?_getD, h1, h2] using e
/-- rows and columns of an array -/
def rowsOf (a : Arr) : Int × Int := if a.r = 2 then (a.l0, a.l1) else (1, a.xs.length)
/-- the place in a row, seen from its end -/
def back (n j : Nat) : Nat := j / n * n + (n - 1 - j % n)
theorem back_at {n i k : Nat} (h : k < n) : back n (i * n + k) = i * n + (n - 1 - k) := by
  have e1 : (i * n + k) / n = i := by rw [Nat.add_comm, Nat.add_mul_div_right _ _ (by omega), Nat.div_eq_of_lt h, Nat.zero_add]
  have e2 : (i * n + k) % n = k := by rw [Nat.add_comm, Nat.add_mul_mod_self_right, Nat.mod_eq_of_lt h]
  unfold back
  rw [e1, e2]
def extRev (a : Arr) : Int × Arr :=
  if chk a ≠ 0 then (chk a, .zero) else if a.r = 0 then (22, .zero) else (0, ⟨a.k, a.r, a.l0, a.l1, reix (back (rowsOf a).2.toNat) a.xs.length a.xs⟩)
/-- an array with rows -/
theorem rows_nat {a : Arr} (h : chk a = 0) (hr : a.r ≠ 0) : ∃ m n : Nat, rowsOf a = ((m : Int), (n : Int)) ∧ m * n = a.xs.length ∧ m ≤ 400 ∧ n ≤ 400 := by
  obtain ⟨s, hn⟩ := chk_sh h
  obtain ⟨h3, h4, h5⟩ := sh_ok s
  unfold rowsOf
  rcases h3 with h3 | h3 | h3
  · exact absurd h3 hr
  · exact ⟨1, a.xs.length, by rw [if_neg (by omega)]; rfl, by omega, by omega, by rw [h3] at hn; rw [h3] at h5; omega⟩
  · rw [h3] at s hn h4 h5
    rw [if_pos h3]
    unfold shCheck at s
    rw [if_neg (by omega)] at s
    by_cases e : (1 ≤ (2 : Int) ∧ a.l0 < 0) ∨ (2 ≤ (2 : Int) ∧ a.l1 < 0)
    · rw [if_pos e] at s; cases s
    rw [if_neg e, if_neg (by omega)] at s
    by_cases e2 : 400 < a.l0 ∨ 400 < a.l1 ∨ 400 < prod 2 a.l0 a.l1
    · rw [if_pos e2] at s; cases s
    refine ⟨a.l0.toNat, a.l1.toNat, Prod.ext (by simp; omega) (by simp; omega), ?_, by omega, by omega⟩
    rw [prod_2] at hn
    have : ((a.l0.toNat * a.l1.toNat : Nat) : Int) = a.xs.length := by rw [hn, Int.natCast_mul, Int.toNat_of_nonneg (by omega), Int.toNat_of_nonneg (by omega)]
    exact_mod_cast this
theorem rows_any (a : Arr) (A : Option Addr) (c : Nat) (w : World) :
    Calls Try.prog 76 #[.agg #[.int .i64 a.k, .int .i64 a.r, .int .i64 a.l0, .int .i64 a.l1, .slice A a.xs.length c]] w fun e w' => e = .returned (.tuple #[.int .i64 (rowsOf a).1, .int .i64 (rowsOf a).2]) ∧ Below w.heap.size w w' := by
  unfold rowsOf
  by_cases h : a.r = 2
  · have n1 : (a.r == 2) = true := by simpa using h
    rw [if_pos h]
    clear h
    go_enter Try.func76, Try.ntmps76
    go_wp2
    go_region
    all_goals
      go_wp2
      go_ret2
      exact ⟨rfl, by (repeat (first | with_reducible exact Below.refl _ _ | with_reducible assumption | (with_reducible refine bl_set ?_ (by simp; try omega) _) | (with_reducible refine bl_alloc ?_ _) | (with_reducible refine bl_dn ?_ _) | (with_reducible refine bl_drew ?_) | (with_reducible refine bl_then ?_ (by with_reducible assumption))))⟩
  · have n1 : (a.r == 2) = false := by simpa using h
    rw [if_neg h]
    clear h
    go_enter Try.func76, Try.ntmps76
    go_wp2
    go_region
    all_goals
      go_wp2
      go_ret2
      exact ⟨rfl, by (repeat (first | with_reducible exact Below.refl _ _ | with_reducible assumption | (with_reducible refine bl_set ?_ (by simp; try omega) _) | (with_reducible refine bl_alloc ?_ _) | (with_reducible refine bl_dn ?_ _) | (with_reducible refine bl_drew ?_) | (with_reducible refine bl_then ?_ (by with_reducible assumption))))⟩
theorem rev_bad (a : Arr) (A : Option Addr) (c : Nat) (hla : a.xs.length ≤ 9223372036854775807) (f0 : Fits a.l0) (f1 : Fits a.l1) (w : World) (hs : Sl w A a.xs) (h : chk a ≠ 0) :
    Calls Try.prog 34 #[.agg #[.int .i64 a.k, .int .i64 a.r, .int .i64 a.l0, .int .i64 a.l1, .slice A a.xs.length c]] w (ArrRet w (chk a, .zero)) := by
  have n1 : (chk a == 0) = false := by simpa using h
  have n2 : (chk a != 0) = true := by simpa using h
  clear h
  go_enter Try.func34, Try.ntmps34
  go_wp2_with fail
  refine (Ref.ac_any a A c hla f0 f1 _ (hs.below (by (repeat (first | with_reducible exact Below.refl _ _ | with_reducible assumption | (with_reducible refine bl_set ?_ (by simp; try omega) _) | (with_reducible refine bl_alloc ?_ _) | (with_reducible refine bl_dn ?_ _) | (with_reducible refine bl_drew ?_) | (with_reducible refine bl_then ?_ (by with_reducible assumption))))))).mono ?_
  rintro e w1 ⟨rfl, hg1⟩
  obtain ⟨hc1, hf1, hz1⟩ := bcell hg1
  (have z0_w1 : w.heap.size < w1.heap.size := by have := hg1.size; simp at this; omega); (have z1_w1 : w.heap.size + 1 < w1.heap.size := by have := hg1.size; simp at this; omega)
  go_wp2
  refine bodyPost_ret (v := .tuple #[.agg #[.int .i64 0, .int .i64 0, .int .i64 0, .int .i64 0, .slice none 0 0], .int .i64 (chk a)]) (by simp [results, Try.results34, go_sem, *]) rfl (arr_zero _ (by (repeat (first | with_reducible exact Below.refl _ _ | with_reducible assumption | (with_reducible refine bl_set ?_ (by simp; try omega) _) | (with_reducible refine bl_alloc ?_ _) | (with_reducible refine bl_dn ?_ _) | (with_reducible refine bl_drew ?_) | (with_reducible refine bl_then ?_ (by with_reducible assumption))))))
theorem rev_flat (a : Arr) (A : Option Addr) (c : Nat) (hla : a.xs.length ≤ 9223372036854775807) (f0 : Fits a.l0) (f1 : Fits a.l1) (w : World) (hs : Sl w A a.xs) (h : chk a = 0) (hr : a.r = 0) :
    Calls Try.prog 34 #[.agg #[.int .i64 a.k, .int .i64 a.r, .int .i64 a.l0, .int .i64 a.l1, .slice A a.xs.length c]] w (ArrRet w (22, .zero)) := by
  have n1 : (a.r == 0) = true := by simpa using hr
  have H := hide h
  clear h hr
  go_enter Try.func34, Try.ntmps34
  go_wp2_with fail
  refine (Ref.ac_any a A c hla f0 f1 _ (hs.below (by (repeat (first | with_reducible exact Below.refl _ _ | with_reducible assumption | (with_reducible refine bl_set ?_ (by simp; try omega) _) | (with_reducible refine bl_alloc ?_ _) | (with_reducible refine bl_dn ?_ _) | (with_reducible refine bl_drew ?_) | (with_reducible refine bl_then ?_ (by with_reducible assumption))))))).mono ?_
  rw [H.out]
  rintro e w1 ⟨rfl, hg1⟩
  obtain ⟨hc1, hf1, hz1⟩ := bcell hg1
  (have z0_w1 : w.heap.size < w1.heap.size := by have := hg1.size; simp at this; omega); (have z1_w1 : w.heap.size + 1 < w1.heap.size := by have := hg1.size; simp at this; omega)
  go_wp2
  refine bodyPost_ret (v := .tuple #[.agg #[.int .i64 0, .int .i64 0, .int .i64 0, .int .i64 0, .slice none 0 0], .int .i64 22]) (by simp [results, Try.results34, go_sem, *]) rfl (arr_zero _ (by (repeat (first | with_reducible exact Below.refl _ _ | with_reducible assumption | (with_reducible refine bl_set ?_ (by simp; try omega) _) | (with_reducible refine bl_alloc ?_ _) | (with_reducible refine bl_dn ?_ _) | (with_reducible refine bl_drew ?_) | (with_reducible refine bl_then ?_ (by with_reducible assumption))))))
/-- a result's box, which is still empty -/
def RBox (w : World) (g : Nat) : Prop := Arr5 w g (.int .i64 0) (.int .i64 0) (.int .i64 0) (.int .i64 0) (.slice none 0 0) ∧ (∀ i, w.frozen? ⟨g, i, none⟩ = false) ∧ g < w.heap.size
theorem RBox.below {w w' : World} {g : Nat} (h : RBox w g) (hb : Below w.heap.size w w') : RBox w' g :=
  ⟨h.1.below hb, fun i => (hb.frozen (p := ⟨g, i, none⟩) h.2.2).trans (h.2.1 i), Nat.lt_of_lt_of_le h.2.2 hb.size⟩
theorem RBox.off {lo hi : Nat} {w w' : World} {g : Nat} (h : RBox w g) (ho : Off lo hi w w') (hr : g < lo ∨ hi ≤ g) : RBox w' g :=
  ⟨ho.arr h.1 hr, fun i => (ho.fro i h.2.2 hr).trans (h.2.1 i), Nat.lt_of_lt_of_le h.2.2 ho.2.2.2.1⟩
theorem RBox.new (w : World) (t : TypeId) : RBox (w.alloc (.cells #[.int .i64 0, .int .i64 0, .int .i64 0, .int .i64 0, .slice none 0 0] t)) w.heap.size :=
  ⟨arr5_new _ _ _ _ _ _ _ _ _, fun i => by simp [go_sem], by simp⟩
set_option maxRecDepth 100000 in
set_option maxHeartbeats 4000000 in
theorem rev_main (a : Arr) (A : Option Addr) (c : Nat) (hla : a.xs.length ≤ 100000) (f0 : Fits a.l0) (f1 : Fits a.l1) (w : World) (hs : Sl w A a.xs) (h : chk a = 0) (hr : a.r ≠ 0) :
    Calls Try.prog 34 #[.agg #[.int .i64 a.k, .int .i64 a.r, .int .i64 a.l0, .int .i64 a.l1, .slice A a.xs.length c]] w (ArrRet w (0, ⟨a.k, a.r, a.l0, a.l1, reix (back (rowsOf a).2.toNat) a.xs.length a.xs⟩)) := by
  obtain ⟨m, n, hmn, hmul, hm4, hn4⟩ := rows_nat h hr
  have n1 : (a.r == 0) = false := by simpa using hr
  have H := hide h; have HM := hide hmn; have HX := hide hmul; have HL := hide hla
  have hnn : a.xs.length ≤ 9223372036854775807 := by omega
  have hmk := fun W => make_i64 a.xs.length hla W
  rw [hmn]
  show Calls _ _ _ _ (ArrRet w (0, ⟨a.k, a.r, a.l0, a.l1, reix (back n) a.xs.length a.xs⟩))
  clear h hr hmn hmul hla
  go_enter Try.func34, Try.ntmps34
  go_wp2_with fail
  refine (Ref.ac_any a A c hnn f0 f1 _ (hs.below (by (repeat (first | with_reducible exact Below.refl _ _ | with_reducible assumption | (with_reducible refine bl_set ?_ (by simp; try omega) _) | (with_reducible refine bl_alloc ?_ _) | (with_reducible refine bl_dn ?_ _) | (with_reducible refine bl_drew ?_) | (with_reducible refine bl_then ?_ (by with_reducible assumption))))))).mono ?_
  rw [H.out]
  rintro e w1 ⟨rfl, hg1⟩
  have st1 := hide ((((St.init w).box c hs).alloc _).below hg1)
  have rb1 := hide ((RBox.new _ _).below hg1)
  simp only [World.size_alloc] at rb1
  obtain ⟨hbw, ⟨⟨a0, a1, a2, a3, a4⟩, sa, za⟩, _⟩ := st1.out
  go_wp2_with fail
  refine (rows_any a A c _).mono ?_
  rw [HM.out]
  rintro e w2 ⟨rfl, hg2⟩
  have st2 := hide (st1.out.below hg2)
  have rb2 := hide (rb1.out.below hg2)
  clear hbw; clear a0 a1 a2 a3 a4 sa za; clear st1 rb1 hg1 hg2
  obtain ⟨hbw, ⟨⟨a0, a1, a2, a3, a4⟩, sa, za⟩, _⟩ := st2.out
  go_wp2
  have HO : Hid (Arr5 ((w2.alloc (.cells #[.int .i64 a.k, .int .i64 a.r, .int .i64 a.l0, .int .i64 a.l1, .slice (some ⟨w2.heap.size + 1, 0, none⟩) a.xs.length a.xs.length] 25)).alloc (.cells (blank a.xs.length) 2)) w2.heap.size (.int .i64 a.k) (.int .i64 a.r) (.int .i64 a.l0) (.int .i64 a.l1) (.slice (some ⟨w2.heap.size + 1, 0, none⟩) a.xs.length a.xs.length)) := (arr5_new _ _ _ _ _ _ _ _ _).below (bl_new _ _)
  have HC : Hid (Acc ((w2.alloc (.cells #[.int .i64 a.k, .int .i64 a.r, .int .i64 a.l0, .int .i64 a.l1, .slice (some ⟨w2.heap.size + 1, 0, none⟩) a.xs.length a.xs.length] 25)).alloc (.cells (blank a.xs.length) 2)) (w2.heap.size + 1) (.slice (some ⟨w2.heap.size + 1, 0, none⟩) a.xs.length a.xs.length) (List.replicate a.xs.length 0)) := by
    have := acc_blank (w2.alloc (.cells #[.int .i64 a.k, .int .i64 a.r, .int .i64 a.l0, .int .i64 a.l1, .slice (some ⟨w2.heap.size + 1, 0, none⟩) a.xs.length a.xs.length] 25)) a.xs.length HL.out 2 rfl
    show Acc _ _ _ _
    simpa using this
  have hb5 : Hid (Below w2.heap.size w2 ((w2.alloc (.cells #[.int .i64 a.k, .int .i64 a.r, .int .i64 a.l0, .int .i64 a.l1, .slice (some ⟨w2.heap.size + 1, 0, none⟩) a.xs.length a.xs.length] 25)).alloc (.cells (blank a.xs.length) 2))) := by show Below _ _ _; (repeat (first | with_reducible exact Below.refl _ _ | with_reducible assumption | (with_reducible refine bl_set ?_ (by simp; try omega) _) | (with_reducible refine bl_alloc ?_ _) | (with_reducible refine bl_dn ?_ _) | (with_reducible refine bl_drew ?_) | (with_reducible refine bl_then ?_ (by with_reducible assumption))))
  have hz5 : w2.heap.size + 2 = ((w2.alloc (.cells #[.int .i64 a.k, .int .i64 a.r, .int .i64 a.l0, .int .i64 a.l1, .slice (some ⟨w2.heap.size + 1, 0, none⟩) a.xs.length a.xs.length] 25)).alloc (.cells (blank a.xs.length) 2)).heap.size := by simp
  change Code.wp _ _ _ _ ((w2.alloc (.cells #[.int .i64 a.k, .int .i64 a.r, .int .i64 a.l0, .int .i64 a.l1, .slice (some ⟨w2.heap.size + 1, 0, none⟩) a.xs.length a.xs.length] 25)).alloc (.cells (blank a.xs.length) 2))
  generalize ((w2.alloc (.cells #[.int .i64 a.k, .int .i64 a.r, .int .i64 a.l0, .int .i64 a.l1, .slice (some ⟨w2.heap.size + 1, 0, none⟩) a.xs.length a.xs.length] 25)).alloc (.cells (blank a.xs.length) 2)) = w5 at *
  clear hbw; clear a0 a1 a2 a3 a4 sa za
  go_loopw [8] (fun v wr => ∃ (i : Nat) (ys : List Int), i ≤ m ∧ v = .int .i64 i ∧ Hid (ys.length = a.xs.length) ∧ Hid (∀ j, j < i * n → ys.getD j 0 = a.xs.getD (back n j) 0) ∧ Hid (Acc wr (w2.heap.size + 1) (.slice (some ⟨w2.heap.size + 1, 0, none⟩) a.xs.length a.xs.length) ys) ∧ Hid (Off (w2.heap.size + 1) (w2.heap.size + 2) w5 wr)) (fun v _ => m - (intOf v).toNat)
  case atStart => exact ⟨0, List.replicate a.xs.length 0, Nat.zero_le _, rfl, by show _ = _; simp, (by intro j hj; omega), HC, Off.refl _ _ _⟩
  case round =>
    obtain ⟨i, ys, hi, rfl, hy, hv, hac, hof⟩ := hrel
    have hb2 := hof.out.base hb5.out (by omega) (by omega)
    have zsz : w5.heap.size ≤ wr.heap.size := hof.out.2.2.2.1
    by_cases hlt : i < m
    · have hin : i * n + n ≤ a.xs.length := by rw [← HX.out, ← Nat.succ_mul]; exact Nat.mul_le_mul_right _ hlt
      obtain ⟨q, hq⟩ : ∃ q, i * n = q := ⟨_, rfl⟩
      rw [hq] at hin
      have HQ := hide hq
      have hv : Hid (∀ j, j < q → ys.getD j 0 = a.xs.getD (back n j) 0) := by rw [← hq]; exact hv
      have ew : IntKind.i64.wrap ((i : Int) * (n : Int)) = (q : Int) := by rw [← hq, ← Int.natCast_mul]; exact IntWalk.i64_in _ (by rw [hq]; have := HL.out; omega)
      clear hq
      go_wp2
      go_loopw [9] (fun v wr' => ∃ (k : Nat) (zs : List Int), k ≤ n ∧ v = .int .i64 k ∧ Hid (zs.length = a.xs.length) ∧ Hid (∀ j, j < q + k → zs.getD j 0 = a.xs.getD (back n j) 0) ∧ Hid (Acc wr' (w2.heap.size + 1) (.slice (some ⟨w2.heap.size + 1, 0, none⟩) a.xs.length a.xs.length) zs) ∧ Hid (Off (w2.heap.size + 1) (w2.heap.size + 2) w5 wr')) (fun v _ => n - (intOf v).toNat)
      case atStart => exact ⟨0, ys, Nat.zero_le _, rfl, hy, hv, hac, hof⟩
      case round =>
        clear hy hv hac hof hb2 zsz
        obtain ⟨k, zs, hk, rfl, hy, hv, hac, hof⟩ := hrel
        have hb2 := hof.out.base hb5.out (by omega) (by omega)
        have zsz : w5.heap.size ≤ wr.heap.size := hof.out.2.2.2.1
        by_cases hlt2 : k < n
        · obtain ⟨o0, o1, o2, o3, o4⟩ := hof.out.arr HO.out (.inl (by omega))
          have zo : w2.heap.size < wr.heap.size := by omega
          have st5 := hide (st2.out.below hb2)
          obtain ⟨hbw, ⟨⟨a0, a1, a2, a3, a4⟩, sa, za⟩, _⟩ := st5.out
          obtain ⟨j, hj⟩ : ∃ j, q + k = j := ⟨_, rfl⟩
          obtain ⟨s, hs1⟩ : ∃ s, q + n = s := ⟨_, rfl⟩
          obtain ⟨s', hs2⟩ : ∃ s', s = s' + 1 := ⟨s - 1, by omega⟩
          obtain ⟨t, ht⟩ : ∃ t, s' = t + k := ⟨s' - k, by omega⟩
          have ew2 : IntKind.i64.wrap ((q : Int) + (k : Int)) = (j : Int) := by rw [show (q : Int) + k = j by omega]; exact IntWalk.i64_in _ (by omega)
          have ew3 : IntKind.i64.wrap ((q : Int) + (n : Int)) = (s : Int) := by rw [show (q : Int) + n = s by omega]; exact IntWalk.i64_in _ (by omega)
          have ew4 : IntKind.i64.wrap ((s : Int) - 1) = (s' : Int) := by rw [show (s : Int) - 1 = s' by omega]; exact IntWalk.i64_in _ (by omega)
          have ew5 : IntKind.i64.wrap ((s' : Int) - (k : Int)) = (t : Int) := by rw [show (s' : Int) - k = t by omega]; exact IntWalk.i64_in _ (by omega)
          obtain ⟨g, y, eg, hg1, hg2, hck, hgy, hfr, hput⟩ := hac.out.place hy.out (k := j) (by omega)
          injection eg with eg; injection eg with eg
          subst eg
          obtain ⟨b, o, x, rfl, hbk, hcx, hx⟩ := sa.at_ (k := t) (by omega)
          have hjl : (j : Int) < (a.xs.length : Int) := by omega
          have htl : (t : Int) < (a.xs.length : Int) := by omega
          have hbk2 : a.xs.getD (back n j) 0 = x := by rw [← hj, ← HQ.out, back_at hlt2, HQ.out, show q + (n - 1 - k) = t by omega]; exact hx.out
          have hbk2 := hide hbk2
          have hput := hide (hput x)
          have HJ := hide hj
          have hjk : Hid (j < a.xs.length) := by show _ < _; omega
          clear hs1 hs2 ht hj hg1 hgy hx sa
          go_wp2
          go_region
          go_wp2
          go_roundw
          case rel => exact ⟨k + 1, zs.set j x, by omega, by go_num, (by show _ = _; rw [List.length_set]; exact hy.out), (by
              intro j' hj'
              by_cases e : j' = j
              · subst e; rw [List.getD_eq_getElem?_getD, List.getElem?_set_self (by rw [hy.out]; exact hjk.out), hbk2.out]; rfl
              · rw [List.getD_eq_getElem?_getD, List.getElem?_set_ne (Ne.symm e), ← List.getD_eq_getElem?_getD]; exact hv.out j' (by have := HJ.out; omega)), hput.out.drew, (hof.out.set (by simp) (by simp) _).drew⟩
          case measure => simp [intOf]; omega
        · go_wp2
          go_roundw
          case rel => exact ⟨i + 1, zs, by omega, by go_num, hy, (by
              intro j hj
              have e := HQ.out
              rw [Nat.succ_mul, e] at hj
              exact hv.out j (by omega)), hac, hof⟩
          case measure => simp [intOf]; omega
    · obtain ⟨o0, o1, o2, o3, o4⟩ := hof.out.arr HO.out (.inl (by omega))
      have zo : w2.heap.size < wr.heap.size := by omega
      have st5 := hide (st2.out.below hb2)
      obtain ⟨hbw, ⟨⟨a0, a1, a2, a3, a4⟩, sa, za⟩, _⟩ := st5.out
      obtain ⟨⟨r0, r1, r2, r3, r4⟩, rf, zr⟩ := (rb2.out.below (bl_then (Below.refl _ _) hb2))
      have HE : Hid (reix (back n) a.xs.length a.xs = ys) := (reix_eq hy.out (fun j hj => hv.out j (by have := HX.out; rw [show i = m by omega]; omega))).symm
      have hsl := hide (acc_sl hac.out)
      clear hv
      go_wp2
      rw [HE.out]
      have hyl := hy.out
      have zr2 := rb2.out.2.2
      refine bodyPost_ret (v := .tuple #[.agg #[.int .i64 a.k, .int .i64 a.r, .int .i64 a.l0, .int .i64 a.l1, .slice (some ⟨w2.heap.size + 1, 0, none⟩) ys.length a.xs.length], .int .i64 0]) (by simp [results, Try.results34, go_sem, *]) rfl ⟨by (repeat (first | with_reducible exact Below.refl _ _ | with_reducible assumption | (with_reducible refine bl_set ?_ (by simp; try omega) _) | (with_reducible refine bl_alloc ?_ _) | (with_reducible refine bl_dn ?_ _) | (with_reducible refine bl_drew ?_) | (with_reducible refine bl_then ?_ (by with_reducible assumption)))), some ⟨w2.heap.size + 1, 0, none⟩, a.xs.length, rfl, ?_, (fun g o e => by injection e with e; injection e with e; omega), Nat.le_of_eq hyl⟩
      repeat (refine Sl.set (B := w2.heap.size) ?_ (fun g o e => by injection e with e; injection e with e; omega) (by simp; omega) _)
      exact hsl.out
theorem rev_any (a : Arr) (A : Option Addr) (c : Nat) (hla : a.xs.length ≤ 100000) (f0 : Fits a.l0) (f1 : Fits a.l1) (w : World) (hs : Sl w A a.xs) : Calls Try.prog 34 #[.agg #[.int .i64 a.k, .int .i64 a.r, .int .i64 a.l0, .int .i64 a.l1, .slice A a.xs.length c]] w (ArrRet w (extRev a)) := by
  unfold extRev
  by_cases h : chk a = 0
  · rw [if_neg (by simpa using h)]
    by_cases hr : a.r = 0
    · rw [if_pos hr]; exact rev_flat a A c (by omega) f0 f1 w hs h hr
    · rw [if_neg hr]; exact rev_main a A c hla f0 f1 w hs h hr
  · rw [if_pos h]; exact rev_bad a A c (by omega) f0 f1 w hs h
end Ar
end Go.Proofs.Ytfpnafeildigaaa
/-
The plain laws of ExtendTurns and ExtendFlips (chapter 10): primitives are done cell by cell, so places may be changed; the order of operands.
-/
set_option linter.unusedSimpArgs false
set_option linter.unusedVariables false
namespace Go.Proofs.Ytfpnafeildigaaa
namespace Ar
open Go.RowKit Sc
theorem mapP_iff (f : Int × Int → Int × Int) : ∀ l : List (Int × Int), (mapP f l).1 = 0 ↔ ∀ x ∈ l, (f x).2 = 0
  | [] => by simp [mapP]
  | x :: l => by
    rw [mapP_cons]
    by_cases h : (f x).2 ≠ 0
    · rw [if_pos h]; simp [h]
    · rw [if_neg h]
      have ih := mapP_iff f l
      by_cases h2 : (mapP f l).1 ≠ 0
      · rw [if_pos h2]
        simp only [List.mem_cons, forall_eq_or_imp, ← ih]
        exact ⟨fun e => absurd e h2, fun e => absurd e.2 h2⟩
      · rw [if_neg h2]
        simp only [List.mem_cons, forall_eq_or_imp, ← ih]
        exact ⟨fun _ => ⟨by simpa using h, by simpa using h2⟩, fun _ => by first | trivial | rfl⟩
theorem mapP_map (f : Int × Int → Int × Int) : ∀ l : List (Int × Int), (mapP f l).1 = 0 → (mapP f l).2 = l.map (fun x => (f x).1)
  | [], _ => rfl
  | x :: l, h => by
    rw [mapP_cons] at h ⊢
    by_cases h1 : (f x).2 ≠ 0
    · rw [if_pos h1] at h; exact absurd h h1
    rw [if_neg h1] at h ⊢
    by_cases h2 : (mapP f l).1 ≠ 0
    · rw [if_pos h2] at h; exact absurd h h2
    rw [if_neg h2]
    show (f x).1 :: _ = _
    rw [mapP_map f l (by simpa using h2)]; rfl
theorem mapE_cons' (f : Int → Int × Int) (a : Int) (l : List Int) : mapE f (a :: l) = if (f a).2 ≠ 0 then ((f a).2, []) else if (mapE f l).1 ≠ 0 then ((mapE f l).1, []) else (0, (f a).1 :: (mapE f l).2) := rfl
theorem mapE_iff (f : Int → Int × Int) : ∀ l : List Int, (mapE f l).1 = 0 ↔ ∀ x ∈ l, (f x).2 = 0
  | [] => by simp [mapE]
  | x :: l => by
    rw [mapE_cons']
    by_cases h : (f x).2 ≠ 0
    · rw [if_pos h]; simp [h]
    · rw [if_neg h]
      have ih := mapE_iff f l
      by_cases h2 : (mapE f l).1 ≠ 0
      · rw [if_pos h2]
        simp only [List.mem_cons, forall_eq_or_imp, ← ih]
        exact ⟨fun e => absurd e h2, fun e => absurd e.2 h2⟩
      · rw [if_neg h2]
        simp only [List.mem_cons, forall_eq_or_imp, ← ih]
        exact ⟨fun _ => ⟨by simpa using h, by simpa using h2⟩, fun _ => by first | trivial | rfl⟩
theorem mapE_map (f : Int → Int × Int) : ∀ l : List Int, (mapE f l).1 = 0 → (mapE f l).2 = l.map (fun x => (f x).1)
  | [], _ => rfl
  | x :: l, h => by
    rw [mapE_cons'] at h ⊢
    by_cases h1 : (f x).2 ≠ 0
    · rw [if_pos h1] at h; exact absurd h h1
    rw [if_neg h1] at h ⊢
    by_cases h2 : (mapE f l).1 ≠ 0
    · rw [if_pos h2] at h; exact absurd h h2
    rw [if_neg h2]
    show (f x).1 :: _ = _
    rw [mapE_map f l (by simpa using h2)]; rfl
/-- places of n cells, changed -/
structure Move (f : Nat → Nat) (n : Nat) : Prop where
  into : ∀ j, j < n → f j < n
  onto : ∀ i, i < n → ∃ j, j < n ∧ f j = i
/-- the members of a list, at other places -/
def reixG {α : Type} (d : α) (f : Nat → Nat) (n : Nat) (xs : List α) : List α := (List.range n).map (fun j => xs.getD (f j) d)
theorem reixG_all {α : Type} {d : α} {f : Nat → Nat} {xs : List α} (h : Move f xs.length) (P : α → Prop) : (∀ x ∈ reixG d f xs.length xs, P x) ↔ ∀ x ∈ xs, P x := by
  constructor
  · intro hp x hx
    obtain ⟨i, hi, rfl⟩ := List.mem_iff_getElem.1 hx
    obtain ⟨j, hj, e⟩ := h.onto i hi
    apply hp
    exact List.mem_map.2 ⟨j, List.mem_range.2 hj, by rw [e, List.getD_eq_getElem?_getD, List.getElem?_eq_getElem hi]; rfl⟩
  · intro hp x hx
    obtain ⟨j, hj, rfl⟩ := List.mem_map.1 hx
    have := h.into j (List.mem_range.1 hj)
    rw [List.getD_eq_getElem?_getD, List.getElem?_eq_getElem this]
    exact hp _ (List.getElem_mem _)
theorem reixG_map {α β : Type} {d : α} {e : β} {f : Nat → Nat} {xs : List α} (h : Move f xs.length) (g : α → β) : (reixG d f xs.length xs).map g = reixG e f xs.length (xs.map g) := by
  unfold reixG
  rw [List.map_map]
  refine List.map_congr_left fun j hj => ?_
  have := h.into j (List.mem_range.1 hj)
  show g _ = _
  simp [List.getD_eq_getElem?_getD, List.getElem?_eq_getElem this]
theorem reixG_zip {f : Nat → Nat} {xs ys : List Int} (h : Move f xs.length) (hl : ys.length = xs.length) : (reix f xs.length xs).zip (reix f ys.length ys) = reixG (0, 0) f xs.length (xs.zip ys) := by
  refine List.ext_getElem (by simp [reix, reixG, hl]) fun j h1 h2 => ?_
  have hj : j < xs.length := by simpa [reixG] using h2
  have := h.into j hj
  have h3 : f j < ys.length := by omega
  simp [reix, reixG, List.getD_eq_getElem?_getD, List.getElem?_eq_getElem this, List.getElem?_eq_getElem h3, List.getElem?_eq_getElem (show f j < (xs.zip ys).length by simp; omega)]
theorem reixG_int (f : Nat → Nat) (n : Nat) (xs : List Int) : reixG 0 f n xs = reix f n xs := rfl
/-- two operands, and both with their cells at other places: the same errors but for which, and the same cells at other places -/
theorem two_move {p : Int} {a b a' b' : Arr} {f : Nat → Nat} (h1 : chk2 a b = 0) (h1' : chk2 a' b' = 0) (hk : kindsOk p a' b' = kindsOk p a b) (hl : (extLens a' b').1 = (extLens a b).1)
    (hp : (extLens a b).1 = 0 → Move f (pairs a b).length ∧ pairs a' b' = reixG (0, 0) f (pairs a b).length (pairs a b)) :
    ((extTwo p a b).1 = 0 ↔ (extTwo p a' b').1 = 0) ∧ ((extTwo p a b).1 = 0 → (extLens a b).1 = 0 ∧ (extTwo p a b).2 = ⟨1, (extLens a b).2.1, (extLens a b).2.2.1, (extLens a b).2.2.2, (extTwo p a b).2.xs⟩ ∧ (extTwo p a b).2.xs.length = (pairs a b).length ∧
      (extTwo p a' b').2 = ⟨1, (extLens a' b').2.1, (extLens a' b').2.2.1, (extLens a' b').2.2.2, reix f (pairs a b).length (extTwo p a b).2.xs⟩) := by
  unfold extTwo
  rw [h1, h1', hk, hl]
  by_cases c1 : arity p ≠ (2, 0)
  · rw [if_pos c1, if_pos c1]; exact ⟨Iff.rfl, fun e => by cases e⟩
  rw [if_neg c1, if_neg c1, if_neg (show ¬ ((0 : Int) ≠ 0) by simp), if_neg (show ¬ ((0 : Int) ≠ 0) by simp)]
  by_cases c2 : kindsOk p a b = false
  · rw [if_pos c2, if_pos c2]; exact ⟨Iff.rfl, fun e => by cases e⟩
  rw [if_neg c2, if_neg c2]
  by_cases c3 : (extLens a b).1 ≠ 0
  · rw [if_pos c3, if_pos c3]; exact ⟨Iff.rfl, fun e => absurd e c3⟩
  rw [if_neg c3, if_neg c3]
  obtain ⟨hm, hp⟩ := hp (by simpa using c3)
  have hi : (mapP (fun q : Int × Int => two p q.1 q.2) (pairs a b)).1 = 0 ↔ (mapP (fun q : Int × Int => two p q.1 q.2) (pairs a' b')).1 = 0 := by
    rw [mapP_iff, mapP_iff, hp]; exact (reixG_all hm _).symm
  by_cases c4 : (mapP (fun q : Int × Int => two p q.1 q.2) (pairs a b)).1 ≠ 0
  · have c5 : (mapP (fun q : Int × Int => two p q.1 q.2) (pairs a' b')).1 ≠ 0 := fun e => c4 (hi.2 e)
    rw [if_pos c4, if_pos c5]
    exact ⟨⟨fun e => absurd e c4, fun e => absurd e c5⟩, fun e => absurd e c4⟩
  · have c4' : (mapP (fun q : Int × Int => two p q.1 q.2) (pairs a b)).1 = 0 := by simpa using c4
    have c5 := hi.1 c4'
    rw [if_neg c4, if_neg (by simpa using c5)]
    refine ⟨⟨fun _ => rfl, fun _ => rfl⟩, fun _ => ⟨by simpa using c3, rfl, ?_, ?_⟩⟩
    · rw [mapP_map _ _ c4', List.length_map]
    · show Arr.mk _ _ _ _ _ = _
      congr 1
      show _ = reix f _ (mapP _ _).2
      rw [mapP_map _ _ c4', mapP_map _ _ c5, hp]
      exact reixG_map hm _
theorem one_move {p : Int} {a a' : Arr} {f : Nat → Nat} (h1 : chk a = 0) (h1' : chk a' = 0) (hk : a'.k = a.k) (hm : Move f a.xs.length) (hp : a'.xs = reix f a.xs.length a.xs) :
    ((extOne p a).1 = 0 ↔ (extOne p a').1 = 0) ∧ ((extOne p a).1 = 0 → (extOne p a).2 = ⟨1, a.r, a.l0, a.l1, (extOne p a).2.xs⟩ ∧ (extOne p a).2.xs.length = a.xs.length ∧
      (extOne p a').2 = ⟨1, a'.r, a'.l0, a'.l1, reix f a.xs.length (extOne p a).2.xs⟩) := by
  unfold extOne
  rw [h1, h1', hk]
  by_cases c1 : arity p ≠ (1, 0)
  · rw [if_pos c1, if_pos c1]; exact ⟨Iff.rfl, fun e => by cases e⟩
  rw [if_neg c1, if_neg c1, if_neg (show ¬ ((0 : Int) ≠ 0) by simp), if_neg (show ¬ ((0 : Int) ≠ 0) by simp)]
  by_cases c2 : a.k ≠ 1
  · rw [if_pos c2, if_pos c2]; exact ⟨Iff.rfl, fun e => by cases e⟩
  rw [if_neg c2, if_neg c2]
  have hi : (mapE (one p) a.xs).1 = 0 ↔ (mapE (one p) a'.xs).1 = 0 := by
    rw [mapE_iff, mapE_iff, hp]; exact (reixG_all hm _).symm
  by_cases c4 : (mapE (one p) a.xs).1 ≠ 0
  · have c5 : (mapE (one p) a'.xs).1 ≠ 0 := fun e => c4 (hi.2 e)
    rw [if_pos c4, if_pos c5]
    exact ⟨⟨fun e => absurd e c4, fun e => absurd e c5⟩, fun e => absurd e c4⟩
  · have c4' : (mapE (one p) a.xs).1 = 0 := by simpa using c4
    have c5 := hi.1 c4'
    rw [if_neg c4, if_neg (by simpa using c5)]
    refine ⟨⟨fun _ => rfl, fun _ => rfl⟩, fun _ => ⟨rfl, ?_, ?_⟩⟩
    · rw [mapE_map _ _ c4', List.length_map]
    · show Arr.mk _ _ _ _ _ = _
      congr 1
      show _ = reix f _ (mapE _ _).2
      rw [mapE_map _ _ c4', mapE_map _ _ c5, hp]
      exact reixG_map hm _
/-- the primitives that don't ask for the order of their operands -/
def turns (p : Int) : Bool := p == 15 || (p == 17 || (p == 20 || (p == 22 || (p == 23 || (p == 24 || (p == 29 || (p == 30 || (p == 31 || p == 32))))))))
theorem two_comm {p : Int} (h : turns p = true) (x y : Int) : two p x y = two p y x := by
  unfold turns at h
  simp only [Bool.or_eq_true, beq_iff_eq] at h
  rcases h with rfl | rfl | rfl | rfl | rfl | rfl | rfl | rfl | rfl | rfl
  · show Sc.chk _ = Sc.chk _; rw [Int.add_comm]
  · show Sc.chk _ = Sc.chk _; rw [Int.mul_comm]
  · show (clamp _, (0 : Int)) = (clamp _, 0); rw [Int.add_comm]
  · show (clamp _, (0 : Int)) = (clamp _, 0); rw [Int.mul_comm]
  · show (tr (x == y), (0 : Int)) = (tr (y == x), 0); rw [show (x == y) = (y == x) by rw [Bool.eq_iff_iff, beq_iff_eq, beq_iff_eq]; exact eq_comm]
  · show (tr (x != y), (0 : Int)) = (tr (y != x), 0); rw [show (x != y) = (y != x) by rw [Bool.eq_iff_iff, bne_iff_ne, bne_iff_ne]; exact ne_comm]
  · show (tr (x != 0 && y != 0), (0 : Int)) = (tr (y != 0 && x != 0), 0); rw [Bool.and_comm]
  · show (tr (x != 0 || y != 0), (0 : Int)) = (tr (y != 0 || x != 0), 0); rw [Bool.or_comm]
  · show (min x y, (0 : Int)) = (min y x, 0); rw [Int.min_comm]
  · show (max x y, (0 : Int)) = (max y x, 0); rw [Int.max_comm]
theorem mapP_swap {p : Int} (h : turns p = true) : ∀ l : List (Int × Int), mapP (fun q : Int × Int => two p q.1 q.2) (l.map (fun q => (q.2, q.1))) = mapP (fun q : Int × Int => two p q.1 q.2) l
  | [] => rfl
  | x :: l => by rw [List.map_cons, mapP_cons, mapP_cons, mapP_swap h l]; simp only [two_comm h x.2 x.1]
theorem zip_swap' : ∀ xs ys : List Int, ys.zip xs = (xs.zip ys).map (fun q => (q.2, q.1))
  | [], ys => by cases ys <;> rfl
  | _ :: _, [] => rfl
  | x :: xs, y :: ys => by simp [zip_swap' xs ys]
theorem lens_comm {a b : Arr} (ca : chk a = 0) (cb : chk b = 0) : extLens b a = extLens a b := by
  rw [lens_if ca cb, lens_if cb ca]
  by_cases ha : a.r = 0
  · by_cases hb : b.r = 0
    · obtain ⟨x0, x1, _⟩ := chk_zero ca ha
      obtain ⟨y0, y1, _⟩ := chk_zero cb hb
      rw [if_pos hb, if_pos ha, ha, hb, x0, x1, y0, y1]
    · rw [if_neg hb, if_pos ha, if_pos ha]
  · by_cases hb : b.r = 0
    · rw [if_pos hb, if_neg ha, if_pos hb]
    · rw [if_neg hb, if_neg ha, if_neg ha, if_neg hb]
      by_cases hr : a.r ≠ b.r
      · rw [if_pos hr, if_pos (Ne.symm hr)]
      · rw [if_neg hr, if_neg (fun e => hr (Ne.symm e))]
        by_cases hl : a.l0 ≠ b.l0 ∨ a.l1 ≠ b.l1
        · rw [if_pos hl, if_pos (by omega)]
        · rw [if_neg hl, if_neg (by omega)]
          rw [show a.r = b.r by omega, show a.l0 = b.l0 by omega, show a.l1 = b.l1 by omega]
theorem pairs_comm {a b : Arr} (ca : chk a = 0) (cb : chk b = 0) : pairs b a = (pairs a b).map (fun q => (q.2, q.1)) := by
  unfold pairs
  by_cases ha : a.r = 0
  · by_cases hb : b.r = 0
    · rw [if_pos hb, if_pos ha]
      have x := (chk_zero ca ha).2.2
      have y := (chk_zero cb hb).2.2
      obtain ⟨u, hu⟩ := List.length_eq_one_iff.1 x
      obtain ⟨v, hv⟩ := List.length_eq_one_iff.1 y
      rw [hu, hv]; rfl
    · rw [if_neg hb, if_pos ha, if_pos ha, List.map_map]; rfl
  · by_cases hb : b.r = 0
    · rw [if_pos hb, if_neg ha, if_pos hb, List.map_map]; rfl
    · rw [if_neg hb, if_neg ha, if_neg ha, if_neg hb]
      exact zip_swap' _ _
theorem turns_same {p : Int} {a b : Arr} (h : turns p = true) (ca : chk a = 0) (cb : chk b = 0) : extTwo p b a = extTwo p a b := by
  unfold extTwo
  have hk : kindsOk p b a = kindsOk p a b := by unfold kindsOk; rw [decide_eq_decide]; omega
  rw [chk2_ok ca, chk2_ok cb, ca, cb, hk, lens_comm ca cb]
  by_cases c3 : (extLens a b).1 ≠ 0
  · simp only [if_pos c3]
  · rw [pairs_comm ca cb, mapP_swap h]
end Ar
end Go.Proofs.Ytfpnafeildigaaa
/-
The walk of ExtendCells (chapter 10): what is decided first.
-/
set_option linter.unusedSimpArgs false
set_option linter.unusedVariables false
namespace Go.Proofs.Ytfpnafeildigaaa
namespace Ar
open Go.RowKit Sc
/-- is there nothing to be said of these operands? -/
def idle (p : Int) (a b : Arr) : Bool :=
  decide (405 < (a.xs.length : Int)) || (decide (405 < (b.xs.length : Int)) || ((arity p).2 != 0 || ((arity p).1 != 2 || (chk a != 0 || (chk b != 0 || (a.k != 1 || b.k != 1))))))
theorem idle_no {p : Int} {a b : Arr} (h : idle p a b = false) : a.xs.length ≤ 405 ∧ b.xs.length ≤ 405 ∧ arity p = (2, 0) ∧ chk a = 0 ∧ chk b = 0 ∧ a.k = 1 ∧ b.k = 1 := by
  unfold idle at h
  simp only [Bool.or_eq_false_iff, decide_eq_false_iff_not, bne_eq_false_iff_eq] at h
  obtain ⟨h1, h2, h3, h4, h5, h6, h7, h8⟩ := h
  exact ⟨by omega, by omega, Prod.ext h4 h3, h5, h6, h7, h8⟩
/-- how many cells a result has, as the law says it -/
def manyL (a b : Arr) : Nat := if b.r = 0 then a.xs.length else if a.r = 0 then b.xs.length else max a.xs.length b.xs.length
theorem manyL_eq {a b : Arr} (h : (extLens a b).1 = 0) : manyL a b = many a b := by
  obtain ⟨c1, c2⟩ := ext_chk h
  unfold manyL many
  by_cases hb : b.r = 0
  · rw [if_pos hb]
    by_cases ha : a.r = 0
    · rw [if_pos ha]; have := chk_zero c1 ha; have := chk_zero c2 hb; omega
    · rw [if_neg ha]
  · rw [if_neg hb]
    by_cases ha : a.r = 0
    · rw [if_pos ha, if_pos ha]
    · rw [if_neg ha, if_neg ha]; have := (ext_len h ha hb).2.2; omega
theorem ext_err {a b : Arr} (ca : chk a = 0) (cb : chk b = 0) (h : (extLens a b).1 ≠ 0) : (extLens a b).1 = 22 ∨ (extLens a b).1 = 11 := by
  unfold extLens at h ⊢
  rw [if_neg (by rw [chk2_ok ca, cb]; simp)] at h ⊢
  by_cases ha : a.r = 0
  · rw [if_pos ha] at h; exact absurd rfl h
  rw [if_neg ha] at h ⊢
  by_cases hb : b.r = 0
  · rw [if_pos hb] at h; exact absurd rfl h
  rw [if_neg hb] at h ⊢
  by_cases hr : a.r ≠ b.r
  · rw [if_pos hr]; exact .inl rfl
  rw [if_neg hr] at h ⊢
  by_cases hl : a.l0 ≠ b.l0 ∨ a.l1 ≠ b.l1
  · rw [if_pos hl]; exact .inr rfl
  · rw [if_neg hl] at h; exact absurd rfl h
theorem ext_shape {a b : Arr} {r l0 l1 : Int} (h : extLens a b = (0, r, l0, l1)) : shCheck r l0 l1 = 0 ∧ (many a b : Int) = prod r l0 l1 := by
  have h0 : (extLens a b).1 = 0 := by rw [h]
  obtain ⟨c1, c2⟩ := ext_chk h0
  obtain ⟨s1, n1⟩ := chk_sh c1
  obtain ⟨s2, n2⟩ := chk_sh c2
  unfold many
  unfold extLens at h
  rw [if_neg (by rw [chk2_ok c1, c2]; simp)] at h
  by_cases ha : a.r = 0
  · rw [if_pos ha] at h ⊢
    simp only [Prod.mk.injEq, true_and] at h
    obtain ⟨rfl, rfl, rfl⟩ := h
    exact ⟨s2, n2⟩
  · rw [if_neg ha] at h ⊢
    by_cases hb : b.r = 0
    · rw [if_pos hb] at h
      simp only [Prod.mk.injEq, true_and] at h
      obtain ⟨rfl, rfl, rfl⟩ := h
      exact ⟨s1, n1⟩
    · rw [if_neg hb] at h
      by_cases hr : a.r ≠ b.r
      · rw [if_pos hr] at h; cases h
      rw [if_neg hr] at h
      by_cases hl : a.l0 ≠ b.l0 ∨ a.l1 ≠ b.l1
      · rw [if_pos hl] at h; cases h
      · rw [if_neg hl] at h
        simp only [Prod.mk.injEq, true_and] at h
        obtain ⟨rfl, rfl, rfl⟩ := h
        exact ⟨s1, n1⟩
theorem chk_res {r l0 l1 : Int} {ys : List Int} (h : shCheck r l0 l1 = 0) (hn : (ys.length : Int) = prod r l0 l1) : chk ⟨1, r, l0, l1, ys⟩ = 0 := by
  unfold chk
  rw [if_neg (by simp), if_neg (by simpa using h), if_neg (by simpa using hn), if_neg (by simp)]
end Ar
end Go.Proofs.Ytfpnafeildigaaa
/-
The plain law of ExtendTurns (chapter 10): primitives and Reverse.
-/
set_option linter.unusedSimpArgs false
set_option linter.unusedVariables false
namespace Go.Proofs.Ytfpnafeildigaaa
namespace Ar
open Go.RowKit Sc
theorem back_lt {m n j : Nat} (h : j < m * n) : back n j < m * n := by
  have hn : 0 < n := by rcases Nat.eq_zero_or_pos n with e | e; (rw [e] at h; simp at h); exact e
  have hk : j % n < n := Nat.mod_lt _ hn
  have hi : j / n < m := Nat.div_lt_of_lt_mul (by rw [Nat.mul_comm]; exact h)
  have e : j / n * n + n ≤ m * n := by rw [← Nat.succ_mul]; exact Nat.mul_le_mul_right _ hi
  unfold back
  omega
theorem back_back {n j : Nat} (hn : 0 < n) : back n (back n j) = j := by
  have hk : j % n < n := Nat.mod_lt _ hn
  have e : back n j = j / n * n + (n - 1 - j % n) := rfl
  rw [e, back_at (by omega)]
  have := Nat.div_add_mod j n
  rw [Nat.mul_comm] at this
  omega
theorem move_back (m n : Nat) : Move (back n) (m * n) :=
  ⟨fun _ h => back_lt h, fun i hi => ⟨back n i, back_lt hi, back_back (by rcases Nat.eq_zero_or_pos n with e | e; (rw [e] at hi; simp at hi); exact e)⟩⟩
theorem chk_reix {a : Arr} {f : Nat → Nat} {r l0 l1 : Int} (ca : chk a = 0) (hm : Move f a.xs.length) (hs : shCheck r l0 l1 = 0) (hn : (a.xs.length : Int) = prod r l0 l1) : chk ⟨a.k, r, l0, l1, reix f a.xs.length a.xs⟩ = 0 := by
  have s1 := chk_sh ca
  unfold chk at ca ⊢
  by_cases k : a.k ≠ 1 ∧ a.k ≠ 2
  · rw [if_pos k] at ca; cases ca
  rw [if_neg k, if_neg (by simpa using hs), if_neg (by simpa [reix_len] using hn)]
  rw [if_neg k, if_neg (by simpa using s1.1), if_neg (by simpa using s1.2)] at ca
  by_cases q : a.k = 2 ∧ a.xs.any (fun c => !isRune c) = true
  · rw [if_pos q] at ca; cases ca
  · rw [if_neg]
    rintro ⟨k2, h⟩
    apply q
    refine ⟨k2, ?_⟩
    rw [List.any_eq_true] at h ⊢
    obtain ⟨y, hy, h⟩ := h
    obtain ⟨j, hj, rfl⟩ := List.mem_map.1 hy
    have := hm.into j (List.mem_range.1 hj)
    exact ⟨_, getD_in 0 this, h⟩
/-- an array with its rows turned round -/
def turned (a : Arr) : Arr := if 0 < a.r then ⟨a.k, a.r, a.l0, a.l1, reix (back (rowsOf a).2.toNat) a.xs.length a.xs⟩ else a
theorem turned_0 {a : Arr} (h : ¬ 0 < a.r) : turned a = a := if_neg h
theorem turned_r {a : Arr} (h : 0 < a.r) : turned a = ⟨a.k, a.r, a.l0, a.l1, reix (back (rowsOf a).2.toNat) a.xs.length a.xs⟩ := if_pos h
theorem turned_sh (a : Arr) : (turned a).k = a.k ∧ (turned a).r = a.r ∧ (turned a).l0 = a.l0 ∧ (turned a).l1 = a.l1 := by
  unfold turned; split <;> exact ⟨rfl, rfl, rfl, rfl⟩
theorem turned_len (a : Arr) : (turned a).xs.length = a.xs.length := by unfold turned; split; (exact reix_len _ _ _); rfl
theorem rank_pos {a : Arr} (ca : chk a = 0) : 0 < a.r ↔ a.r ≠ 0 := by have := (sh_ok (chk_sh ca).1).1; omega
theorem move_rows {a : Arr} (ca : chk a = 0) (hr : a.r ≠ 0) : Move (back (rowsOf a).2.toNat) a.xs.length := by
  obtain ⟨m, n, h, hm, _⟩ := rows_nat ca hr
  rw [h, ← hm]; exact move_back m n
theorem turned_chk {a : Arr} (ca : chk a = 0) : chk (turned a) = 0 := by
  by_cases h : 0 < a.r
  · rw [turned_r h]; exact chk_reix ca (move_rows ca ((rank_pos ca).1 h)) (chk_sh ca).1 (chk_sh ca).2
  · rw [turned_0 h]; exact ca
theorem turned_rev {a : Arr} (ca : chk a = 0) (hr : 0 < a.r) : extRev a = (0, turned a) := by
  unfold extRev
  rw [if_neg (by simpa using ca), if_neg (by omega), turned_r hr]
theorem turned_lens {a b : Arr} (ca : chk a = 0) (cb : chk b = 0) : extLens (turned a) (turned b) = extLens a b := by
  rw [lens_if ca cb, lens_if (turned_chk ca) (turned_chk cb), (turned_sh a).2.1, (turned_sh a).2.2.1, (turned_sh a).2.2.2, (turned_sh b).2.1, (turned_sh b).2.2.1, (turned_sh b).2.2.2]
theorem rows_of {a b : Arr} (h1 : a.r = b.r) (h2 : a.l0 = b.l0) (h3 : a.l1 = b.l1) (h4 : a.xs.length = b.xs.length) : rowsOf a = rowsOf b := by
  unfold rowsOf; rw [h1, h2, h3, h4]
/-- operands that fit, not both scalars: one of them has the result's shape, and with turned rows all cells are turned -/
theorem turned_pairs {a b : Arr} (ca : chk a = 0) (cb : chk b = 0) (h : (extLens a b).1 = 0) (hr : a.r ≠ 0 ∨ b.r ≠ 0) :
    ∃ s : Arr, chk s = 0 ∧ s.r ≠ 0 ∧ extLens a b = (0, s.r, s.l0, s.l1) ∧ (pairs a b).length = s.xs.length ∧ pairs (turned a) (turned b) = reixG (0, 0) (back (rowsOf s).2.toNat) (pairs a b).length (pairs a b) := by
  have hl := lens_if ca cb
  by_cases ha : a.r = 0
  · have hb : b.r ≠ 0 := by omega
    rw [if_pos ha] at hl
    have e : pairs a b = b.xs.map (fun y => (a.xs.getD 0 0, y)) := if_pos ha
    have e' : pairs (turned a) (turned b) = (turned b).xs.map (fun y => (a.xs.getD 0 0, y)) := by rw [turned_0 (show ¬ 0 < a.r by omega)]; exact if_pos ha
    refine ⟨b, cb, hb, hl, by rw [e, List.length_map], ?_⟩
    rw [e', e, turned_r ((rank_pos cb).2 hb), List.length_map]
    exact reixG_map (move_rows cb hb) _
  · by_cases hb : b.r = 0
    · rw [if_neg ha, if_pos hb] at hl
      have e : pairs a b = a.xs.map (fun x => (x, b.xs.getD 0 0)) := by unfold pairs; rw [if_neg ha, if_pos hb]
      have e' : pairs (turned a) (turned b) = (turned a).xs.map (fun x => (x, b.xs.getD 0 0)) := by
        rw [turned_0 (show ¬ 0 < b.r by omega)]; unfold pairs; rw [if_neg (by rw [(turned_sh a).2.1]; exact ha), if_pos hb]
      refine ⟨a, ca, ha, hl, by rw [e, List.length_map], ?_⟩
      rw [e', e, turned_r ((rank_pos ca).2 ha), List.length_map]
      exact reixG_map (move_rows ca ha) _
    · rw [if_neg ha, if_neg hb] at hl
      by_cases h1 : a.r ≠ b.r
      · rw [if_pos h1] at hl; rw [hl] at h; cases h
      rw [if_neg h1] at hl
      by_cases h2 : a.l0 ≠ b.l0 ∨ a.l1 ≠ b.l1
      · rw [if_pos h2] at hl; rw [hl] at h; cases h
      rw [if_neg h2] at hl
      have hn : b.xs.length = a.xs.length := by
        have e1 := (chk_sh ca).2; have e2 := (chk_sh cb).2
        rw [show b.r = a.r by omega, show b.l0 = a.l0 by omega, show b.l1 = a.l1 by omega] at e2
        omega
      have e : pairs a b = a.xs.zip b.xs := by unfold pairs; rw [if_neg ha, if_neg hb]
      have e' : pairs (turned a) (turned b) = (turned a).xs.zip (turned b).xs := by unfold pairs; rw [if_neg (by rw [(turned_sh a).2.1]; exact ha), if_neg (by rw [(turned_sh b).2.1]; exact hb)]
      have hz : (a.xs.zip b.xs).length = a.xs.length := by rw [List.length_zip]; omega
      refine ⟨a, ca, ha, hl, by rw [e]; exact hz, ?_⟩
      rw [e', e, hz, turned_r ((rank_pos ca).2 ha), turned_r ((rank_pos cb).2 hb), rows_of (a := b) (b := a) (by omega) (by omega) (by omega) hn]
      exact reixG_zip (move_rows ca ha) hn
theorem turned_two {p : Int} {a b : Arr} (ca : chk a = 0) (cb : chk b = 0) :
    ((extTwo p a b).1 = 0 ↔ (extTwo p (turned a) (turned b)).1 = 0) ∧ ((extTwo p a b).1 = 0 → 0 < (extTwo p a b).2.r → extRev (extTwo p a b).2 = (0, (extTwo p (turned a) (turned b)).2)) := by
  by_cases hr : a.r ≠ 0 ∨ b.r ≠ 0
  · have hk : kindsOk p (turned a) (turned b) = kindsOk p a b := by unfold kindsOk; rw [(turned_sh a).1, (turned_sh b).1]
    by_cases h : (extLens a b).1 = 0
    · obtain ⟨s, cs, sr, hl, hn, hp⟩ := turned_pairs ca cb h hr
      obtain ⟨t1, t2⟩ := two_move (p := p) (a := a) (b := b) (a' := turned a) (b' := turned b) (f := back (rowsOf s).2.toNat) (by rw [chk2_ok ca, cb]) (by rw [chk2_ok (turned_chk ca), turned_chk cb]) hk (by rw [turned_lens ca cb]) (fun _ => ⟨by rw [hn]; exact move_rows cs sr, hp⟩)
      refine ⟨t1, fun e e2 => ?_⟩
      obtain ⟨t3, t4, t5, t6⟩ := t2 e
      rw [turned_lens ca cb] at t6
      generalize extTwo p a b = T at *
      generalize extTwo p (turned a) (turned b) = T' at *
      rw [hl] at t4 t6
      have c1 : chk T.2 = 0 := by rw [t4]; exact chk_res (chk_sh cs).1 (by rw [t5, hn]; exact (chk_sh cs).2)
      rw [turned_rev c1 e2, turned_r e2, t6]
      rw [hn] at t5
      rw [rows_of (a := T.2) (b := s) (by rw [t4]) (by rw [t4]) (by rw [t4]) t5, hn, ← t5, t4]
    · have h0 : (extTwo p a b).1 ≠ 0 := by
        intro e
        obtain ⟨_, t2⟩ := two_move (p := p) (a := a) (b := b) (a' := turned a) (b' := turned b) (f := id) (by rw [chk2_ok ca, cb]) (by rw [chk2_ok (turned_chk ca), turned_chk cb]) hk (by rw [turned_lens ca cb]) (fun e => absurd e h)
        exact h (t2 e).1
      obtain ⟨t1, t2⟩ := two_move (p := p) (a := a) (b := b) (a' := turned a) (b' := turned b) (f := id) (by rw [chk2_ok ca, cb]) (by rw [chk2_ok (turned_chk ca), turned_chk cb]) hk (by rw [turned_lens ca cb]) (fun e => absurd e h)
      exact ⟨t1, fun e => absurd e h0⟩
  · have ha : a.r = 0 := by omega
    have hb : b.r = 0 := by omega
    rw [turned_0 (show ¬ 0 < a.r by omega), turned_0 (show ¬ 0 < b.r by omega)]
    refine ⟨Iff.rfl, fun e h => ?_⟩
    exfalso
    unfold extTwo at h
    have hl : (extLens a b).2.1 = 0 := by rw [lens_if ca cb, if_pos ha]; exact hb
    split at h
    · exact absurd h (show ¬ (0 : Int) < 0 by decide)
    split at h
    · exact absurd h (show ¬ (0 : Int) < 0 by decide)
    split at h
    · exact absurd h (show ¬ (0 : Int) < 0 by decide)
    split at h
    · exact absurd h (show ¬ (0 : Int) < 0 by decide)
    split at h
    · exact absurd h (show ¬ (0 : Int) < 0 by decide)
    · rw [show ((0 : Int), Arr.mk 1 (extLens a b).2.1 (extLens a b).2.2.1 (extLens a b).2.2.2 (mapP (fun q => two p q.1 q.2) (pairs a b)).2).2.r = (extLens a b).2.1 from rfl, hl] at h
      omega
theorem turned_one {p : Int} {a : Arr} (ca : chk a = 0) :
    ((extOne p a).1 = 0 ↔ (extOne p (turned a)).1 = 0) ∧ ((extOne p a).1 = 0 → 0 < a.r → extRev (extOne p a).2 = (0, (extOne p (turned a)).2)) := by
  by_cases h : 0 < a.r
  · have hm := move_rows ca ((rank_pos ca).1 h)
    obtain ⟨t1, t2⟩ := one_move (p := p) (a := a) (a' := turned a) (f := back (rowsOf a).2.toNat) ca (turned_chk ca) (turned_sh a).1 hm (by rw [turned_r h])
    refine ⟨t1, fun e _ => ?_⟩
    obtain ⟨t4, t5, t6⟩ := t2 e
    rw [(turned_sh a).2.1, (turned_sh a).2.2.1, (turned_sh a).2.2.2] at t6
    generalize extOne p a = T at *
    generalize extOne p (turned a) = T' at *
    have c1 : chk T.2 = 0 := by rw [t4]; exact chk_res (chk_sh ca).1 (by rw [t5]; exact (chk_sh ca).2)
    have e2 : 0 < T.2.r := by rw [t4]; exact h
    rw [turned_rev c1 e2, turned_r e2, t6, rows_of (a := T.2) (b := a) (by rw [t4]) (by rw [t4]) (by rw [t4]) t5, ← t5, t4]
  · rw [turned_0 h]; exact ⟨Iff.rfl, fun _ e => absurd e h⟩
theorem sh_fit {r l0 l1 : Int} (h : shCheck r l0 l1 = 0) : Fits l0 ∧ Fits l1 := by
  unfold shCheck at h
  by_cases a : r < 0 ∨ 2 < r
  · rw [if_pos a] at h; cases h
  rw [if_neg a] at h
  by_cases b : (1 ≤ r ∧ l0 < 0) ∨ (2 ≤ r ∧ l1 < 0)
  · rw [if_pos b] at h; cases h
  rw [if_neg b] at h
  by_cases c : (r < 1 ∧ l0 ≠ 0) ∨ (r < 2 ∧ l1 ≠ 0)
  · rw [if_pos c] at h; cases h
  rw [if_neg c] at h
  by_cases d : 400 < l0 ∨ 400 < l1 ∨ 400 < prod r l0 l1
  · rw [if_pos d] at h; cases h
  unfold Fits; omega
theorem two_chk {p : Int} {a b : Arr} (ca : chk a = 0) (cb : chk b = 0) (h : (extTwo p a b).1 = 0) : chk (extTwo p a b).2 = 0 := by
  obtain ⟨_, t2⟩ := two_move (p := p) (a := a) (b := b) (a' := a) (b' := b) (f := id) (by rw [chk2_ok ca, cb]) (by rw [chk2_ok ca, cb]) rfl rfl (fun _ => ⟨⟨fun _ h => h, fun i h => ⟨i, h, rfl⟩⟩, by
    refine List.ext_getElem (by simp [reixG]) fun j h1 h2 => ?_
    simp [reixG, List.getD_eq_getElem?_getD, List.getElem?_eq_getElem h1]⟩)
  obtain ⟨t3, t4, t5, _⟩ := t2 h
  obtain ⟨e1, e2⟩ := ext_shape (a := a) (b := b) (r := (extLens a b).2.1) (l0 := (extLens a b).2.2.1) (l1 := (extLens a b).2.2.2) (Prod.ext t3 rfl)
  rw [t4]
  exact chk_res e1 (by rw [t5, pairs_len t3]; exact e2)
theorem one_chk {p : Int} {a : Arr} (ca : chk a = 0) (h : (extOne p a).1 = 0) : chk (extOne p a).2 = 0 := by
  obtain ⟨_, t2⟩ := one_move (p := p) (a := a) (a' := a) (f := id) ca ca rfl ⟨fun _ h => h, fun i h => ⟨i, h, rfl⟩⟩ (reix_eq rfl fun _ _ => rfl)
  obtain ⟨t4, t5, _⟩ := t2 h
  rw [t4]
  exact chk_res (chk_sh ca).1 (by rw [t5]; exact (chk_sh ca).2)
/-- an array's length and lengths -/
theorem chk_fit {a : Arr} (ca : chk a = 0) : a.xs.length ≤ 400 ∧ Fits a.l0 ∧ Fits a.l1 := by
  obtain ⟨s, n⟩ := chk_sh ca
  have := sh_ok s
  exact ⟨by omega, sh_fit s⟩
theorem reix_all {P : Int → Prop} {f : Nat → Nat} {xs : List Int} (hm : Move f xs.length) (h : ∀ x ∈ xs, P x) : ∀ x ∈ reix f xs.length xs, P x := (reixG_all (d := 0) hm P).2 h
theorem fine_turned {a : Arr} (ca : chk a = 0) (h : Fine a) : Fine (turned a) := by
  obtain ⟨h1, h2, h3, h4⟩ := h
  refine ⟨by rw [turned_len]; exact h1, by rw [(turned_sh a).2.2.1]; exact h2, by rw [(turned_sh a).2.2.2]; exact h3, ?_⟩
  by_cases e : 0 < a.r
  · rw [turned_r e]; exact reix_all (move_rows ca ((rank_pos ca).1 e)) h4
  · rw [turned_0 e]; exact h4
theorem one_go (p : Int) (a : Arr) (A : Option Addr) (c : Nat) (ha : Hid (Fine a)) {er : Int} {R : Arr} (hE : Hid (extOne p a = (er, R))) (w : World) (hs : Sl w A a.xs) :
    Calls Try.prog 21 #[.int .i64 p, .agg #[.int .i64 a.k, .int .i64 a.r, .int .i64 a.l0, .int .i64 a.l1, .slice A a.xs.length c]] w fun e w' => Below w.heap.size w w' ∧ ∃ (C : Option Addr) (n : Nat), e = .returned (.tuple #[.agg #[.int .i64 R.k, .int .i64 R.r, .int .i64 R.l0, .int .i64 R.l1, .slice C R.xs.length n], .int .i64 er]) ∧ Sl w' C R.xs ∧ (∀ g o, C = some ⟨g, o, none⟩ → w.heap.size ≤ g) ∧ R.xs.length ≤ n := by
  have h := one_any p a A c ha.out.1 ha.out.2.1 ha.out.2.2.1 ha.out.2.2.2 w hs
  rw [hE.out] at h
  exact h
theorem rev_go (a : Arr) (A : Option Addr) (c : Nat) (ha : Hid (chk a = 0)) {er : Int} {R : Arr} (hE : Hid (extRev a = (er, R))) (w : World) (hs : Sl w A a.xs) :
    Calls Try.prog 34 #[.agg #[.int .i64 a.k, .int .i64 a.r, .int .i64 a.l0, .int .i64 a.l1, .slice A a.xs.length c]] w fun e w' => Below w.heap.size w w' ∧ ∃ (C : Option Addr) (n : Nat), e = .returned (.tuple #[.agg #[.int .i64 R.k, .int .i64 R.r, .int .i64 R.l0, .int .i64 R.l1, .slice C R.xs.length n], .int .i64 er]) ∧ Sl w' C R.xs ∧ (∀ g o, C = some ⟨g, o, none⟩ → w.heap.size ≤ g) ∧ R.xs.length ≤ n := by
  obtain ⟨h1, h2, h3⟩ := chk_fit ha.out
  have h := rev_any a A c (by omega) h2 h3 w hs
  rw [hE.out] at h
  exact h
theorem turns_any (p : Int) (w : World) : Calls Try.prog 33 #[.int .i64 p] w fun e w' => e = .returned (.bool (turns p)) ∧ w' = w := by
  go_enter Try.func33, Try.ntmps33
  go_wp2
  all_goals
    refine bodyPost_ret (v := .bool (turns p)) (by unfold turns; simp [results, Try.results33, go_sem, *] <;> simp only [Bool.or_assoc]) rfl ⟨rfl, rfl⟩
end Ar
end Go.Proofs.Ytfpnafeildigaaa
/-
The plain laws of ExtendParts and ExtendFlips (chapter 10): parts of vectors; rows made columns; all cells in a row.
-/
set_option linter.unusedSimpArgs false
set_option linter.unusedVariables false
namespace Go.Proofs.Ytfpnafeildigaaa
namespace Ar
open Go.RowKit Sc
theorem mapP_bad (f : Int × Int → Int × Int) : ∀ l : List (Int × Int), (mapP f l).1 ≠ 0 → mapP f l = ((mapP f l).1, [])
  | [], h => absurd rfl h
  | x :: l, h => by
    rw [mapP_cons] at h ⊢
    by_cases h1 : (f x).2 ≠ 0
    · rw [if_pos h1]
    · rw [if_neg h1] at h ⊢
      by_cases h2 : (mapP f l).1 ≠ 0
      · rw [if_pos h2]
      · rw [if_neg h2] at h; exact absurd rfl h
theorem mapP_app (f : Int × Int → Int × Int) : ∀ l r : List (Int × Int), mapP f (l ++ r) = if (mapP f l).1 ≠ 0 then ((mapP f l).1, []) else if (mapP f r).1 ≠ 0 then ((mapP f r).1, []) else (0, (mapP f l).2 ++ (mapP f r).2)
  | [], r => by
    rw [List.nil_append, if_neg (show ¬ ((mapP f []).1 ≠ 0) by simp [mapP])]
    by_cases h : (mapP f r).1 ≠ 0
    · rw [if_pos h]; exact mapP_bad f r h
    · rw [if_neg h]; exact Prod.ext (by simpa using h) rfl
  | x :: l, r => by
    rw [List.cons_append, mapP_cons, mapP_cons, mapP_app f l r]
    by_cases h1 : (f x).2 ≠ 0
    · simp only [if_pos h1]
    · simp only [if_neg h1]
      by_cases h2 : (mapP f l).1 ≠ 0
      · simp only [if_pos h2]
      · simp only [if_neg h2]
        by_cases h3 : (mapP f r).1 ≠ 0
        · simp only [if_pos h3]; simp
        · simp only [if_neg h3]; simp
def vec' (k : Int) (xs : List Int) : Arr := ⟨k, 1, xs.length, 0, xs⟩
/-- rows put side by side -/
def catRows (m n k : Nat) (xs ys : List Int) : List Int := (List.range m).flatMap (fun i => (xs.drop (i * n)).take n ++ (ys.drop (i * k)).take k)
def extCat (a b : Arr) : Int × Arr :=
  if chk a ≠ 0 then (chk a, .zero) else if chk b ≠ 0 then (chk b, .zero) else if a.k ≠ b.k then (21, .zero) else if a.r ≠ b.r ∨ a.r = 0 then (22, .zero)
  else if a.r = 2 ∧ a.l0 ≠ b.l0 then (11, .zero) else if 400 < (a.xs.length : Int) + b.xs.length ∨ 400 < a.l1 + b.l1 then (15, .zero)
  else if a.r = 1 then (0, vec' a.k (a.xs ++ b.xs)) else (0, ⟨a.k, 2, a.l0, a.l1 + b.l1, catRows a.l0.toNat a.l1.toNat b.l1.toNat a.xs b.xs⟩)
/-- the parts of a vector are vectors -/
theorem chk_part {a : Arr} {xs : List Int} (ca : chk a = 0) (hl : xs.length ≤ a.xs.length) (hs : ∀ x ∈ xs, x ∈ a.xs) : chk (vec' a.k xs) = 0 := by
  obtain ⟨s, n⟩ := chk_sh ca
  have h4 := sh_ok s
  unfold chk at ca
  by_cases k : a.k ≠ 1 ∧ a.k ≠ 2
  · rw [if_pos k] at ca; cases ca
  rw [if_neg k, if_neg (by simpa using s), if_neg (by simpa using n)] at ca
  have s1 : shCheck 1 (xs.length : Int) 0 = 0 := sh_1t (by omega) (by omega) rfl
  unfold chk vec'
  rw [if_neg k]
  show (if shCheck 1 (xs.length : Int) 0 ≠ 0 then _ else _) = _
  rw [if_neg (by simpa using s1)]
  show (if (xs.length : Int) ≠ prod 1 (xs.length : Int) 0 then _ else _) = _
  rw [prod_1, if_neg (by simp)]
  by_cases q : a.k = 2 ∧ a.xs.any (fun c => !isRune c) = true
  · rw [if_pos q] at ca; cases ca
  · rw [if_neg]
    rintro ⟨k2, h⟩
    apply q
    refine ⟨k2, ?_⟩
    rw [List.any_eq_true] at h ⊢
    obtain ⟨y, hy, h⟩ := h
    exact ⟨y, hs y hy, h⟩
theorem vec_pairs (k k' : Int) (xs ys : List Int) : pairs (vec' k xs) (vec' k' ys) = xs.zip ys := by
  unfold pairs
  rw [if_neg (show ¬ (vec' k xs).r = 0 from (by decide : ¬ (1 : Int) = 0)), if_neg (show ¬ (vec' k' ys).r = 0 from (by decide : ¬ (1 : Int) = 0))]
  rfl
theorem vec_lens {k k' : Int} {xs ys : List Int} (ca : chk (vec' k xs) = 0) (cb : chk (vec' k' ys) = 0) (h : xs.length = ys.length) : extLens (vec' k xs) (vec' k' ys) = (0, 1, (xs.length : Int), 0) := by
  rw [lens_if ca cb, if_neg (show ¬ (vec' k xs).r = 0 from (by decide : ¬ (1 : Int) = 0)), if_neg (show ¬ (vec' k' ys).r = 0 from (by decide : ¬ (1 : Int) = 0)), if_neg (show ¬ (vec' k xs).r ≠ (vec' k' ys).r from (by decide : ¬ (1 : Int) ≠ 1))]
  rw [if_neg (by rintro (e | e); exact e (congrArg Nat.cast h); exact e rfl)]
  rfl
theorem kindsOk_k {p : Int} {a b a' b' : Arr} (h1 : a'.k = a.k) (h2 : b'.k = b.k) : kindsOk p a' b' = kindsOk p a b := by unfold kindsOk; rw [h1, h2]
/-- two vectors of one length -/
theorem two_vec {p k k' : Int} {xs ys : List Int} (ca : chk (vec' k xs) = 0) (cb : chk (vec' k' ys) = 0) (h : xs.length = ys.length) :
    extTwo p (vec' k xs) (vec' k' ys) = if arity p ≠ (2, 0) then (2, .zero) else if kindsOk p (vec' k []) (vec' k' []) = false then (21, .zero)
      else if (mapP (fun q => two p q.1 q.2) (xs.zip ys)).1 ≠ 0 then ((mapP (fun q => two p q.1 q.2) (xs.zip ys)).1, .zero) else (0, vec' 1 (mapP (fun q => two p q.1 q.2) (xs.zip ys)).2) := by
  unfold extTwo
  rw [chk2_ok ca, cb, if_neg (show ¬ ((0 : Int) ≠ 0) by simp), vec_lens ca cb h, vec_pairs, kindsOk_k (a := vec' k []) (a' := vec' k xs) (b := vec' k' []) (b' := vec' k' ys) rfl rfl]
  by_cases c1 : arity p ≠ (2, 0)
  · rw [if_pos c1, if_pos c1]
  rw [if_neg c1, if_neg c1]
  by_cases c2 : kindsOk p (vec' k []) (vec' k' []) = false
  · rw [if_pos c2, if_pos c2]
  rw [if_neg c2, if_neg c2, if_neg (show ¬ ((0 : Int), (1 : Int), (xs.length : Int), (0 : Int)).1 ≠ 0 by simp)]
  by_cases c3 : (mapP (fun q => two p q.1 q.2) (xs.zip ys)).1 ≠ 0
  · rw [if_pos c3, if_pos c3]
  rw [if_neg c3, if_neg c3]
  have c4 : (mapP (fun q => two p q.1 q.2) (xs.zip ys)).1 = 0 := by simpa using c3
  show (0, _) = (0, _)
  unfold vec'
  rw [mapP_map _ _ c4, List.length_map, List.length_zip, ← h, Nat.min_self]
theorem vec_of {a : Arr} (ca : chk a = 0) (hr : a.r = 1) : a = vec' a.k a.xs := by
  obtain ⟨s, n⟩ := chk_sh ca
  obtain ⟨k, r, l0, l1, xs⟩ := a
  simp only at hr
  subst hr
  have h1 : l1 = 0 := by
    simp only at s
    unfold shCheck at s
    rw [if_neg (by omega)] at s
    by_cases b : (1 ≤ (1 : Int) ∧ l0 < 0) ∨ (2 ≤ (1 : Int) ∧ l1 < 0)
    · rw [if_pos b] at s; cases s
    rw [if_neg b] at s
    by_cases c : ((1 : Int) < 1 ∧ l0 ≠ 0) ∨ ((1 : Int) < 2 ∧ l1 ≠ 0)
    · rw [if_pos c] at s; cases s
    omega
  subst h1
  simp only [prod_1] at n
  subst n
  rfl
/-- the parts of vectors have the parts of the result -/
theorem parts {p : Int} {a b : Arr} (ca : chk a = 0) (cb : chk b = 0) (ha : a.r = 1) (hb : b.r = 1) (hl : a.xs.length = b.xs.length) (n : Nat) :
    ((extTwo p (vec' a.k (a.xs.take n)) (vec' b.k (b.xs.take n))).1 ≠ 0 → (extTwo p a b).1 = (extTwo p (vec' a.k (a.xs.take n)) (vec' b.k (b.xs.take n))).1) ∧
    ((extTwo p (vec' a.k (a.xs.take n)) (vec' b.k (b.xs.take n))).1 = 0 → (extTwo p (vec' a.k (a.xs.drop n)) (vec' b.k (b.xs.drop n))).1 ≠ 0 → (extTwo p a b).1 = (extTwo p (vec' a.k (a.xs.drop n)) (vec' b.k (b.xs.drop n))).1) ∧
    ((extTwo p (vec' a.k (a.xs.take n)) (vec' b.k (b.xs.take n))).1 = 0 → (extTwo p (vec' a.k (a.xs.drop n)) (vec' b.k (b.xs.drop n))).1 = 0 →
      (extTwo p a b).1 = 0 ∧ extCat (extTwo p (vec' a.k (a.xs.take n)) (vec' b.k (b.xs.take n))).2 (extTwo p (vec' a.k (a.xs.drop n)) (vec' b.k (b.xs.drop n))).2 = (0, (extTwo p a b).2)) := by
  have la := chk_sh ca
  have l4 := sh_ok la.1
  have ta : chk (vec' a.k (a.xs.take n)) = 0 := chk_part ca (by rw [List.length_take]; omega) (fun x h => List.mem_of_mem_take h)
  have tb : chk (vec' b.k (b.xs.take n)) = 0 := chk_part cb (by rw [List.length_take]; omega) (fun x h => List.mem_of_mem_take h)
  have da : chk (vec' a.k (a.xs.drop n)) = 0 := chk_part ca (by rw [List.length_drop]; omega) (fun x h => List.mem_of_mem_drop h)
  have db : chk (vec' b.k (b.xs.drop n)) = 0 := chk_part cb (by rw [List.length_drop]; omega) (fun x h => List.mem_of_mem_drop h)
  have va := vec_of ca ha
  have vb := vec_of cb hb
  have ea : chk (vec' a.k a.xs) = 0 := by rw [← va]; exact ca
  have eb : chk (vec' b.k b.xs) = 0 := by rw [← vb]; exact cb
  have hw : extTwo p a b = extTwo p (vec' a.k a.xs) (vec' b.k b.xs) := by rw [← va, ← vb]
  rw [hw, two_vec ta tb (by rw [List.length_take, List.length_take]; omega), two_vec da db (by rw [List.length_drop, List.length_drop]; omega), two_vec ea eb hl]
  have hz : a.xs.zip b.xs = (a.xs.take n).zip (b.xs.take n) ++ (a.xs.drop n).zip (b.xs.drop n) := by
    rw [← List.zip_append (by rw [List.length_take, List.length_take]; omega), List.take_append_drop, List.take_append_drop]
  rw [hz, mapP_app]
  by_cases c1 : arity p ≠ (2, 0)
  · simp only [if_pos c1]; exact ⟨fun _ => trivial, fun e => absurd e (by decide), fun e => absurd e (by decide)⟩
  simp only [if_neg c1]
  by_cases c2 : kindsOk p (vec' a.k []) (vec' b.k []) = false
  · simp only [if_pos c2]; exact ⟨fun _ => trivial, fun e => absurd e (by decide), fun e => absurd e (by decide)⟩
  simp only [if_neg c2]
  have hlt : (mapP (fun q => two p q.1 q.2) ((a.xs.take n).zip (b.xs.take n))).1 = 0 → (mapP (fun q => two p q.1 q.2) ((a.xs.take n).zip (b.xs.take n))).2.length = (a.xs.take n).length := fun h => by
    rw [mapP_map _ _ h, List.length_map, List.length_zip, List.length_take, List.length_take]; omega
  have hld : (mapP (fun q => two p q.1 q.2) ((a.xs.drop n).zip (b.xs.drop n))).1 = 0 → (mapP (fun q => two p q.1 q.2) ((a.xs.drop n).zip (b.xs.drop n))).2.length = (a.xs.drop n).length := fun h => by
    rw [mapP_map _ _ h, List.length_map, List.length_zip, List.length_drop, List.length_drop]; omega
  generalize mapP (fun q => two p q.1 q.2) ((a.xs.take n).zip (b.xs.take n)) = F at *
  generalize mapP (fun q => two p q.1 q.2) ((a.xs.drop n).zip (b.xs.drop n)) = S at *
  by_cases c3 : F.1 ≠ 0
  · simp only [if_pos c3]; exact ⟨fun _ => trivial, fun e => absurd e c3, fun e => absurd e c3⟩
  simp only [if_neg c3]
  by_cases c4 : S.1 ≠ 0
  · simp only [if_pos c4]; exact ⟨fun e => absurd rfl e, fun _ _ => trivial, fun _ e => absurd e c4⟩
  simp only [if_neg c4]
  rw [if_neg (show ¬ ((0 : Int) ≠ 0) by simp)]
  refine ⟨fun e => absurd rfl e, fun _ e => absurd rfl e, fun _ _ => ⟨rfl, ?_⟩⟩
  have h1 := hlt (by simpa using c3)
  have h2 := hld (by simpa using c4)
  rw [List.length_take] at h1
  rw [List.length_drop] at h2
  have sv : ∀ ys : List Int, ys.length ≤ 400 → chk (vec' 1 ys) = 0 := fun ys h => chk_res (r := 1) (l0 := ys.length) (l1 := 0) (sh_1t (by omega) (by omega) rfl) (by rw [prod_1])
  unfold extCat
  rw [sv F.2 (by omega), sv S.2 (by omega)]
  have k1 : ∀ ys, (vec' 1 ys).k = 1 := fun _ => rfl
  have k2 : ∀ ys, (vec' 1 ys).r = 1 := fun _ => rfl
  have k3 : ∀ ys, (vec' 1 ys).l1 = 0 := fun _ => rfl
  have k4 : ∀ ys, (vec' 1 ys).xs = ys := fun _ => rfl
  rw [k1, k1, k2, k2, k3, k3, k4, k4, if_neg (by simp), if_neg (by simp), if_neg (by simp), if_neg (by simp), if_neg (by simp), if_neg (by omega), if_pos rfl]
/-- the place in rows of a place in columns -/
def flipAt (m n j : Nat) : Nat := j % m * n + j / m
theorem flip_lt {m n j : Nat} (h : j < m * n) : flipAt m n j < m * n := by
  have hm : 0 < m := by rcases Nat.eq_zero_or_pos m with e | e; (rw [e] at h; simp at h); exact e
  have hk : j % m < m := Nat.mod_lt _ hm
  have hi : j / m < n := Nat.div_lt_of_lt_mul h
  have e : j % m * n + n ≤ m * n := by rw [← Nat.succ_mul]; exact Nat.mul_le_mul_right _ hk
  unfold flipAt
  generalize j % m * n = q at *
  generalize j / m = r at *
  omega
theorem flip_back {m n j : Nat} (h : j < m * n) : flipAt n m (flipAt m n j) = j := by
  have hn : j / m < n := Nat.div_lt_of_lt_mul h
  have e1 : (j % m * n + j / m) / n = j % m := by rw [Nat.add_comm, Nat.add_mul_div_right _ _ (Nat.lt_of_le_of_lt (Nat.zero_le _) hn), Nat.div_eq_of_lt hn, Nat.zero_add]
  have e2 : (j % m * n + j / m) % n = j / m := by rw [Nat.add_comm, Nat.add_mul_mod_self_right, Nat.mod_eq_of_lt hn]
  unfold flipAt
  rw [e1, e2, Nat.mul_comm]
  exact Nat.div_add_mod j m
theorem move_flip (m n : Nat) : Move (flipAt m n) (m * n) :=
  ⟨fun _ h => flip_lt h, fun i hi => ⟨flipAt n m i, by rw [Nat.mul_comm]; exact flip_lt (by rw [Nat.mul_comm]; exact hi), flip_back (by rw [Nat.mul_comm]; exact hi)⟩⟩
/-- a matrix with its rows as columns -/
def flipped (a : Arr) : Arr := ⟨a.k, 2, a.l1, a.l0, reix (flipAt a.l0.toNat a.l1.toNat) a.xs.length a.xs⟩
def extFlip (a : Arr) : Int × Arr := if chk a ≠ 0 then (chk a, .zero) else if a.r ≠ 2 then (22, .zero) else (0, flipped a)
def extRavel (a : Arr) : Int × Arr := if chk a ≠ 0 then (chk a, .zero) else (0, vec' a.k a.xs)
theorem rows_two {a : Arr} (ca : chk a = 0) (hr : a.r = 2) : (a.l0.toNat : Int) = a.l0 ∧ (a.l1.toNat : Int) = a.l1 ∧ a.l0.toNat * a.l1.toNat = a.xs.length ∧ a.l0.toNat ≤ 400 ∧ a.l1.toNat ≤ 400 := by
  obtain ⟨m, n, h, hm, h1, h2⟩ := rows_nat ca (by omega)
  unfold rowsOf at h
  rw [if_pos hr] at h
  injection h with e1 e2
  rw [e1, e2]
  exact ⟨by simp, by simp, by simpa using hm, by simpa using h1, by simpa using h2⟩
theorem move_mat {a : Arr} (ca : chk a = 0) (hr : a.r = 2) : Move (flipAt a.l0.toNat a.l1.toNat) a.xs.length := by
  rw [← (rows_two ca hr).2.2.1]; exact move_flip _ _
theorem flipped_chk {a : Arr} (ca : chk a = 0) (hr : a.r = 2) : chk (flipped a) = 0 := by
  obtain ⟨s, n⟩ := chk_sh ca
  rw [hr] at s n
  refine chk_reix ca (move_mat ca hr) ?_ (by rw [n, prod_2, prod_2, Int.mul_comm])
  obtain ⟨h0, h1, h2, h3, h4⟩ := rows_two ca hr
  have h5 := (sh_ok s).2.2
  rw [prod_2] at h5
  exact sh_2t (by omega) (by omega) (by omega) (by omega) (by rw [Int.mul_comm]; exact h5)
theorem ravel_chk {a : Arr} (ca : chk a = 0) : chk (vec' a.k a.xs) = 0 := chk_part ca (Nat.le_refl _) (fun _ h => h)
theorem flip_yes {a : Arr} (ca : chk a = 0) (hr : a.r = 2) : extFlip a = (0, flipped a) := by
  unfold extFlip; rw [if_neg (by simpa using ca), if_neg (by simpa using hr)]
theorem ravel_yes {a : Arr} (ca : chk a = 0) : extRavel a = (0, vec' a.k a.xs) := by
  unfold extRavel; rw [if_neg (by simpa using ca)]
theorem mat_lens {a b : Arr} (ca : chk a = 0) (cb : chk b = 0) (ha : a.r = 2) (hb : b.r = 2) (h0 : a.l0 = b.l0) (h1 : a.l1 = b.l1) : extLens a b = (0, 2, a.l0, a.l1) := by
  rw [lens_if ca cb, if_neg (by omega), if_neg (by omega), if_neg (by omega), if_neg (by omega), ha]
theorem mat_pairs {a b : Arr} (ha : a.r = 2) (hb : b.r = 2) : pairs a b = a.xs.zip b.xs := by unfold pairs; rw [if_neg (by omega), if_neg (by omega)]
/-- two matrices of one shape, flipped: the same errors but for which, and the flipped result -/
theorem flips {p : Int} {a b : Arr} (ca : chk a = 0) (cb : chk b = 0) (ha : a.r = 2) (hb : b.r = 2) (h0 : a.l0 = b.l0) (h1 : a.l1 = b.l1) :
    ((extTwo p a b).1 = 0 ↔ (extTwo p (flipped a) (flipped b)).1 = 0) ∧ ((extTwo p a b).1 = 0 → extFlip (extTwo p a b).2 = (0, (extTwo p (flipped a) (flipped b)).2)) := by
  have n1 := (chk_sh ca).2
  have n2 := (chk_sh cb).2
  rw [ha] at n1
  rw [hb, ← h0, ← h1] at n2
  have hn : b.xs.length = a.xs.length := by omega
  have hp : pairs (flipped a) (flipped b) = reixG (0, 0) (flipAt a.l0.toNat a.l1.toNat) (pairs a b).length (pairs a b) := by
    rw [mat_pairs (a := flipped a) (b := flipped b) rfl rfl, mat_pairs ha hb, List.length_zip, hn, Nat.min_self]
    show (reix _ _ _).zip (reix _ _ _) = _
    rw [← h0, ← h1]
    exact reixG_zip (move_mat ca ha) hn
  have hpl : (pairs a b).length = a.xs.length := by rw [mat_pairs ha hb, List.length_zip, hn, Nat.min_self]
  obtain ⟨t1, t2⟩ := two_move (p := p) (a := a) (b := b) (a' := flipped a) (b' := flipped b) (f := flipAt a.l0.toNat a.l1.toNat) (by rw [chk2_ok ca, cb]) (by rw [chk2_ok (flipped_chk ca ha), flipped_chk cb hb]) rfl
    (by rw [mat_lens ca cb ha hb h0 h1, mat_lens (flipped_chk ca ha) (flipped_chk cb hb) rfl rfl h1 h0]) (fun _ => ⟨by rw [hpl]; exact move_mat ca ha, hp⟩)
  refine ⟨t1, fun e => ?_⟩
  obtain ⟨t3, t4, t5, t6⟩ := t2 e
  have cT := two_chk (p := p) ca cb e
  generalize extTwo p a b = T at *
  generalize extTwo p (flipped a) (flipped b) = T' at *
  rw [mat_lens ca cb ha hb h0 h1] at t4
  rw [mat_lens (flipped_chk ca ha) (flipped_chk cb hb) rfl rfl h1 h0] at t6
  rw [flip_yes cT (by rw [t4]), t6]
  unfold flipped
  rw [← t5, t4]
theorem ravels {p : Int} {a b : Arr} (ca : chk a = 0) (cb : chk b = 0) (ha : a.r = 2) (hb : b.r = 2) (h0 : a.l0 = b.l0) (h1 : a.l1 = b.l1) :
    (extTwo p a b).1 = (extTwo p (vec' a.k a.xs) (vec' b.k b.xs)).1 ∧ ((extTwo p a b).1 = 0 → extRavel (extTwo p a b).2 = (0, (extTwo p (vec' a.k a.xs) (vec' b.k b.xs)).2)) := by
  have n1 := (chk_sh ca).2
  have n2 := (chk_sh cb).2
  rw [ha] at n1
  rw [hb, ← h0, ← h1] at n2
  have hn : a.xs.length = b.xs.length := by omega
  have ht : (extTwo p a b).1 = 0 → chk (extTwo p a b).2 = 0 := fun e => two_chk ca cb e
  rw [two_vec (ravel_chk ca) (ravel_chk cb) hn]
  unfold extTwo at ht ⊢
  rw [chk2_ok ca, cb, if_neg (show ¬ ((0 : Int) ≠ 0) by simp), mat_lens ca cb ha hb h0 h1, mat_pairs ha hb, kindsOk_k (a := vec' a.k []) (a' := a) (b := vec' b.k []) (b' := b) rfl rfl] at ht ⊢
  by_cases c1 : arity p ≠ (2, 0)
  · simp only [if_pos c1]; exact ⟨trivial, fun e => absurd e (by decide)⟩
  simp only [if_neg c1] at ht ⊢
  by_cases c2 : kindsOk p (vec' a.k []) (vec' b.k []) = false
  · simp only [if_pos c2]; exact ⟨trivial, fun e => absurd e (by decide)⟩
  simp only [if_neg c2] at ht ⊢
  rw [if_neg (show ¬ ((0 : Int) ≠ 0) by simp)] at ht ⊢
  generalize mapP (fun q => two p q.1 q.2) (a.xs.zip b.xs) = F at *
  by_cases c3 : F.1 ≠ 0
  · simp only [if_pos c3]; exact ⟨trivial, fun e => absurd e c3⟩
  simp only [if_neg c3] at ht ⊢
  exact ⟨trivial, fun _ => ravel_yes (ht trivial)⟩
theorem ravel_one {p : Int} {a : Arr} (ca : chk a = 0) :
    (extOne p a).1 = (extOne p (vec' a.k a.xs)).1 ∧ ((extOne p a).1 = 0 → extRavel (extOne p a).2 = (0, (extOne p (vec' a.k a.xs)).2)) := by
  have ht : (extOne p a).1 = 0 → chk (extOne p a).2 = 0 := fun e => one_chk ca e
  have hm : (mapE (one p) a.xs).1 = 0 → (mapE (one p) a.xs).2.length = a.xs.length := fun h => by rw [mapE_map _ _ h, List.length_map]
  unfold extOne at ht ⊢
  rw [ca, ravel_chk ca]
  rw [ca] at ht
  show _ ∧ (_ → _ = (0, (if arity p ≠ (1, 0) then _ else if (0 : Int) ≠ 0 then _ else if a.k ≠ 1 then _ else if (mapE (one p) a.xs).1 ≠ 0 then _ else (0, Arr.mk 1 1 (a.xs.length : Int) 0 (mapE (one p) a.xs).2)).2))
  by_cases c1 : arity p ≠ (1, 0)
  · simp only [if_pos c1]; exact ⟨trivial, fun e => absurd e (by decide)⟩
  simp only [if_neg c1] at ht ⊢
  rw [if_neg (show ¬ ((0 : Int) ≠ 0) by simp)] at ht ⊢
  by_cases c2 : a.k ≠ 1
  · simp only [if_pos c2]; exact ⟨by simp [vec', c2], fun e => absurd e (by decide)⟩
  simp only [if_neg c2] at ht ⊢
  by_cases c3 : (mapE (one p) a.xs).1 ≠ 0
  · simp only [if_pos c3]; exact ⟨by simp [vec', c2, c3], fun e => absurd e c3⟩
  simp only [if_neg c3] at ht ⊢
  refine ⟨by simp [vec', c2, c3], fun _ => ?_⟩
  rw [ravel_yes (ht trivial)]
  show (0, vec' 1 _) = _
  unfold vec'
  rw [hm (by simpa using c3)]
  simp [c2]
end Ar
end Go.Proofs.Ytfpnafeildigaaa
