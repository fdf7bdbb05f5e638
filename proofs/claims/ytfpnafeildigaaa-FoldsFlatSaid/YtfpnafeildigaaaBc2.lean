/-
Contracts of chapter 11: what a fold does with each row; its loop over the rows (program).
-/
import Derived.Test.YtfpnafeildigaaaBc1
set_option linter.unusedSimpArgs false
set_option linter.unusedVariables false
namespace Go.Proofs.Ytfpnafeildigaaa
namespace Ar
open Go.RowKit Sc
set_option maxRecDepth 100000 in
theorem least1_any (row : List Int) (B : Option Addr) (d P : Nat) (hl : row.length ≤ 100000) (w : World) (hs : Sl w B row) (hP : w.cell? ⟨P, 0, none⟩ = some (.func (.func 90) #[] #[])) :
    Calls Try.prog 114 #[.slice B row.length d, .pointer (some ⟨P, 0, none⟩)] w fun e w' => e = ret2 (endRow 31 row) ∧ Below w.heap.size w w' := by
  cases row with
  | nil =>
    go_enter Try.func114, Try.ntmps114
    go_wp2
    all_goals
      go_ret2
      exact ⟨rfl, by (repeat (first | with_reducible exact Below.refl _ _ | with_reducible assumption | (with_reducible refine bl_set ?_ (by simp; try omega) _) | (with_reducible refine bl_alloc ?_ _) | (with_reducible refine bl_dn ?_ _) | (with_reducible refine bl_drew ?_) | (with_reducible refine bl_then ?_ (by with_reducible assumption))))⟩
  | cons x xs =>
    have hk := hide (min_any x xs B d (by simp at hl; omega))
    have HR : Hid (ret2 (endRow 31 (x :: xs)) = .returned (.tuple #[.int .i64 (endRow 31 (x :: xs)).1, .int .i64 0])) := rfl
    obtain ⟨m, hm⟩ : ∃ m, (endRow 31 (x :: xs)).1 = m := ⟨_, rfl⟩
    rw [hm] at HR
    rw [HR.out]
    have hk : Hid (∀ (w : World), Sl w B (x :: xs) → Calls Try.prog 90 #[.slice B (xs.length + 1) d] w fun e w' => e = .returned (.int .i64 m) ∧ Below w.heap.size w w') := by intro w hs; have := hk.out w hs; rw [hm] at this; exact this
    clear hm
    rw [show (x :: xs).length = xs.length + 1 from rfl]
    have hs := hide hs
    have n1 : ((xs.length : Int) + 1 == 0) = false := by simp; omega
    go_enter Try.func114, Try.ntmps114
    go_wp2_with fail
    refine (hk.out _ (by exact hs.out)).mono ?_
    rintro e w1 ⟨rfl, hg1⟩
    go_wp2
    go_ret2
    exact ⟨rfl, by (repeat (first | with_reducible exact Below.refl _ _ | with_reducible assumption | (with_reducible refine bl_set ?_ (by simp; try omega) _) | (with_reducible refine bl_alloc ?_ _) | (with_reducible refine bl_dn ?_ _) | (with_reducible refine bl_drew ?_) | (with_reducible refine bl_then ?_ (by with_reducible assumption))))⟩
set_option maxRecDepth 100000 in
theorem most1_any (row : List Int) (B : Option Addr) (d P : Nat) (hl : row.length ≤ 100000) (w : World) (hs : Sl w B row) (hP : w.cell? ⟨P, 0, none⟩ = some (.func (.func 92) #[] #[])) :
    Calls Try.prog 114 #[.slice B row.length d, .pointer (some ⟨P, 0, none⟩)] w fun e w' => e = ret2 (endRow 32 row) ∧ Below w.heap.size w w' := by
  cases row with
  | nil =>
    go_enter Try.func114, Try.ntmps114
    go_wp2
    all_goals
      go_ret2
      exact ⟨rfl, by (repeat (first | with_reducible exact Below.refl _ _ | with_reducible assumption | (with_reducible refine bl_set ?_ (by simp; try omega) _) | (with_reducible refine bl_alloc ?_ _) | (with_reducible refine bl_dn ?_ _) | (with_reducible refine bl_drew ?_) | (with_reducible refine bl_then ?_ (by with_reducible assumption))))⟩
  | cons x xs =>
    have hk := hide (max_any x xs B d (by simp at hl; omega))
    have HR : Hid (ret2 (endRow 32 (x :: xs)) = .returned (.tuple #[.int .i64 (endRow 32 (x :: xs)).1, .int .i64 0])) := rfl
    obtain ⟨m, hm⟩ : ∃ m, (endRow 32 (x :: xs)).1 = m := ⟨_, rfl⟩
    rw [hm] at HR
    rw [HR.out]
    have hk : Hid (∀ (w : World), Sl w B (x :: xs) → Calls Try.prog 92 #[.slice B (xs.length + 1) d] w fun e w' => e = .returned (.int .i64 m) ∧ Below w.heap.size w w') := by intro w hs; have := hk.out w hs; rw [hm] at this; exact this
    clear hm
    rw [show (x :: xs).length = xs.length + 1 from rfl]
    have hs := hide hs
    have n1 : ((xs.length : Int) + 1 == 0) = false := by simp; omega
    go_enter Try.func114, Try.ntmps114
    go_wp2_with fail
    refine (hk.out _ (by exact hs.out)).mono ?_
    rintro e w1 ⟨rfl, hg1⟩
    go_wp2
    go_ret2
    exact ⟨rfl, by (repeat (first | with_reducible exact Below.refl _ _ | with_reducible assumption | (with_reducible refine bl_set ?_ (by simp; try omega) _) | (with_reducible refine bl_alloc ?_ _) | (with_reducible refine bl_dn ?_ _) | (with_reducible refine bl_drew ?_) | (with_reducible refine bl_then ?_ (by with_reducible assumption))))⟩
/-- what the loop over the rows answers -/
def EachRet (w : World) (t : Int × List Int) (e : Ending) (w' : World) : Prop :=
  Below w.heap.size w w' ∧ ∃ (V : Option Addr) (c : Nat), e = .returned (.tuple #[.slice V t.2.length c, .int .i64 t.1]) ∧ Sl w' V t.2 ∧ (∀ g o, V = some ⟨g, o, none⟩ → w.heap.size ≤ g) ∧ t.2.length ≤ c
theorem split_at {α : Type} {rs : List α} {k : Nat} {x d : α} (hk : k < rs.length) (hx : rs.getD k d = x) : rs = rs.take k ++ x :: rs.drop (k + 1) := by
  rw [← hx, List.getD_eq_getElem?_getD, List.getElem?_eq_getElem hk]
  simp
theorem take_at {α : Type} {rs : List α} {k : Nat} {x d : α} (hk : k < rs.length) (hx : rs.getD k d = x) : rs.take (k + 1) = rs.take k ++ [x] := by
  rw [← hx, List.take_succ_eq_append_getElem hk, List.getD_eq_getElem?_getD, List.getElem?_eq_getElem hk]
  rfl
set_option maxRecDepth 100000 in
set_option maxHeartbeats 2000000 in
theorem each_sum (f : List Int → Int × Int) (a : Arr) (A : Option Addr) (c P : Nat) (hcA : a.xs.length ≤ c) (w : World) (hs : Sl w A a.xs) (h : chk a = 0) (hr : a.r ≠ 0)
    (hdo : ∀ (row : List Int) (B : Option Addr) (d : Nat) (W : World), row ∈ rowsL a → Below w.heap.size w W → Sl W B row → Calls Try.prog 80 #[.slice B row.length d] W fun e w' => e = ret2 (f row) ∧ Below W.heap.size W w') :
    Calls Try.prog 111 #[.agg #[.int .i64 a.k, .int .i64 a.r, .int .i64 a.l0, .int .i64 a.l1, .slice A a.xs.length c], .func (.func 80) #[] #[]] w (EachRet w (mapG f (rowsL a))) := by
  have hml : (rowsL a).length ≤ 400 := by obtain ⟨m, n, _, _, h2, _, e⟩ := rowsL_nat h hr; rw [e]; simpa using h2
  have H := hide h; have HR := hide hr; have HD := hide hdo
  clear h hr hdo
  go_enter Try.func111, Try.ntmps111
  go_wp2_with fail
  refine (frows_any a A c hcA _ (hs.below (by (repeat (first | with_reducible exact Below.refl _ _ | with_reducible assumption | (with_reducible refine bl_set ?_ (by simp; try omega) _) | (with_reducible refine bl_alloc ?_ _) | (with_reducible refine bl_dn ?_ _) | (with_reducible refine bl_drew ?_) | (with_reducible refine bl_then ?_ (by with_reducible assumption)))))) H.out HR.out).mono ?_
  rintro e w1 ⟨hg1, R, rc, rfl, hRs⟩
  have hb1 : Hid (Below w.heap.size w w1) := by show Below _ _ _; (repeat (first | with_reducible exact Below.refl _ _ | with_reducible assumption | (with_reducible refine bl_set ?_ (by simp; try omega) _) | (with_reducible refine bl_alloc ?_ _) | (with_reducible refine bl_dn ?_ _) | (with_reducible refine bl_drew ?_) | (with_reducible refine bl_then ?_ (by with_reducible assumption))))
  have hRs := hide hRs.rs
  have hw1 := hb1.out.size
  clear hg1
  go_wp2
  go_loopw [6, 14] (fun s6 s14 wr => ∃ (i : Nat) (ys : List Int) (v : Value), i ≤ (rowsL a).length ∧ v = s6 ∧ s14 = .int .i64 i ∧ Hid (mapG f ((rowsL a).take i) = (0, ys)) ∧ Hid (ys.length = i) ∧ Hid (Acc wr w1.heap.size v ys) ∧ Hid (Below w1.heap.size w1 wr)) (fun _ s14 _ => (rowsL a).length - (intOf s14).toNat)
  case atStart => exact ⟨0, [], _, Nat.zero_le _, rfl, rfl, rfl, rfl, Acc.nil _ _, Below.refl _ _⟩
  case round =>
    obtain ⟨i, ys, v, hi, rfl, rfl, hm, hy, hac, hbl⟩ := hrel
    by_cases hlt : i < (rowsL a).length
    · obtain ⟨b, o, row, B, d, rfl, hbk, hcx, hsr, hcr, hrow⟩ := (hRs.out.below hbl.out).at_ hlt
      have hmem : row ∈ rowsL a := by rw [← hrow.out, List.getD_eq_getElem?_getD, List.getElem?_eq_getElem hlt]; exact List.getElem_mem hlt
      have hcall := hide (HD.out row B d wr hmem (bl_then hb1.out hbl.out) hsr.out)
      have hil : (i : Int) < ((rowsL a).length : Int) := by omega
      clear hmem hcr
      by_cases he : (f row).2 = 0
      · have c1 : ((f row).2 != 0) = false := by simpa using he
        have HE := hide he
        clear he
        go_wp2_with fail
        refine hcall.out.mono ?_
        rintro e w6 ⟨rfl, hg6⟩
        have hac6 := hide (hac.out.below hg6)
        have hb6 := hide (bl_then hbl.out hg6)
        have hz6 : w1.heap.size ≤ w6.heap.size := hb6.out.size
        have hlen : ys.length + [(f row).1].length ≤ 1000000 := by rw [hy.out]; simp; omega
        clear hg6
        go_wp2_with (at_builtin; refine wpList_app64 rfl (.tmp 27) (.tmp 29) rfl w1.heap.size v ys rfl (hac6.out.alloc _) (some ⟨w6.heap.size, 0, none⟩) 1 1 [(f row).1] rfl rfl (sl_1 (by simp [go_sem])) hlen (by simp; omega) ?_; intro v2 w7 hac7 hg7; have hb7 := hide (below_gb (bl_alloc hb6.out _) hg7 (by simp; omega) (fun k hk => hac6.out.own_ge k hk)); have hac7 := hide hac7; clear hg7)
        go_roundw
        case rel => exact ⟨i + 1, ys ++ [(f row).1], v2, by omega, rfl, by go_num, (by show _ = _; rw [take_at hlt hrow.out]; exact mapG_step hm.out HE.out), (by show _ = _; simp [hy.out]), hac7, hb7⟩
        case measure => simp [intOf]; omega
      · have c1 : ((f row).2 != 0) = true := by simpa using he
        have HE : Hid (mapG f (rowsL a) = ((f row).2, [])) := by
          have e1 := mapG_err (r := (rowsL a).drop (i + 1)) (x := row) hm.out he
          rw [← split_at hlt hrow.out] at e1
          show _ = _
          rw [mapG_bad f (rowsL a) (by rw [e1]; exact he), e1]
        clear he
        go_wp2_with fail
        refine hcall.out.mono ?_
        rintro e w6 ⟨rfl, hg6⟩
        have hb6 := bl_then (bl_then hb1.out hbl.out) hg6
        go_wp2
        go_ret2
        rw [HE.out]
        exact ⟨hb6, none, 0, rfl, Sl.nil _ _, (fun _ _ e => by cases e), Nat.le_refl _⟩
    · have e : i = (rowsL a).length := by omega
      subst e
      have HE : Hid (mapG f (rowsL a) = (0, ys)) := by
        have e1 := hm.out
        rw [List.take_of_length_le (Nat.le_refl _)] at e1
        exact e1
      obtain ⟨V, cv, rfl, hsl, hge, hcp⟩ := hac.out.sl
      have hsl := hide hsl
      clear hac hm
      go_wp2
      go_ret2
      rw [HE.out]
      exact ⟨bl_then hb1.out hbl.out, V, cv, rfl, hsl.out, (fun g o e => by have := hge g o e; omega), hcp⟩
set_option maxRecDepth 100000 in
set_option maxHeartbeats 2000000 in
theorem each_count (f : List Int → Int × Int) (a : Arr) (A : Option Addr) (c P : Nat) (hcA : a.xs.length ≤ c) (w : World) (hs : Sl w A a.xs) (h : chk a = 0) (hr : a.r ≠ 0)
    (hdo : ∀ (row : List Int) (B : Option Addr) (d : Nat) (W : World), row ∈ rowsL a → Below w.heap.size w W → Sl W B row → Calls Try.prog 93 #[.slice B row.length d] W fun e w' => e = ret2 (f row) ∧ Below W.heap.size W w') :
    Calls Try.prog 111 #[.agg #[.int .i64 a.k, .int .i64 a.r, .int .i64 a.l0, .int .i64 a.l1, .slice A a.xs.length c], .func (.func 93) #[] #[]] w (EachRet w (mapG f (rowsL a))) := by
  have hml : (rowsL a).length ≤ 400 := by obtain ⟨m, n, _, _, h2, _, e⟩ := rowsL_nat h hr; rw [e]; simpa using h2
  have H := hide h; have HR := hide hr; have HD := hide hdo
  clear h hr hdo
  go_enter Try.func111, Try.ntmps111
  go_wp2_with fail
  refine (frows_any a A c hcA _ (hs.below (by (repeat (first | with_reducible exact Below.refl _ _ | with_reducible assumption | (with_reducible refine bl_set ?_ (by simp; try omega) _) | (with_reducible refine bl_alloc ?_ _) | (with_reducible refine bl_dn ?_ _) | (with_reducible refine bl_drew ?_) | (with_reducible refine bl_then ?_ (by with_reducible assumption)))))) H.out HR.out).mono ?_
  rintro e w1 ⟨hg1, R, rc, rfl, hRs⟩
  have hb1 : Hid (Below w.heap.size w w1) := by show Below _ _ _; (repeat (first | with_reducible exact Below.refl _ _ | with_reducible assumption | (with_reducible refine bl_set ?_ (by simp; try omega) _) | (with_reducible refine bl_alloc ?_ _) | (with_reducible refine bl_dn ?_ _) | (with_reducible refine bl_drew ?_) | (with_reducible refine bl_then ?_ (by with_reducible assumption))))
  have hRs := hide hRs.rs
  have hw1 := hb1.out.size
  clear hg1
  go_wp2
  go_loopw [6, 14] (fun s6 s14 wr => ∃ (i : Nat) (ys : List Int) (v : Value), i ≤ (rowsL a).length ∧ v = s6 ∧ s14 = .int .i64 i ∧ Hid (mapG f ((rowsL a).take i) = (0, ys)) ∧ Hid (ys.length = i) ∧ Hid (Acc wr w1.heap.size v ys) ∧ Hid (Below w1.heap.size w1 wr)) (fun _ s14 _ => (rowsL a).length - (intOf s14).toNat)
  case atStart => exact ⟨0, [], _, Nat.zero_le _, rfl, rfl, rfl, rfl, Acc.nil _ _, Below.refl _ _⟩
  case round =>
    obtain ⟨i, ys, v, hi, rfl, rfl, hm, hy, hac, hbl⟩ := hrel
    by_cases hlt : i < (rowsL a).length
    · obtain ⟨b, o, row, B, d, rfl, hbk, hcx, hsr, hcr, hrow⟩ := (hRs.out.below hbl.out).at_ hlt
      have hmem : row ∈ rowsL a := by rw [← hrow.out, List.getD_eq_getElem?_getD, List.getElem?_eq_getElem hlt]; exact List.getElem_mem hlt
      have hcall := hide (HD.out row B d wr hmem (bl_then hb1.out hbl.out) hsr.out)
      have hil : (i : Int) < ((rowsL a).length : Int) := by omega
      clear hmem hcr
      by_cases he : (f row).2 = 0
      · have c1 : ((f row).2 != 0) = false := by simpa using he
        have HE := hide he
        clear he
        go_wp2_with fail
        refine hcall.out.mono ?_
        rintro e w6 ⟨rfl, hg6⟩
        have hac6 := hide (hac.out.below hg6)
        have hb6 := hide (bl_then hbl.out hg6)
        have hz6 : w1.heap.size ≤ w6.heap.size := hb6.out.size
        have hlen : ys.length + [(f row).1].length ≤ 1000000 := by rw [hy.out]; simp; omega
        clear hg6
        go_wp2_with (at_builtin; refine wpList_app64 rfl (.tmp 27) (.tmp 29) rfl w1.heap.size v ys rfl (hac6.out.alloc _) (some ⟨w6.heap.size, 0, none⟩) 1 1 [(f row).1] rfl rfl (sl_1 (by simp [go_sem])) hlen (by simp; omega) ?_; intro v2 w7 hac7 hg7; have hb7 := hide (below_gb (bl_alloc hb6.out _) hg7 (by simp; omega) (fun k hk => hac6.out.own_ge k hk)); have hac7 := hide hac7; clear hg7)
        go_roundw
        case rel => exact ⟨i + 1, ys ++ [(f row).1], v2, by omega, rfl, by go_num, (by show _ = _; rw [take_at hlt hrow.out]; exact mapG_step hm.out HE.out), (by show _ = _; simp [hy.out]), hac7, hb7⟩
        case measure => simp [intOf]; omega
      · have c1 : ((f row).2 != 0) = true := by simpa using he
        have HE : Hid (mapG f (rowsL a) = ((f row).2, [])) := by
          have e1 := mapG_err (r := (rowsL a).drop (i + 1)) (x := row) hm.out he
          rw [← split_at hlt hrow.out] at e1
          show _ = _
          rw [mapG_bad f (rowsL a) (by rw [e1]; exact he), e1]
        clear he
        go_wp2_with fail
        refine hcall.out.mono ?_
        rintro e w6 ⟨rfl, hg6⟩
        have hb6 := bl_then (bl_then hb1.out hbl.out) hg6
        go_wp2
        go_ret2
        rw [HE.out]
        exact ⟨hb6, none, 0, rfl, Sl.nil _ _, (fun _ _ e => by cases e), Nat.le_refl _⟩
    · have e : i = (rowsL a).length := by omega
      subst e
      have HE : Hid (mapG f (rowsL a) = (0, ys)) := by
        have e1 := hm.out
        rw [List.take_of_length_le (Nat.le_refl _)] at e1
        exact e1
      obtain ⟨V, cv, rfl, hsl, hge, hcp⟩ := hac.out.sl
      have hsl := hide hsl
      clear hac hm
      go_wp2
      go_ret2
      rw [HE.out]
      exact ⟨bl_then hb1.out hbl.out, V, cv, rfl, hsl.out, (fun g o e => by have := hge g o e; omega), hcp⟩
set_option maxRecDepth 100000 in
set_option maxHeartbeats 2000000 in
theorem each_end (f : List Int → Int × Int) (a : Arr) (A : Option Addr) (c P : Nat) (hcA : a.xs.length ≤ c) (w : World) (hs : Sl w A a.xs) (h : chk a = 0) (hr : a.r ≠ 0)
    (hdo : ∀ (row : List Int) (B : Option Addr) (d : Nat) (W : World), row ∈ rowsL a → Below w.heap.size w W → Sl W B row → Calls Try.prog 114 #[.slice B row.length d, .pointer (some ⟨P, 0, none⟩)] W fun e w' => e = ret2 (f row) ∧ Below W.heap.size W w') :
    Calls Try.prog 111 #[.agg #[.int .i64 a.k, .int .i64 a.r, .int .i64 a.l0, .int .i64 a.l1, .slice A a.xs.length c], .func (.func 114) #[] #[.pointer (some ⟨P, 0, none⟩)]] w (EachRet w (mapG f (rowsL a))) := by
  have hml : (rowsL a).length ≤ 400 := by obtain ⟨m, n, _, _, h2, _, e⟩ := rowsL_nat h hr; rw [e]; simpa using h2
  have H := hide h; have HR := hide hr; have HD := hide hdo
  clear h hr hdo
  go_enter Try.func111, Try.ntmps111
  go_wp2_with fail
  refine (frows_any a A c hcA _ (hs.below (by (repeat (first | with_reducible exact Below.refl _ _ | with_reducible assumption | (with_reducible refine bl_set ?_ (by simp; try omega) _) | (with_reducible refine bl_alloc ?_ _) | (with_reducible refine bl_dn ?_ _) | (with_reducible refine bl_drew ?_) | (with_reducible refine bl_then ?_ (by with_reducible assumption)))))) H.out HR.out).mono ?_
  rintro e w1 ⟨hg1, R, rc, rfl, hRs⟩
  have hb1 : Hid (Below w.heap.size w w1) := by show Below _ _ _; (repeat (first | with_reducible exact Below.refl _ _ | with_reducible assumption | (with_reducible refine bl_set ?_ (by simp; try omega) _) | (with_reducible refine bl_alloc ?_ _) | (with_reducible refine bl_dn ?_ _) | (with_reducible refine bl_drew ?_) | (with_reducible refine bl_then ?_ (by with_reducible assumption))))
  have hRs := hide hRs.rs
  have hw1 := hb1.out.size
  clear hg1
  go_wp2
  go_loopw [6, 14] (fun s6 s14 wr => ∃ (i : Nat) (ys : List Int) (v : Value), i ≤ (rowsL a).length ∧ v = s6 ∧ s14 = .int .i64 i ∧ Hid (mapG f ((rowsL a).take i) = (0, ys)) ∧ Hid (ys.length = i) ∧ Hid (Acc wr w1.heap.size v ys) ∧ Hid (Below w1.heap.size w1 wr)) (fun _ s14 _ => (rowsL a).length - (intOf s14).toNat)
  case atStart => exact ⟨0, [], _, Nat.zero_le _, rfl, rfl, rfl, rfl, Acc.nil _ _, Below.refl _ _⟩
  case round =>
    obtain ⟨i, ys, v, hi, rfl, rfl, hm, hy, hac, hbl⟩ := hrel
    by_cases hlt : i < (rowsL a).length
    · obtain ⟨b, o, row, B, d, rfl, hbk, hcx, hsr, hcr, hrow⟩ := (hRs.out.below hbl.out).at_ hlt
      have hmem : row ∈ rowsL a := by rw [← hrow.out, List.getD_eq_getElem?_getD, List.getElem?_eq_getElem hlt]; exact List.getElem_mem hlt
      have hcall := hide (HD.out row B d wr hmem (bl_then hb1.out hbl.out) hsr.out)
      have hil : (i : Int) < ((rowsL a).length : Int) := by omega
      clear hmem hcr
      by_cases he : (f row).2 = 0
      · have c1 : ((f row).2 != 0) = false := by simpa using he
        have HE := hide he
        clear he
        go_wp2_with fail
        refine hcall.out.mono ?_
        rintro e w6 ⟨rfl, hg6⟩
        have hac6 := hide (hac.out.below hg6)
        have hb6 := hide (bl_then hbl.out hg6)
        have hz6 : w1.heap.size ≤ w6.heap.size := hb6.out.size
        have hlen : ys.length + [(f row).1].length ≤ 1000000 := by rw [hy.out]; simp; omega
        clear hg6
        go_wp2_with (at_builtin; refine wpList_app64 rfl (.tmp 27) (.tmp 29) rfl w1.heap.size v ys rfl (hac6.out.alloc _) (some ⟨w6.heap.size, 0, none⟩) 1 1 [(f row).1] rfl rfl (sl_1 (by simp [go_sem])) hlen (by simp; omega) ?_; intro v2 w7 hac7 hg7; have hb7 := hide (below_gb (bl_alloc hb6.out _) hg7 (by simp; omega) (fun k hk => hac6.out.own_ge k hk)); have hac7 := hide hac7; clear hg7)
        go_roundw
        case rel => exact ⟨i + 1, ys ++ [(f row).1], v2, by omega, rfl, by go_num, (by show _ = _; rw [take_at hlt hrow.out]; exact mapG_step hm.out HE.out), (by show _ = _; simp [hy.out]), hac7, hb7⟩
        case measure => simp [intOf]; omega
      · have c1 : ((f row).2 != 0) = true := by simpa using he
        have HE : Hid (mapG f (rowsL a) = ((f row).2, [])) := by
          have e1 := mapG_err (r := (rowsL a).drop (i + 1)) (x := row) hm.out he
          rw [← split_at hlt hrow.out] at e1
          show _ = _
          rw [mapG_bad f (rowsL a) (by rw [e1]; exact he), e1]
        clear he
        go_wp2_with fail
        refine hcall.out.mono ?_
        rintro e w6 ⟨rfl, hg6⟩
        have hb6 := bl_then (bl_then hb1.out hbl.out) hg6
        go_wp2
        go_ret2
        rw [HE.out]
        exact ⟨hb6, none, 0, rfl, Sl.nil _ _, (fun _ _ e => by cases e), Nat.le_refl _⟩
    · have e : i = (rowsL a).length := by omega
      subst e
      have HE : Hid (mapG f (rowsL a) = (0, ys)) := by
        have e1 := hm.out
        rw [List.take_of_length_le (Nat.le_refl _)] at e1
        exact e1
      obtain ⟨V, cv, rfl, hsl, hge, hcp⟩ := hac.out.sl
      have hsl := hide hsl
      clear hac hm
      go_wp2
      go_ret2
      rw [HE.out]
      exact ⟨bl_then hb1.out hbl.out, V, cv, rfl, hsl.out, (fun g o e => by have := hge g o e; omega), hcp⟩
end Ar
end Go.Proofs.Ytfpnafeildigaaa
/-
Contracts of chapter 11: folds.Sum, Least, Most, Count.
-/
set_option linter.unusedSimpArgs false
set_option linter.unusedVariables false
namespace Go.Proofs.Ytfpnafeildigaaa
namespace Ar
open Go.RowKit Sc
theorem extFold_bad {ints : Bool} {f : List Int → Int × Int} {a : Arr} (h : chkF ints a ≠ 0) : extFold ints f a = (chkF ints a, .zero) := if_pos h
theorem extFold_err {ints : Bool} {f : List Int → Int × Int} {a : Arr} (h : chkF ints a = 0) (h2 : (mapG f (rowsL a)).1 ≠ 0) : extFold ints f a = ((mapG f (rowsL a)).1, .zero) := by
  unfold extFold; rw [if_neg (by simpa using h), if_pos h2]
theorem extFold_ok {ints : Bool} {f : List Int → Int × Int} {a : Arr} {ys : List Int} (h : chkF ints a = 0) (h2 : mapG f (rowsL a) = (0, ys)) : extFold ints f a = (0, foldR a ys) := by
  unfold extFold; rw [if_neg (by simpa using h), h2, if_neg (by simp)]
theorem foldR_one {a : Arr} {ys : List Int} (h : (a.r == 1) = true) : foldR a ys = ⟨1, 0, 0, 0, ys⟩ := if_pos (by simpa using h)
theorem foldR_two {a : Arr} {ys : List Int} (h : (a.r == 1) = false) : foldR a ys = ⟨1, 1, ys.length, 0, ys⟩ := if_neg (by simpa using h)
set_option maxRecDepth 100000 in
set_option maxHeartbeats 2000000 in
theorem fold_sum (ints : Bool) (f : List Int → Int × Int) (a : Arr) (A : Option Addr) (c P : Nat) (hla : a.xs.length ≤ 9223372036854775807) (f0 : Fits a.l0) (f1 : Fits a.l1) (hcA : a.xs.length ≤ c) (w : World) (hs : Sl w A a.xs)
    (hdo : chk a = 0 → a.r ≠ 0 → ∀ (row : List Int) (B : Option Addr) (d : Nat) (W : World), row ∈ rowsL a → Below w.heap.size w W → Sl W B row → Calls Try.prog 80 #[.slice B row.length d] W fun e w' => e = ret2 (f row) ∧ Below W.heap.size W w') :
    Calls Try.prog 79 #[.agg #[.int .i64 a.k, .int .i64 a.r, .int .i64 a.l0, .int .i64 a.l1, .slice A a.xs.length c], .bool ints, .func (.func 80) #[] #[]] w (ArrRet w (extFold ints f a)) := by
  have HD := hide hdo
  clear hdo
  by_cases h : chkF ints a = 0
  rotate_left
  · rw [extFold_bad h]
    have n1 : (chkF ints a != 0) = true := by simpa using h
    clear h
    go_enter Try.func79, Try.ntmps79
    go_wp2_with fail
    refine (fcheck_any ints a A c hla f0 f1 _ (hs.below (by (repeat (first | with_reducible exact Below.refl _ _ | with_reducible assumption | (with_reducible refine bl_set ?_ (by simp; try omega) _) | (with_reducible refine bl_alloc ?_ _) | (with_reducible refine bl_dn ?_ _) | (with_reducible refine bl_drew ?_) | (with_reducible refine bl_then ?_ (by with_reducible assumption))))))).mono ?_
    rintro e w1 ⟨rfl, hg1⟩
    obtain ⟨hc1, hf1, hz1⟩ := bcell hg1
    (have z0_w1 : w.heap.size < w1.heap.size := by have := hg1.size; simp at this; omega); (have z1_w1 : w.heap.size + 1 < w1.heap.size := by have := hg1.size; simp at this; omega)
    go_wp2
    refine bodyPost_ret (v := .tuple #[.agg #[.int .i64 0, .int .i64 0, .int .i64 0, .int .i64 0, .slice none 0 0], .int .i64 (chkF ints a)]) (by simp [results, Try.results79, go_sem, *]) rfl (arr_zero _ (by (repeat (first | with_reducible exact Below.refl _ _ | with_reducible assumption | (with_reducible refine bl_set ?_ (by simp; try omega) _) | (with_reducible refine bl_alloc ?_ _) | (with_reducible refine bl_dn ?_ _) | (with_reducible refine bl_drew ?_) | (with_reducible refine bl_then ?_ (by with_reducible assumption))))))
  obtain ⟨hk, _, hr⟩ := chkF_ok h
  have H := hide h; have HK := hide hk; have HR := hide hr
  obtain ⟨er, ys, hm⟩ : ∃ er ys, mapG f (rowsL a) = (er, ys) := ⟨_, _, rfl⟩
  have HM := hide hm
  obtain ⟨v1, hv1⟩ : ∃ v, (a.r == 1) = v := ⟨_, rfl⟩
  have HX : Hid (extFold ints f a = if er = 0 then (0, foldR a ys) else (er, .zero)) := by
    show _ = _
    by_cases e : er = 0
    · rw [if_pos e, extFold_ok h (by rw [hm, e])]
    · rw [if_neg e, extFold_err h (by rw [hm]; exact e), hm]
  clear h hk hr hm
  go_enter Try.func79, Try.ntmps79
  go_wp2_with fail
  refine (fcheck_any ints a A c hla f0 f1 _ (hs.below (by (repeat (first | with_reducible exact Below.refl _ _ | with_reducible assumption | (with_reducible refine bl_set ?_ (by simp; try omega) _) | (with_reducible refine bl_alloc ?_ _) | (with_reducible refine bl_dn ?_ _) | (with_reducible refine bl_drew ?_) | (with_reducible refine bl_then ?_ (by with_reducible assumption))))))).mono ?_
  rw [H.out]
  rintro e w1 ⟨rfl, hg1⟩
  have st1 := hide ((((St.init w).box c hs).alloc _).below hg1)
  have rb1 := hide ((RBox.new _ _).below hg1)
  simp only [World.size_alloc] at rb1
  clear hg1
  obtain ⟨hbw, ⟨⟨a0, a1, a2, a3, a4⟩, sa, za⟩, _⟩ := st1.out
  have hbw0 := hide hbw
  go_wp2_with fail
  refine (each_sum f a A c P hcA _ (sa.below (by (repeat (first | with_reducible exact Below.refl _ _ | with_reducible assumption | (with_reducible refine bl_set ?_ (by simp; try omega) _) | (with_reducible refine bl_alloc ?_ _) | (with_reducible refine bl_dn ?_ _) | (with_reducible refine bl_drew ?_) | (with_reducible refine bl_then ?_ (by with_reducible assumption)))))) HK.out HR.out (fun row B d W hm hb hsr => HD.out HK.out HR.out row B d W hm (bl_then hbw0.out (bl_then (Below.refl _ _) hb)) hsr)).mono ?_
  rw [HM.out]
  rintro e w2 ⟨hg2, V, cv, rfl, hsV, hge, hcp⟩
  have st2 := hide (st1.out.below hg2)
  have rb2 := hide (rb1.out.below hg2)
  have zw2 : w.heap.size + 1 < w1.heap.size := rb1.out.2.2
  have hsV := hide hsV
  clear hbw hg2; clear a0 a1 a2 a3 a4 sa za
  obtain ⟨hbw, ⟨⟨a0, a1, a2, a3, a4⟩, sa, za⟩, _⟩ := st2.out
  obtain ⟨⟨r0, r1, r2, r3, r4⟩, rf, zr⟩ := rb2.out
  by_cases he : er = 0
  · have HX2 : Hid (extFold ints f a = (0, foldR a ys)) := by show _ = _; rw [HX.out, if_pos he]
    subst he
    cases v1
    · have HF := hide (foldR_two (ys := ys) hv1)
      go_wp2
      rw [HX2.out, HF.out]
      refine bodyPost_ret (v := .tuple #[.agg #[.int .i64 1, .int .i64 1, .int .i64 ys.length, .int .i64 0, .slice V ys.length cv], .int .i64 0]) (by simp [results, Try.results79, go_sem, *]) rfl ⟨by (repeat (first | with_reducible exact Below.refl _ _ | with_reducible assumption | (with_reducible refine bl_set ?_ (by simp; try omega) _) | (with_reducible refine bl_alloc ?_ _) | (with_reducible refine bl_dn ?_ _) | (with_reducible refine bl_drew ?_) | (with_reducible refine bl_then ?_ (by with_reducible assumption)))), V, cv, rfl, ?_, ?_, hcp⟩
      · repeat (refine Sl.set (B := w1.heap.size) ?_ hge (by simp; omega) _)
        exact hsV.out
      · intro g o e; have := hge g o e; omega
    · have HF := hide (foldR_one (ys := ys) hv1)
      go_wp2
      rw [HX2.out, HF.out]
      refine bodyPost_ret (v := .tuple #[.agg #[.int .i64 1, .int .i64 0, .int .i64 0, .int .i64 0, .slice V ys.length cv], .int .i64 0]) (by simp [results, Try.results79, go_sem, *]) rfl ⟨by (repeat (first | with_reducible exact Below.refl _ _ | with_reducible assumption | (with_reducible refine bl_set ?_ (by simp; try omega) _) | (with_reducible refine bl_alloc ?_ _) | (with_reducible refine bl_dn ?_ _) | (with_reducible refine bl_drew ?_) | (with_reducible refine bl_then ?_ (by with_reducible assumption)))), V, cv, rfl, ?_, ?_, hcp⟩
      · repeat (refine Sl.set (B := w1.heap.size) ?_ hge (by simp; omega) _)
        exact hsV.out
      · intro g o e; have := hge g o e; omega
  · have HX2 : Hid (extFold ints f a = (er, .zero)) := by show _ = _; rw [HX.out, if_neg he]
    have n2 : (er != 0) = true := by simpa using he
    clear he
    go_wp2
    rw [HX2.out]
    refine bodyPost_ret (v := .tuple #[.agg #[.int .i64 0, .int .i64 0, .int .i64 0, .int .i64 0, .slice none 0 0], .int .i64 er]) (by simp [results, Try.results79, go_sem, *]) rfl (arr_zero _ (by (repeat (first | with_reducible exact Below.refl _ _ | with_reducible assumption | (with_reducible refine bl_set ?_ (by simp; try omega) _) | (with_reducible refine bl_alloc ?_ _) | (with_reducible refine bl_dn ?_ _) | (with_reducible refine bl_drew ?_) | (with_reducible refine bl_then ?_ (by with_reducible assumption))))))
set_option maxRecDepth 100000 in
set_option maxHeartbeats 2000000 in
theorem fold_count (ints : Bool) (f : List Int → Int × Int) (a : Arr) (A : Option Addr) (c P : Nat) (hla : a.xs.length ≤ 9223372036854775807) (f0 : Fits a.l0) (f1 : Fits a.l1) (hcA : a.xs.length ≤ c) (w : World) (hs : Sl w A a.xs)
    (hdo : chk a = 0 → a.r ≠ 0 → ∀ (row : List Int) (B : Option Addr) (d : Nat) (W : World), row ∈ rowsL a → Below w.heap.size w W → Sl W B row → Calls Try.prog 93 #[.slice B row.length d] W fun e w' => e = ret2 (f row) ∧ Below W.heap.size W w') :
    Calls Try.prog 79 #[.agg #[.int .i64 a.k, .int .i64 a.r, .int .i64 a.l0, .int .i64 a.l1, .slice A a.xs.length c], .bool ints, .func (.func 93) #[] #[]] w (ArrRet w (extFold ints f a)) := by
  have HD := hide hdo
  clear hdo
  by_cases h : chkF ints a = 0
  rotate_left
  · rw [extFold_bad h]
    have n1 : (chkF ints a != 0) = true := by simpa using h
    clear h
    go_enter Try.func79, Try.ntmps79
    go_wp2_with fail
    refine (fcheck_any ints a A c hla f0 f1 _ (hs.below (by (repeat (first | with_reducible exact Below.refl _ _ | with_reducible assumption | (with_reducible refine bl_set ?_ (by simp; try omega) _) | (with_reducible refine bl_alloc ?_ _) | (with_reducible refine bl_dn ?_ _) | (with_reducible refine bl_drew ?_) | (with_reducible refine bl_then ?_ (by with_reducible assumption))))))).mono ?_
    rintro e w1 ⟨rfl, hg1⟩
    obtain ⟨hc1, hf1, hz1⟩ := bcell hg1
    (have z0_w1 : w.heap.size < w1.heap.size := by have := hg1.size; simp at this; omega); (have z1_w1 : w.heap.size + 1 < w1.heap.size := by have := hg1.size; simp at this; omega)
    go_wp2
    refine bodyPost_ret (v := .tuple #[.agg #[.int .i64 0, .int .i64 0, .int .i64 0, .int .i64 0, .slice none 0 0], .int .i64 (chkF ints a)]) (by simp [results, Try.results79, go_sem, *]) rfl (arr_zero _ (by (repeat (first | with_reducible exact Below.refl _ _ | with_reducible assumption | (with_reducible refine bl_set ?_ (by simp; try omega) _) | (with_reducible refine bl_alloc ?_ _) | (with_reducible refine bl_dn ?_ _) | (with_reducible refine bl_drew ?_) | (with_reducible refine bl_then ?_ (by with_reducible assumption))))))
  obtain ⟨hk, _, hr⟩ := chkF_ok h
  have H := hide h; have HK := hide hk; have HR := hide hr
  obtain ⟨er, ys, hm⟩ : ∃ er ys, mapG f (rowsL a) = (er, ys) := ⟨_, _, rfl⟩
  have HM := hide hm
  obtain ⟨v1, hv1⟩ : ∃ v, (a.r == 1) = v := ⟨_, rfl⟩
  have HX : Hid (extFold ints f a = if er = 0 then (0, foldR a ys) else (er, .zero)) := by
    show _ = _
    by_cases e : er = 0
    · rw [if_pos e, extFold_ok h (by rw [hm, e])]
    · rw [if_neg e, extFold_err h (by rw [hm]; exact e), hm]
  clear h hk hr hm
  go_enter Try.func79, Try.ntmps79
  go_wp2_with fail
  refine (fcheck_any ints a A c hla f0 f1 _ (hs.below (by (repeat (first | with_reducible exact Below.refl _ _ | with_reducible assumption | (with_reducible refine bl_set ?_ (by simp; try omega) _) | (with_reducible refine bl_alloc ?_ _) | (with_reducible refine bl_dn ?_ _) | (with_reducible refine bl_drew ?_) | (with_reducible refine bl_then ?_ (by with_reducible assumption))))))).mono ?_
  rw [H.out]
  rintro e w1 ⟨rfl, hg1⟩
  have st1 := hide ((((St.init w).box c hs).alloc _).below hg1)
  have rb1 := hide ((RBox.new _ _).below hg1)
  simp only [World.size_alloc] at rb1
  clear hg1
  obtain ⟨hbw, ⟨⟨a0, a1, a2, a3, a4⟩, sa, za⟩, _⟩ := st1.out
  have hbw0 := hide hbw
  go_wp2_with fail
  refine (each_count f a A c P hcA _ (sa.below (by (repeat (first | with_reducible exact Below.refl _ _ | with_reducible assumption | (with_reducible refine bl_set ?_ (by simp; try omega) _) | (with_reducible refine bl_alloc ?_ _) | (with_reducible refine bl_dn ?_ _) | (with_reducible refine bl_drew ?_) | (with_reducible refine bl_then ?_ (by with_reducible assumption)))))) HK.out HR.out (fun row B d W hm hb hsr => HD.out HK.out HR.out row B d W hm (bl_then hbw0.out (bl_then (Below.refl _ _) hb)) hsr)).mono ?_
  rw [HM.out]
  rintro e w2 ⟨hg2, V, cv, rfl, hsV, hge, hcp⟩
  have st2 := hide (st1.out.below hg2)
  have rb2 := hide (rb1.out.below hg2)
  have zw2 : w.heap.size + 1 < w1.heap.size := rb1.out.2.2
  have hsV := hide hsV
  clear hbw hg2; clear a0 a1 a2 a3 a4 sa za
  obtain ⟨hbw, ⟨⟨a0, a1, a2, a3, a4⟩, sa, za⟩, _⟩ := st2.out
  obtain ⟨⟨r0, r1, r2, r3, r4⟩, rf, zr⟩ := rb2.out
  by_cases he : er = 0
  · have HX2 : Hid (extFold ints f a = (0, foldR a ys)) := by show _ = _; rw [HX.out, if_pos he]
    subst he
    cases v1
    · have HF := hide (foldR_two (ys := ys) hv1)
      go_wp2
      rw [HX2.out, HF.out]
      refine bodyPost_ret (v := .tuple #[.agg #[.int .i64 1, .int .i64 1, .int .i64 ys.length, .int .i64 0, .slice V ys.length cv], .int .i64 0]) (by simp [results, Try.results79, go_sem, *]) rfl ⟨by (repeat (first | with_reducible exact Below.refl _ _ | with_reducible assumption | (with_reducible refine bl_set ?_ (by simp; try omega) _) | (with_reducible refine bl_alloc ?_ _) | (with_reducible refine bl_dn ?_ _) | (with_reducible refine bl_drew ?_) | (with_reducible refine bl_then ?_ (by with_reducible assumption)))), V, cv, rfl, ?_, ?_, hcp⟩
      · repeat (refine Sl.set (B := w1.heap.size) ?_ hge (by simp; omega) _)
        exact hsV.out
      · intro g o e; have := hge g o e; omega
    · have HF := hide (foldR_one (ys := ys) hv1)
      go_wp2
      rw [HX2.out, HF.out]
      refine bodyPost_ret (v := .tuple #[.agg #[.int .i64 1, .int .i64 0, .int .i64 0, .int .i64 0, .slice V ys.length cv], .int .i64 0]) (by simp [results, Try.results79, go_sem, *]) rfl ⟨by (repeat (first | with_reducible exact Below.refl _ _ | with_reducible assumption | (with_reducible refine bl_set ?_ (by simp; try omega) _) | (with_reducible refine bl_alloc ?_ _) | (with_reducible refine bl_dn ?_ _) | (with_reducible refine bl_drew ?_) | (with_reducible refine bl_then ?_ (by with_reducible assumption)))), V, cv, rfl, ?_, ?_, hcp⟩
      · repeat (refine Sl.set (B := w1.heap.size) ?_ hge (by simp; omega) _)
        exact hsV.out
      · intro g o e; have := hge g o e; omega
  · have HX2 : Hid (extFold ints f a = (er, .zero)) := by show _ = _; rw [HX.out, if_neg he]
    have n2 : (er != 0) = true := by simpa using he
    clear he
    go_wp2
    rw [HX2.out]
    refine bodyPost_ret (v := .tuple #[.agg #[.int .i64 0, .int .i64 0, .int .i64 0, .int .i64 0, .slice none 0 0], .int .i64 er]) (by simp [results, Try.results79, go_sem, *]) rfl (arr_zero _ (by (repeat (first | with_reducible exact Below.refl _ _ | with_reducible assumption | (with_reducible refine bl_set ?_ (by simp; try omega) _) | (with_reducible refine bl_alloc ?_ _) | (with_reducible refine bl_dn ?_ _) | (with_reducible refine bl_drew ?_) | (with_reducible refine bl_then ?_ (by with_reducible assumption))))))
set_option maxRecDepth 100000 in
set_option maxHeartbeats 2000000 in
theorem fold_end (ints : Bool) (f : List Int → Int × Int) (a : Arr) (A : Option Addr) (c P : Nat) (hla : a.xs.length ≤ 9223372036854775807) (f0 : Fits a.l0) (f1 : Fits a.l1) (hcA : a.xs.length ≤ c) (w : World) (hs : Sl w A a.xs)
    (hdo : chk a = 0 → a.r ≠ 0 → ∀ (row : List Int) (B : Option Addr) (d : Nat) (W : World), row ∈ rowsL a → Below w.heap.size w W → Sl W B row → Calls Try.prog 114 #[.slice B row.length d, .pointer (some ⟨P, 0, none⟩)] W fun e w' => e = ret2 (f row) ∧ Below W.heap.size W w') :
    Calls Try.prog 79 #[.agg #[.int .i64 a.k, .int .i64 a.r, .int .i64 a.l0, .int .i64 a.l1, .slice A a.xs.length c], .bool ints, .func (.func 114) #[] #[.pointer (some ⟨P, 0, none⟩)]] w (ArrRet w (extFold ints f a)) := by
  have HD := hide hdo
  clear hdo
  by_cases h : chkF ints a = 0
  rotate_left
  · rw [extFold_bad h]
    have n1 : (chkF ints a != 0) = true := by simpa using h
    clear h
    go_enter Try.func79, Try.ntmps79
    go_wp2_with fail
    refine (fcheck_any ints a A c hla f0 f1 _ (hs.below (by (repeat (first | with_reducible exact Below.refl _ _ | with_reducible assumption | (with_reducible refine bl_set ?_ (by simp; try omega) _) | (with_reducible refine bl_alloc ?_ _) | (with_reducible refine bl_dn ?_ _) | (with_reducible refine bl_drew ?_) | (with_reducible refine bl_then ?_ (by with_reducible assumption))))))).mono ?_
    rintro e w1 ⟨rfl, hg1⟩
    obtain ⟨hc1, hf1, hz1⟩ := bcell hg1
    (have z0_w1 : w.heap.size < w1.heap.size := by have := hg1.size; simp at this; omega); (have z1_w1 : w.heap.size + 1 < w1.heap.size := by have := hg1.size; simp at this; omega)
    go_wp2
    refine bodyPost_ret (v := .tuple #[.agg #[.int .i64 0, .int .i64 0, .int .i64 0, .int .i64 0, .slice none 0 0], .int .i64 (chkF ints a)]) (by simp [results, Try.results79, go_sem, *]) rfl (arr_zero _ (by (repeat (first | with_reducible exact Below.refl _ _ | with_reducible assumption | (with_reducible refine bl_set ?_ (by simp; try omega) _) | (with_reducible refine bl_alloc ?_ _) | (with_reducible refine bl_dn ?_ _) | (with_reducible refine bl_drew ?_) | (with_reducible refine bl_then ?_ (by with_reducible assumption))))))
  obtain ⟨hk, _, hr⟩ := chkF_ok h
  have H := hide h; have HK := hide hk; have HR := hide hr
  obtain ⟨er, ys, hm⟩ : ∃ er ys, mapG f (rowsL a) = (er, ys) := ⟨_, _, rfl⟩
  have HM := hide hm
  obtain ⟨v1, hv1⟩ : ∃ v, (a.r == 1) = v := ⟨_, rfl⟩
  have HX : Hid (extFold ints f a = if er = 0 then (0, foldR a ys) else (er, .zero)) := by
    show _ = _
    by_cases e : er = 0
    · rw [if_pos e, extFold_ok h (by rw [hm, e])]
    · rw [if_neg e, extFold_err h (by rw [hm]; exact e), hm]
  clear h hk hr hm
  go_enter Try.func79, Try.ntmps79
  go_wp2_with fail
  refine (fcheck_any ints a A c hla f0 f1 _ (hs.below (by (repeat (first | with_reducible exact Below.refl _ _ | with_reducible assumption | (with_reducible refine bl_set ?_ (by simp; try omega) _) | (with_reducible refine bl_alloc ?_ _) | (with_reducible refine bl_dn ?_ _) | (with_reducible refine bl_drew ?_) | (with_reducible refine bl_then ?_ (by with_reducible assumption))))))).mono ?_
  rw [H.out]
  rintro e w1 ⟨rfl, hg1⟩
  have st1 := hide ((((St.init w).box c hs).alloc _).below hg1)
  have rb1 := hide ((RBox.new _ _).below hg1)
  simp only [World.size_alloc] at rb1
  clear hg1
  obtain ⟨hbw, ⟨⟨a0, a1, a2, a3, a4⟩, sa, za⟩, _⟩ := st1.out
  have hbw0 := hide hbw
  go_wp2_with fail
  refine (each_end f a A c P hcA _ (sa.below (by (repeat (first | with_reducible exact Below.refl _ _ | with_reducible assumption | (with_reducible refine bl_set ?_ (by simp; try omega) _) | (with_reducible refine bl_alloc ?_ _) | (with_reducible refine bl_dn ?_ _) | (with_reducible refine bl_drew ?_) | (with_reducible refine bl_then ?_ (by with_reducible assumption)))))) HK.out HR.out (fun row B d W hm hb hsr => HD.out HK.out HR.out row B d W hm (bl_then hbw0.out (bl_then (Below.refl _ _) hb)) hsr)).mono ?_
  rw [HM.out]
  rintro e w2 ⟨hg2, V, cv, rfl, hsV, hge, hcp⟩
  have st2 := hide (st1.out.below hg2)
  have rb2 := hide (rb1.out.below hg2)
  have zw2 : w.heap.size + 1 < w1.heap.size := rb1.out.2.2
  have hsV := hide hsV
  clear hbw hg2; clear a0 a1 a2 a3 a4 sa za
  obtain ⟨hbw, ⟨⟨a0, a1, a2, a3, a4⟩, sa, za⟩, _⟩ := st2.out
  obtain ⟨⟨r0, r1, r2, r3, r4⟩, rf, zr⟩ := rb2.out
  by_cases he : er = 0
  · have HX2 : Hid (extFold ints f a = (0, foldR a ys)) := by show _ = _; rw [HX.out, if_pos he]
    subst he
    cases v1
    · have HF := hide (foldR_two (ys := ys) hv1)
      go_wp2
      rw [HX2.out, HF.out]
      refine bodyPost_ret (v := .tuple #[.agg #[.int .i64 1, .int .i64 1, .int .i64 ys.length, .int .i64 0, .slice V ys.length cv], .int .i64 0]) (by simp [results, Try.results79, go_sem, *]) rfl ⟨by (repeat (first | with_reducible exact Below.refl _ _ | with_reducible assumption | (with_reducible refine bl_set ?_ (by simp; try omega) _) | (with_reducible refine bl_alloc ?_ _) | (with_reducible refine bl_dn ?_ _) | (with_reducible refine bl_drew ?_) | (with_reducible refine bl_then ?_ (by with_reducible assumption)))), V, cv, rfl, ?_, ?_, hcp⟩
      · repeat (refine Sl.set (B := w1.heap.size) ?_ hge (by simp; omega) _)
        exact hsV.out
      · intro g o e; have := hge g o e; omega
    · have HF := hide (foldR_one (ys := ys) hv1)
      go_wp2
      rw [HX2.out, HF.out]
      refine bodyPost_ret (v := .tuple #[.agg #[.int .i64 1, .int .i64 0, .int .i64 0, .int .i64 0, .slice V ys.length cv], .int .i64 0]) (by simp [results, Try.results79, go_sem, *]) rfl ⟨by (repeat (first | with_reducible exact Below.refl _ _ | with_reducible assumption | (with_reducible refine bl_set ?_ (by simp; try omega) _) | (with_reducible refine bl_alloc ?_ _) | (with_reducible refine bl_dn ?_ _) | (with_reducible refine bl_drew ?_) | (with_reducible refine bl_then ?_ (by with_reducible assumption)))), V, cv, rfl, ?_, ?_, hcp⟩
      · repeat (refine Sl.set (B := w1.heap.size) ?_ hge (by simp; omega) _)
        exact hsV.out
      · intro g o e; have := hge g o e; omega
  · have HX2 : Hid (extFold ints f a = (er, .zero)) := by show _ = _; rw [HX.out, if_neg he]
    have n2 : (er != 0) = true := by simpa using he
    clear he
    go_wp2
    rw [HX2.out]
    refine bodyPost_ret (v := .tuple #[.agg #[.int .i64 0, .int .i64 0, .int .i64 0, .int .i64 0, .slice none 0 0], .int .i64 er]) (by simp [results, Try.results79, go_sem, *]) rfl (arr_zero _ (by (repeat (first | with_reducible exact Below.refl _ _ | with_reducible assumption | (with_reducible refine bl_set ?_ (by simp; try omega) _) | (with_reducible refine bl_alloc ?_ _) | (with_reducible refine bl_dn ?_ _) | (with_reducible refine bl_drew ?_) | (with_reducible refine bl_then ?_ (by with_reducible assumption))))))
end Ar
end Go.Proofs.Ytfpnafeildigaaa
