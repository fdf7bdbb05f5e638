/-
The loop that fills a new block with what a closure returns, or raises the first error (chapter 10).
-/
import Derived.Test.YtfpnafeildigaaaArS
import Derived.WalkLawsBesides
set_option linter.unusedSimpArgs false
set_option linter.unusedVariables false
namespace Go.Proofs.Ytfpnafeildigaaa
namespace Ar
open Go.RowKit Sc

set_option maxHeartbeats 400000 in
theorem all_one (p : Int) (xs : List Int) (A : Option Addr) (c P Q : Nat) (hx : ∀ x ∈ xs, Fits x) (w : World) (hl : xs.length ≤ 100000) (hP : w.cell? ⟨P, 0, none⟩ = some (.int .i64 p))
    (hQ : w.cell? ⟨Q, 4, none⟩ = some (.slice A xs.length c)) (hs : Sl w A xs) :
    Calls Try.prog 63 #[.agg #[.int .i64 xs.length, .func (.func 61) #[] #[.pointer (some ⟨P, 0, none⟩), .pointer (some ⟨Q, 0, none⟩)]]] w fun e w' => AllPost w xs.length (mapE (one p) xs) e w' := by
  have hPl := block_lt_of_cell hP
  have hQl := block_lt_of_cell hQ
  have HP := hide hP; have HQ := hide hQ; have HX := hide hx
  have hmk := fun W => make_i64 xs.length hl W
  clear hP hQ hx
  obtain ⟨n, hn⟩ : ∃ n, xs.length = n := ⟨_, rfl⟩
  rw [hn] at hmk hl HQ ⊢
  have HN := hide hn
  clear hn
  go_enter Try.func63, Try.ntmps63
  go_wp2
  go_loopw [12] (fun i wr => ∃ k : Nat, ∃ ys : List Int, k ≤ n ∧ i = .int .i64 k ∧ Hid (mapE (one p) (xs.take k) = (0, ys)) ∧ Hid (ys.length = k) ∧ Hid (Out wr (w.heap.size + 1) n ys) ∧ Below w.heap.size w wr ∧
      wr.cell? ⟨w.heap.size, 1, none⟩ = some (.func (.func 61) #[] #[.pointer (some ⟨P, 0, none⟩), .pointer (some ⟨Q, 0, none⟩)])) (fun i _ => n - (intOf i).toNat)
  case atStart => exact ⟨0, [], Nat.zero_le _, rfl, rfl, rfl, (by have := Out.new (w.alloc (.cells #[.int .i64 n, .func (.func 61) #[] #[.pointer (some ⟨P, 0, none⟩), .pointer (some ⟨Q, 0, none⟩)]] 68)) n 2; exact hide (by simpa using this)), by (repeat (first | with_reducible exact Below.refl _ _ | with_reducible assumption | (with_reducible refine bl_set ?_ (by simp; try omega) _) | (with_reducible refine bl_alloc ?_ _) | (with_reducible refine bl_dn ?_ _) | (with_reducible refine bl_drew ?_) | (with_reducible refine bl_then ?_ (by with_reducible assumption)))), by simp [go_sem]⟩
  case round =>
    obtain ⟨k, ys, hk, rfl, hm, hy, ho, hb, hbox⟩ := hrel
    by_cases hlt : k < n
    · have hkx : k < xs.length := by have := HN.out; omega
      obtain ⟨x, hxk⟩ : ∃ x, Hid (xs.getD k 0 = x) := ⟨_, rfl⟩
      have hfx : Hid (Fits x) := HX.out x (by rw [← hxk.out, List.getD_eq_getElem?_getD, List.getElem?_eq_getElem hkx]; exact List.getElem_mem hkx)
      have hcl := hide (fun W : World => fun hPW hQW hsW => one1_any p xs A c P Q k x hfx.out W hkx (by have := HN.out; omega) hPW hQW hsW hxk.out)
      have hPr := hide ((hb.cell (p := ⟨P, 0, none⟩) hPl).trans HP.out)
      have hQr : Hid (wr.cell? ⟨Q, 4, none⟩ = some (.slice A xs.length c)) := (hb.cell (p := ⟨Q, 4, none⟩) hQl).trans (by rw [HN.out]; exact HQ.out)
      have hsr := hide (hs.below hb)
      clear hkx
      by_cases he : (one p x).2 = 0
      · have c1 : ((one p x).2 != 0) = false := by simpa using he
        have HE := hide he
        clear he
        go_wp2_with (go_at_call 61; refine (hcl.out _ hPr.out hQr.out hsr.out).mono ?_; rintro e w2 ⟨rfl, hg⟩; (have HO2 := hide (Out.below ho.out hg)); (obtain ⟨v, hv⟩ := HO2.out.2.1 k hlt); (have hfz := HO2.out.2.2.2 k))
        have hHO := HO2.out
        go_roundw
        case rel => exact ⟨k + 1, ys ++ [(one p x).1], by omega, by go_num, (by show _ = _; rw [take_succ_getD (by have := HN.out; omega), hxk.out]; exact mapE_step hm.out HE.out), (by show _ = _; simp [hy.out]),
          (by have := Out.set HO2.out (by rw [hy.out]; exact hlt) (one p x).1; rw [hy.out] at this; exact this), (hb.trans (hg.mono hb.size)).setCell (by simp) _,
          (World.cell?_setCell_other _ _ _ _ (by simp)).trans ((hg.cell (p := ⟨w.heap.size, 1, none⟩) (block_lt_of_cell hbox)).trans hbox)⟩
        case measure => simp [intOf]; omega
      · have c1 : ((one p x).2 != 0) = true := by simpa using he
        have HE : Hid ((mapE (one p) xs).1 = (one p x).2) := by
          show _ = _
          have := mapE_err (r := xs.drop (k + 1)) hm.out he
          rw [← hxk.out, ← take_split (by have := HN.out; omega)] at this
          rw [← hxk.out]; exact this
        have HE2 := hide he
        clear he
        go_wp2_with (go_at_call 61; refine (hcl.out _ hPr.out hQr.out hsr.out).mono ?_; rintro e w2 ⟨rfl, hg⟩)
        exact ⟨rfl, hb.trans (hg.mono hb.size), Or.inr ⟨by rw [HE.out]; exact HE2.out, by rw [HE.out]⟩⟩
    · have HE : Hid (mapE (one p) xs = (0, ys)) := by
        have e := hm.out
        rw [List.take_of_length_le (by have := HN.out; omega)] at e
        exact e
      go_wp2
      go_ret
      refine ⟨hb, Or.inl ⟨by rw [HE.out], w.heap.size + 1, rfl, by omega, ?_⟩⟩
      rw [HE.out]; exact ho.out
theorem all_one_ok (p : Int) (xs : List Int) (A : Option Addr) (c P Q : Nat) (hx : ∀ x ∈ xs, Fits x) (w : World) (hl : xs.length ≤ 100000) (hP : w.cell? ⟨P, 0, none⟩ = some (.int .i64 p))
    (hQ : w.cell? ⟨Q, 4, none⟩ = some (.slice A xs.length c)) (hs : Sl w A xs) (ys : List Int) (hm : mapE (one p) xs = (0, ys)) :
    Calls Try.prog 63 #[.agg #[.int .i64 xs.length, .func (.func 61) #[] #[.pointer (some ⟨P, 0, none⟩), .pointer (some ⟨Q, 0, none⟩)]]] w fun e w' => Below w.heap.size w w' ∧ ∃ g, e = .returned (.slice (some ⟨g, 0, none⟩) xs.length xs.length) ∧ w.heap.size ≤ g ∧ Out w' g xs.length ys := by
  refine (all_one p xs A c P Q hx w hl hP hQ hs).mono ?_
  rw [hm]
  rintro e w' ⟨hb, ⟨_, g, h1, h2, h3⟩ | ⟨h0, _⟩⟩
  · exact ⟨hb, g, h1, h2, h3⟩
  · exact absurd rfl h0
theorem all_one_err (p : Int) (xs : List Int) (A : Option Addr) (c P Q : Nat) (hx : ∀ x ∈ xs, Fits x) (w : World) (hl : xs.length ≤ 100000) (hP : w.cell? ⟨P, 0, none⟩ = some (.int .i64 p))
    (hQ : w.cell? ⟨Q, 4, none⟩ = some (.slice A xs.length c)) (hs : Sl w A xs) (er : Int) (hm : (mapE (one p) xs).1 = er) (h0 : er ≠ 0) :
    Calls Try.prog 63 #[.agg #[.int .i64 xs.length, .func (.func 61) #[] #[.pointer (some ⟨P, 0, none⟩), .pointer (some ⟨Q, 0, none⟩)]]] w fun e w' => Below w.heap.size w w' ∧ e = .panicked [{ v := wrongV er, recovered := false }] := by
  refine (all_one p xs A c P Q hx w hl hP hQ hs).mono ?_
  rintro e w' ⟨hb, ⟨h1, _⟩ | ⟨_, h1⟩⟩
  · exact absurd (hm.symm.trans h1) h0
  · rw [hm] at h1; exact ⟨hb, h1⟩
end Ar
end Go.Proofs.Ytfpnafeildigaaa
