/-
Names of labels: words.Name, the reference's Name; lattice.named, the reference's names (chapters 1, 3).
-/
import Derived.Test.YtnpkmimbnjnicaaGreatDoorLt1
import Derived.Test.YtnpkmimbnjnicaaGreatDoorShelf
set_option linter.unusedSimpArgs false
set_option linter.unusedVariables false
namespace Go.Proofs.YtnpkmimbnjnicaaGreatDoor
namespace Pr
open Go Go.RowKit En
open Lt
def lwI (x : Int) : Bool := bif decide (97 ≤ x) then decide (x ≤ 122) else false
def dgI (x : Int) : Bool := bif decide (48 ≤ x) then decide (x ≤ 57) else false
def okI (x : Int) : Bool := bif lwI x then true else bif dgI x then true else x == 45
def setB : ByteArray := ⟨#[97, 98, 99, 100, 101, 102, 103, 104, 105, 106, 107, 108, 109, 110, 111, 112, 113, 114, 115, 116, 117, 118, 119, 120, 121, 122, 48, 49, 50, 51, 52, 53, 54, 55, 56, 57, 45]⟩
theorem set_at : ∀ x : Fin 256, setB.data.toList.contains (UInt8.ofNat x.val) = okI (x.val : Int) := by decide +kernel
theorem set_u8 (c : UInt8) : setB.data.toList.contains c = okI (c.toNat : Int) := by
  have := set_at ⟨c.toNat, c.toNat_lt⟩
  simpa using this
def allK1 (s : ByteArray) : Bool := (List.range s.size).all fun i => okI (chr s i)
def nmV (s : ByteArray) : Bool := bif decide ((s.size : Int) < 1) then false else bif decide ((16 : Int) < s.size) then false else bif lwI (chr s 0) then allK1 s else false
theorem all_chr (s : ByteArray) : allK1 s = s.data.toList.all setB.data.toList.contains := by
  apply Bool.eq_iff_iff.2
  unfold allK1
  rw [List.all_eq_true, List.all_eq_true]
  have hsz : s.data.toList.length = s.size := by simp
  constructor
  · intro h c hc
    obtain ⟨i, hi, rfl⟩ := List.getElem_of_mem hc
    have := h i (List.mem_range.2 (by omega))
    rw [set_u8]
    unfold chr at this
    rw [List.getD_eq_getElem?_getD, Int.toNat_natCast, List.getElem?_eq_getElem hi] at this
    exact this
  · intro h i hi
    have hi := List.mem_range.1 hi
    have hi' : i < s.data.toList.length := by omega
    have := h _ (List.getElem_mem hi')
    rw [set_u8] at this
    unfold chr
    rw [List.getD_eq_getElem?_getD, Int.toNat_natCast, List.getElem?_eq_getElem hi']
    exact this
theorem dw_nil {p : UInt8 → Bool} : ∀ {l : List UInt8}, List.dropWhile p l = [] ↔ ∀ x ∈ l, p x = true := by
  intro l
  induction l with
  | nil => simp
  | cons y l ih =>
    rw [List.dropWhile_cons]
    cases hy : p y
    · simp [hy]
    · simp [hy, ih]
theorem trim_nil (l cs : List UInt8) : (Lib.trimS l cs = []) ↔ l.all cs.contains = true := by
  unfold Lib.trimS Lib.trimLeftS Lib.trimRightS
  rw [dw_nil, List.all_eq_true]
  constructor
  · intro h c hc
    cases hcc : cs.contains c with
    | true => rfl
    | false =>
      have : c ∈ (List.dropWhile (fun x => cs.contains x) l.reverse).reverse := by
        rw [List.mem_reverse]
        have hm : c ∈ l.reverse := List.mem_reverse.2 hc
        have : ∀ m : List UInt8, c ∈ m → c ∈ List.dropWhile (fun x => cs.contains x) m := by
          intro m
          induction m with
          | nil => intro h; cases h
          | cons y m ih =>
            intro h
            rw [List.dropWhile_cons]
            split
            · next hy =>
              rcases List.mem_cons.1 h with e | e
              · subst e; rw [hcc] at hy; cases hy
              · exact ih e
            · exact h
        exact this _ hm
      have := h c this
      rw [hcc] at this; cases this
  · intro h c hc
    exact h c (List.mem_reverse.1 ((List.dropWhile_sublist _).subset (List.mem_reverse.1 hc)))
def spTrim : Spc
  | [.v (.string s), .v (.string c)], _, _ => .is (c = setB ∧ s.size ≤ 9223372036854775807) (.v (.string ⟨(Lib.trimS s.data.toList c.data.toList).toArray⟩))
  | _, _, _ => .bad
def trimN (s : ByteArray) : ByteArray := ⟨(Lib.trimS s.data.toList setB.data.toList).toArray⟩
theorem spTrim_q {s : ByteArray} {H : Nat → Ch} {nx : Nat} : spTrim [.v (.string s), .v (.string ⟨#[97, 98, 99, 100, 101, 102, 103, 104, 105, 106, 107, 108, 109, 110, 111, 112, 113, 114, 115, 116, 117, 118, 119, 120, 121, 122, 48, 49, 50, 51, 52, 53, 54, 55, 56, 57, 45]⟩)] H nx = .is (setB = setB ∧ s.size ≤ 9223372036854775807) (.v (.string (trimN s))) := (rfl)
theorem trim_eq (s : ByteArray) : ((trimN s).toList == (⟨#[]⟩ : ByteArray).toList) = allK1 s := by
  rw [all_chr, ByteArray.toList_eq, ByteArray.toList_eq]
  apply Bool.eq_iff_iff.2
  rw [beq_iff_eq, ← trim_nil]
  simp [trimN]
theorem spTrim_ok : SpecOk Tryz.prog 127 spTrim := specOk_is fun args H nx => by
  unfold spTrim; split
  · next s c =>
    rintro ⟨rfl, hs⟩ w
    exact Any.strings_Trim_laid laysTrim (by kernel_rfl) s setB w hs (by decide) (ascii_of_all (by decide))
  · trivial
def glTr : List (FuncId × Spc) := [(127, spTrim)]
theorem glTr_ok : GOk Tryz.prog (lookG glTr) := lG_cons (by kernel_rfl) spTrim_ok lG_nil
theorem empty_size (s : ByteArray) : (s.toList == (⟨#[]⟩ : ByteArray).toList) = decide ((s.size : Int) < 1) := by
  rw [ByteArray.toList_eq, ByteArray.toList_eq]
  apply Bool.eq_iff_iff.2
  rw [beq_iff_eq, decide_eq_true_eq]
  have hsz : s.data.toList.length = s.size := by simp
  constructor
  · intro h
    have := congrArg List.length h
    rw [hsz] at this
    have h0 : s.size = 0 := this
    omega
  · intro h
    apply List.eq_nil_of_length_eq_zero
    omega
theorem wName_any (s : ByteArray) (w : World) : Calls Tryz.prog 106 #[.string s] w fun e w' => e = .returned (.bool (nmV s)) ∧ Below w.heap.size w w' := by
  obtain ⟨q, hq⟩ : ∃ q, q = nmV s := ⟨_, rfl⟩
  rw [← hq]
  refine calls_go (args := [.v (.string s)]) (hp := []) (nx := 1000) (n := 400) (U := []) (V := []) (tl := tlLt) (gl := glTr) (post := fun s ys => ys = [.v (.bool q)])
    followP tlLt_ok glTr_ok Tryz.func106 rfl (by kernel_rfl) (Nat.le_of_ble_eq_true (by kernel_rfl)) (by kernel_rfl) (by kernel_rfl) (hh_list trivial) (fun _ _ => rfl) ?_ ?_
  · rintro s ys w' rfl H
    exact ⟨rfl, H.below⟩
  intro L F T G nd va hE
  obtain ⟨hL, hF, hs, hv, hT, hG, hR, hI, hJ, hW⟩ := hE
  rw [Tryz.results106] at hF
  simp (maxSteps := 1000000) only [En.nN, En.E, En.evsC, List.map_cons, List.map_nil, ne_eq, En.bitN, Nat.testBit, seval] at hv
  simp only [En.at_nil, En.at_cons, En.ag_nil, En.ag_cons, and_true, tlLt, glTr, tyInt, tyU8, tyBool, tyStr, tyErr, tyStrs, tyBytes, tyInts, tyLat, tyA8, tyUps, tyDns, tyOrd, tyUint] at hT hG
  unfold nmV lwI at hq
  simp (maxSteps := 10000000) only [En.E, En.evsC, List.map_cons, List.map_nil, ne_eq, En.bitN, Nat.testBit, seval, En.vV, hs, hv, hT, hG, hF, spTrim_q, empty_size s, trim_eq]
  clear hL hs hv hT hG hF hR hI hJ hW
  have e1 : decide (chr s 0 < 97) = !decide (97 ≤ chr s 0) := by rw [← decide_not]; exact decide_eq_decide.2 (by omega)
  have e2 : decide (122 < chr s 0) = !decide (chr s 0 ≤ 122) := by rw [← decide_not]; exact decide_eq_decide.2 (by omega)
  rw [e1, e2]
  cases h1 : decide ((s.size : Int) < 1)
  · have z1 := of_decide_eq_false h1
    cases h2 : decide ((16 : Int) < s.size)
    · have z2 := of_decide_eq_false h2
      rw [h1, h2] at hq
      cases h3 : decide (97 ≤ chr s 0) <;> cases h4 : decide (chr s 0 ≤ 122) <;> rw [h3] at hq <;> (try rw [h4] at hq) <;> simp [hq] <;> omega
    · rw [h1, h2] at hq
      simp [hq] <;> omega
  · rw [h1] at hq
    simp [hq]
def spWName : Spc
  | [.v (.string s)], _, _ => .is (True) (.v (.bool (nmV s)))
  | _, _, _ => .bad
theorem spWName_q {s : ByteArray} {H : Nat → Ch} {nx : Nat} : spWName [.v (.string s)] H nx = .is (True) (.v (.bool (nmV s))) := (rfl)
theorem spWName_ok : SpecOk Tryz.prog 106 spWName := specOk_is fun args H nx => by
  unfold spWName; split
  · exact fun _ w => wName_any _ w
  · trivial
theorem lower_any (x : Int) (w : World) : Calls Tryz.prog 150 #[.int .u8 x] w fun e w' => e = .returned (.bool (lwI x)) ∧ Below w.heap.size w w' := by
  obtain ⟨q, hq⟩ : ∃ q, q = lwI x := ⟨_, rfl⟩
  rw [← hq]
  refine calls_go (args := [.v (.int .u8 x)]) (hp := []) (nx := 1000) (n := 400) (U := []) (V := []) (tl := tlLt) (gl := gl0) (post := fun s ys => ys = [.v (.bool q)])
    followP tlLt_ok gl0_ok Tryz.func150 rfl (by kernel_rfl) (Nat.le_of_ble_eq_true (by kernel_rfl)) (by kernel_rfl) (by kernel_rfl) (hh_list trivial) (fun _ _ => rfl) ?_ ?_
  · rintro s ys w' rfl H
    exact ⟨rfl, H.below⟩
  intro L F T G nd va hE
  obtain ⟨hL, hF, hs, hv, hT, hG, hR, hI, hJ, hW⟩ := hE
  rw [Tryz.results150] at hF
  simp (maxSteps := 1000000) only [En.nN, En.E, En.evsC, List.map_cons, List.map_nil, ne_eq, En.bitN, Nat.testBit, seval] at hv
  simp only [En.at_nil, En.at_cons, En.ag_nil, En.ag_cons, and_true, tlLt, gl0, tyInt, tyU8, tyBool, tyStr, tyErr, tyStrs, tyBytes, tyInts, tyLat, tyA8, tyUps, tyDns, tyOrd, tyUint] at hT hG
  unfold lwI at hq
  simp (maxSteps := 10000000) only [En.E, En.evsC, List.map_cons, List.map_nil, ne_eq, En.bitN, Nat.testBit, seval, En.vV, hs, hv, hT, hG, hF, hq]
def spLower : Spc
  | [.v (.int .u8 x)], _, _ => .is (True) (.v (.bool (lwI x)))
  | _, _, _ => .bad
theorem spLower_q {x : Int} {H : Nat → Ch} {nx : Nat} : spLower [.v (.int .u8 x)] H nx = .is (True) (.v (.bool (lwI x))) := (rfl)
theorem spLower_ok : SpecOk Tryz.prog 150 spLower := specOk_is fun args H nx => by
  unfold spLower; split
  · exact fun _ w => lower_any _ w
  · trivial
theorem digit_any (x : Int) (w : World) : Calls Tryz.prog 151 #[.int .u8 x] w fun e w' => e = .returned (.bool (dgI x)) ∧ Below w.heap.size w w' := by
  obtain ⟨q, hq⟩ : ∃ q, q = dgI x := ⟨_, rfl⟩
  rw [← hq]
  refine calls_go (args := [.v (.int .u8 x)]) (hp := []) (nx := 1000) (n := 400) (U := []) (V := []) (tl := tlLt) (gl := gl0) (post := fun s ys => ys = [.v (.bool q)])
    followP tlLt_ok gl0_ok Tryz.func151 rfl (by kernel_rfl) (Nat.le_of_ble_eq_true (by kernel_rfl)) (by kernel_rfl) (by kernel_rfl) (hh_list trivial) (fun _ _ => rfl) ?_ ?_
  · rintro s ys w' rfl H
    exact ⟨rfl, H.below⟩
  intro L F T G nd va hE
  obtain ⟨hL, hF, hs, hv, hT, hG, hR, hI, hJ, hW⟩ := hE
  rw [Tryz.results151] at hF
  simp (maxSteps := 1000000) only [En.nN, En.E, En.evsC, List.map_cons, List.map_nil, ne_eq, En.bitN, Nat.testBit, seval] at hv
  simp only [En.at_nil, En.at_cons, En.ag_nil, En.ag_cons, and_true, tlLt, gl0, tyInt, tyU8, tyBool, tyStr, tyErr, tyStrs, tyBytes, tyInts, tyLat, tyA8, tyUps, tyDns, tyOrd, tyUint] at hT hG
  unfold dgI at hq
  simp (maxSteps := 10000000) only [En.E, En.evsC, List.map_cons, List.map_nil, ne_eq, En.bitN, Nat.testBit, seval, En.vV, hs, hv, hT, hG, hF, hq]
def spDigit1 : Spc
  | [.v (.int .u8 x)], _, _ => .is (True) (.v (.bool (dgI x)))
  | _, _, _ => .bad
theorem spDigit1_q {x : Int} {H : Nat → Ch} {nx : Nat} : spDigit1 [.v (.int .u8 x)] H nx = .is (True) (.v (.bool (dgI x))) := (rfl)
theorem spDigit1_ok : SpecOk Tryz.prog 151 spDigit1 := specOk_is fun args H nx => by
  unfold spDigit1; split
  · exact fun _ w => digit_any _ w
  · trivial
def glN1 : List (FuncId × Spc) := [(150, spLower), (151, spDigit1)]
theorem glN1_ok : GOk Tryz.prog (lookG glN1) := lG_cons (by kernel_rfl) spLower_ok <| lG_cons (by kernel_rfl) spDigit1_ok lG_nil
def nmI (s : ByteArray) (i : Nat) : SS := ⟨[(0, .v (.string s)), (3, .v (.int .i64 i))], [], 8000⟩
theorem all1_no {s : ByteArray} {i : Nat} (hi : i < s.size) (h : okI (chr s i) = false) : allK1 s = false := by
  cases hq : allK1 s
  · rfl
  · have := List.all_eq_true.1 hq i (List.mem_range.2 hi)
    rw [h] at this; cases this
theorem all1_yes {s : ByteArray} (h : ∀ j, j < s.size → okI (chr s (j : Nat)) = true) : allK1 s = true := List.all_eq_true.2 fun i hi => h i (List.mem_range.1 hi)
set_option maxHeartbeats 4000000 in
theorem rName1_any (s : ByteArray) (w : World) : Calls Tryz.prog 116 #[.string s] w fun e w' => e = .returned (.bool (nmV s)) ∧ Below w.heap.size w w' := by
  obtain ⟨q, hq⟩ : ∃ q, q = nmV s := ⟨_, rfl⟩
  rw [← hq]
  refine calls_go (args := [.v (.string s)]) (hp := []) (nx := 1000) (n := 400) (U := [(1000000, 40)]) (V := []) (tl := tlLt) (gl := glN1) (post := fun s ys => ys = [.v (.bool q)])
    followP tlLt_ok glN1_ok Tryz.func116 rfl (by kernel_rfl) (Nat.le_of_ble_eq_true (by kernel_rfl)) (by kernel_rfl) (by kernel_rfl) (hh_list trivial) (fun _ _ => rfl) ?_ ?_
  · rintro s ys w' rfl H
    exact ⟨rfl, H.below⟩
  intro L F T G nd va hE
  obtain ⟨hL, hF, hs, hv, hT, hG, hR, hI, hJ, hW⟩ := hE
  rw [Tryz.results116] at hF
  simp (maxSteps := 1000000) only [En.nN, En.E, En.evsC, List.map_cons, List.map_nil, ne_eq, En.bitN, Nat.testBit, seval] at hv
  simp only [En.at_nil, En.at_cons, En.ag_nil, En.ag_cons, and_true, tlLt, glN1, tyInt, tyU8, tyBool, tyStr, tyErr, tyStrs, tyBytes, tyInts, tyLat, tyA8, tyUps, tyDns, tyOrd, tyUint] at hT hG
  unfold nmV at hq
  cases h1 : decide ((s.size : Int) < 1)
  · have z1 := of_decide_eq_false h1
    cases h2 : decide ((16 : Int) < s.size)
    · have z2 := of_decide_eq_false h2
      rw [h1, h2] at hq
      have d0 : decide ((0 : Int) < s.size) = true := decide_eq_true (by omega)
      cases h3 : lwI (chr s 0)
      · rw [h3] at hq
        simp (maxSteps := 10000000) only [En.E, En.evsC, List.map_cons, List.map_nil, ne_eq, En.bitN, Nat.testBit, seval, En.vV, hs, hv, hT, hG, hF, spLower_q, spDigit1_q, h1, h2, h3, hq]
        omega
      · rw [h3] at hq
        have hq : q = allK1 s := hq
        simp (maxSteps := 10000000) only [En.E, En.evsC, List.map_cons, List.map_nil, ne_eq, En.bitN, Nat.testBit, seval, En.vV, hs, hv, hT, hG, hF, spLower_q, spDigit1_q, h1, h2, h3]
        refine ⟨by omega, ?_⟩
        refine hI {i : Nat // i ≤ s.size ∧ ∀ j, j < i → okI (chr s (j : Nat)) = true} (fun x => nmI s x.1) (fun x => s.size - x.1) _ _ _ ⟨0, Nat.zero_le _, fun j hj => absurd hj (Nat.not_lt_zero j)⟩ (sle_all [] (by decide) (by simp only [En.E, En.evsC, List.map_cons, List.map_nil, ne_eq, En.bitN, Nat.testBit, seval, En.slLe, En.hpLe, En.chE, En.allLt, nmI, Int.cast_ofNat_Int])) ?_
        rintro ⟨i, hi, hp⟩
        refine hR 400 _ _ ?_
        by_cases hlt : i < s.size
        · have d1 : decide ((i : Int) < (s.size : Int)) = true := decide_eq_true (by omega)
          have i1 : inr .i64 ((i : Int) + 1) := by simp only [En.inr, En.lo, En.hi]; omega
          cases hk : okI (chr s i)
          · have hq' : q = false := hq.trans (all1_no hlt hk)
            have hk' := hk
            unfold okI at hk'
            cases k1 : lwI (chr s i)
            · rw [k1] at hk'
              cases k2 : dgI (chr s i)
              · rw [k2] at hk'
                have k3 : (chr s i != 45) = true := by
                  have hk' : (chr s i == 45) = false := hk'
                  simp [bne, hk']
                simp (maxSteps := 10000000) only [En.E, En.evsC, List.map_cons, List.map_nil, ne_eq, En.bitN, Nat.testBit, seval, En.vV, hs, hv, hT, hG, hF, nmI, spLower_q, spDigit1_q, d1, k1, k2, k3, hq', i1]
                omega
              · rw [k2] at hk'; simp at hk'
            · rw [k1] at hk'; simp at hk'
          · have hst : SLe (nmI s (i + 1)) (nmI s (i + 1)) := (sle_all [] (by decide) (by simp only [En.E, En.evsC, List.map_cons, List.map_nil, ne_eq, En.bitN, Nat.testBit, seval, En.slLe, En.hpLe, En.chE, En.allLt, nmI]))
            have hnx : ∀ j, j < i + 1 → okI (chr s (j : Nat)) = true := fun j hj => by
              by_cases e : j = i
              · rw [e]; exact hk
              · exact hp j (by omega)
            have hk' := hk
            unfold okI at hk'
            cases k1 : lwI (chr s i)
            · rw [k1] at hk'
              cases k2 : dgI (chr s i)
              · rw [k2] at hk'
                have k3 : (chr s i != 45) = false := by
                  have hk' : (chr s i == 45) = true := hk'
                  simp [bne, hk']
                simp (maxSteps := 10000000) only [En.E, En.evsC, List.map_cons, List.map_nil, ne_eq, En.bitN, Nat.testBit, seval, En.vV, hs, hv, hT, hG, hF, nmI, spLower_q, spDigit1_q, d1, k1, k2, k3, i1]
                exact ⟨by omega, by omega, by omega, ⟨i + 1, by omega, hnx⟩, (sle_all [] (by decide) (by simp only [En.E, En.evsC, List.map_cons, List.map_nil, ne_eq, En.bitN, Nat.testBit, seval, En.slLe, En.hpLe, En.chE, En.allLt, nmI, Int.natCast_add, Int.cast_ofNat_Int])), by simp only; omega⟩
              · simp (maxSteps := 10000000) only [En.E, En.evsC, List.map_cons, List.map_nil, ne_eq, En.bitN, Nat.testBit, seval, En.vV, hs, hv, hT, hG, hF, nmI, spLower_q, spDigit1_q, d1, k1, k2, i1]
                exact ⟨by omega, by omega, ⟨i + 1, by omega, hnx⟩, (sle_all [] (by decide) (by simp only [En.E, En.evsC, List.map_cons, List.map_nil, ne_eq, En.bitN, Nat.testBit, seval, En.slLe, En.hpLe, En.chE, En.allLt, nmI, Int.natCast_add, Int.cast_ofNat_Int])), by simp only; omega⟩
            · simp (maxSteps := 10000000) only [En.E, En.evsC, List.map_cons, List.map_nil, ne_eq, En.bitN, Nat.testBit, seval, En.vV, hs, hv, hT, hG, hF, nmI, spLower_q, spDigit1_q, d1, k1, i1]
              exact ⟨by omega, ⟨i + 1, by omega, hnx⟩, (sle_all [] (by decide) (by simp only [En.E, En.evsC, List.map_cons, List.map_nil, ne_eq, En.bitN, Nat.testBit, seval, En.slLe, En.hpLe, En.chE, En.allLt, nmI, Int.natCast_add, Int.cast_ofNat_Int])), by simp only; omega⟩
        · have d1 : decide ((i : Int) < (s.size : Int)) = false := decide_eq_false (by omega)
          have hq' : q = true := hq.trans (all1_yes fun j hj => hp j (by omega))
          simp (maxSteps := 10000000) only [En.E, En.evsC, List.map_cons, List.map_nil, ne_eq, En.bitN, Nat.testBit, seval, En.vV, hs, hv, hT, hG, hF, nmI, spLower_q, spDigit1_q, d1, hq']
    · rw [h1, h2] at hq
      simp (maxSteps := 10000000) only [En.E, En.evsC, List.map_cons, List.map_nil, ne_eq, En.bitN, Nat.testBit, seval, En.vV, hs, hv, hT, hG, hF, spLower_q, spDigit1_q, h1, h2, hq]
  · rw [h1] at hq
    simp (maxSteps := 10000000) only [En.E, En.evsC, List.map_cons, List.map_nil, ne_eq, En.bitN, Nat.testBit, seval, En.vV, hs, hv, hT, hG, hF, spLower_q, spDigit1_q, h1, hq]
def spRName1 : Spc
  | [.v (.string s)], _, _ => .is (True) (.v (.bool (nmV s)))
  | _, _, _ => .bad
theorem spRName1_q {s : ByteArray} {H : Nat → Ch} {nx : Nat} : spRName1 [.v (.string s)] H nx = .is (True) (.v (.bool (nmV s))) := (rfl)
theorem spRName1_ok : SpecOk Tryz.prog 116 spRName1 := specOk_is fun args H nx => by
  unfold spRName1; split
  · exact fun _ w => rName1_any _ w
  · trivial
def sAt (xs : List ByteArray) (i : Nat) : ByteArray := xs.getD i ByteArray.empty
def idS (xs : List ByteArray) (s : ByteArray) : Int := ((List.range xs.length).find? fun i => s.toList == (sAt xs i).toList).elim (-1) fun i => (i : Int)
theorem idS_at {xs : List ByteArray} {s : ByteArray} {i : Nat} (hi : i < xs.length) (h : ∀ j, j < i → (s.toList == (sAt xs j).toList) = false) (hp : (s.toList == (sAt xs i).toList) = true) : idS xs s = i := by
  have : (List.range xs.length).find? (fun i => s.toList == (sAt xs i).toList) = some i := List.find?_range_eq_some.2 ⟨hp, List.mem_range.2 hi, fun j hj => by rw [h j hj]; rfl⟩
  rw [idS, this]; rfl
theorem idS_no {xs : List ByteArray} {s : ByteArray} (h : ∀ j, j < xs.length → (s.toList == (sAt xs j).toList) = false) : idS xs s = -1 := by
  have : (List.range xs.length).find? (fun i => s.toList == (sAt xs i).toList) = none := List.find?_range_eq_none.2 fun j hj => by rw [h j hj]; rfl
  rw [idS, this]; rfl
def ixI (A : Option Addr) (c : Nat) (xs : List ByteArray) (s : ByteArray) (i : Nat) : SS :=
  ⟨[(0, .g 1000 A xs.length c), (1, .v (.string s)), (7, .v (.int .i64 xs.length)), (8, .v (.int .i64 i))], [(1000, .strs A c xs)], 8000⟩
set_option maxHeartbeats 4000000 in
theorem idS_any (xs : List ByteArray) (hn : xs.length ≤ 100000) (s : ByteArray) (A : Option Addr) (c : Nat) (w : World) (h : Hold w.heap.size w (.strs A c xs)) :
    Calls Tryz.prog 128 #[.slice A xs.length c, .string s] w fun e w' => e = .returned (.int .i64 (idS xs s)) ∧ Below w.heap.size w w' := by
  obtain ⟨q, hq⟩ : ∃ q, q = idS xs s := ⟨_, rfl⟩
  rw [← hq]
  refine calls_go (args := [.g 1000 A xs.length c, .v (.string s)]) (hp := [(1000, .strs A c xs)]) (nx := 1001) (n := 400) (U := [(1000000, 9)]) (V := []) (tl := tlLt) (gl := gl0) (post := fun s ys => ys = [.v (.int .i64 q)])
    followP tlLt_ok gl0_ok Tryz.func128 rfl (by kernel_rfl) (Nat.le_of_ble_eq_true (by kernel_rfl)) (by kernel_rfl) (by kernel_rfl) (hh_list ⟨⟨h, rfl⟩, trivial⟩) (free_list (by simp [allLt])) ?_ ?_
  · rintro s ys w' rfl H
    exact ⟨rfl, H.below⟩
  intro L F T G nd va hE
  obtain ⟨hL, hF, hs, hv, hT, hG, hR, hI, hJ, hW⟩ := hE
  rw [Tryz.results128] at hF
  simp (maxSteps := 1000000) only [En.nN, En.E, En.evsC, List.map_cons, List.map_nil, ne_eq, En.bitN, Nat.testBit, seval] at hv
  simp only [En.at_nil, En.at_cons, En.ag_nil, En.ag_cons, and_true, tlLt, gl0, tyInt, tyU8, tyBool, tyStr, tyErr, tyStrs, tyBytes, tyInts, tyLat, tyA8, tyUps, tyDns, tyOrd, tyUint] at hT hG
  simp (maxSteps := 10000000) only [En.E, En.evsC, List.map_cons, List.map_nil, ne_eq, En.bitN, Nat.testBit, seval, En.vV, hs, hv, hT, hG, hF, ]
  refine hI {i : Nat // i ≤ xs.length ∧ ∀ j, j < i → (s.toList == (sAt xs j).toList) = false} (fun x => ixI A c xs s x.1) (fun x => xs.length - x.1) _ _ _ ⟨0, Nat.zero_le _, fun j hj => absurd hj (Nat.not_lt_zero j)⟩ (sle_all [1000] (by decide) (by simp only [En.E, En.evsC, List.map_cons, List.map_nil, ne_eq, En.bitN, Nat.testBit, seval, En.slLe, En.hpLe, En.chE, En.allLt, ixI, Int.cast_ofNat_Int])) ?_
  rintro ⟨i, hi, hp⟩
  refine hR 400 _ _ ?_
  by_cases hlt : i < xs.length
  · have d0 : decide ((i : Int) < (xs.length : Int)) = true := decide_eq_true (by omega)
    have i1 : inr .i64 ((i : Int) + 1) := by simp only [En.inr, En.lo, En.hi]; omega
    cases d1 : (s.toList == (xs.getD i ByteArray.empty).toList) with
    | true =>
      have hq' : q = i := by rw [hq, idS_at hlt hp d1]
      simp (maxSteps := 10000000) only [En.E, En.evsC, List.map_cons, List.map_nil, ne_eq, En.bitN, Nat.testBit, seval, En.vV, hs, hv, hT, hG, hF, ixI, d0, Int.toNat_natCast, d1, hq']
      omega
    | false =>
      simp (maxSteps := 10000000) only [En.E, En.evsC, List.map_cons, List.map_nil, ne_eq, En.bitN, Nat.testBit, seval, En.vV, hs, hv, hT, hG, hF, ixI, d0, Int.toNat_natCast, d1, i1]
      refine ⟨by omega, by omega, ⟨i + 1, by omega, fun j hj => ?_⟩, (sle_all [1000] (by decide) (by simp only [En.E, En.evsC, List.map_cons, List.map_nil, ne_eq, En.bitN, Nat.testBit, seval, En.slLe, En.hpLe, En.chE, En.allLt, ixI, Int.natCast_add, Int.cast_ofNat_Int])), by simp only; omega⟩
      by_cases e : j = i
      · rw [e]; exact d1
      · exact hp j (by omega)
  · have d0 : decide ((i : Int) < (xs.length : Int)) = false := decide_eq_false (by omega)
    have hq' : q = -1 := by rw [hq, idS_no fun j hj => hp j (by omega)]
    simp (maxSteps := 10000000) only [En.E, En.evsC, List.map_cons, List.map_nil, ne_eq, En.bitN, Nat.testBit, seval, En.vV, hs, hv, hT, hG, hF, ixI, d0, hq']
def strR (A : Option Addr) (n c : Nat) : Ch → Prop
  | .strs A' c' xs => A = A' ∧ n = xs.length ∧ c = c'
  | _ => False
def strD : Ch → List ByteArray
  | .strs _ _ xs => xs
  | _ => []
theorem strR_q {A A' : Option Addr} {n c c' : Nat} {xs : List ByteArray} : strR A n c (.strs A' c' xs) = (A = A' ∧ n = xs.length ∧ c = c') := (rfl)
theorem strD_q {A' : Option Addr} {c' : Nat} {xs : List ByteArray} : strD (.strs A' c' xs) = xs := (rfl)
theorem strR_of {A : Option Addr} {n c : Nat} {x : Ch} (h : strR A n c x) : x = .strs A c (strD x) ∧ n = (strD x).length := by
  unfold strR at h
  split at h
  · obtain ⟨rfl, rfl, rfl⟩ := h; exact ⟨rfl, rfl⟩
  · exact h.elim
def spIdS : Spc
  | [.g k A n c, .v (.string s)], H, _ => .is (strR A n c (H k) ∧ n ≤ 100000) (.v (.int .i64 (idS (strD (H k)) s)))
  | _, _, _ => .bad
theorem spIdS_q {k n c : Nat} {A : Option Addr} {s : ByteArray} {H : Nat → Ch} {nx : Nat} : spIdS [.g k A n c, .v (.string s)] H nx = .is (strR A n c (H k) ∧ n ≤ 100000) (.v (.int .i64 (idS (strD (H k)) s))) := (rfl)
theorem strs_hold {B B' : Nat} {w : World} {A : Option Addr} {c : Nat} {xs : List ByteArray} (h : Hold B w (.strs A c xs)) : Hold B' w (.strs A c xs) := h
theorem spIdS_ok : SpecOk Tryz.prog 128 spIdS := by
  intro args hp nx w0 O w H hv
  unfold spIdS at hv ⊢
  split at hv
  · next k A n c s =>
    obtain ⟨h, hn⟩ := hv
    obtain ⟨e1, e2⟩ := strR_of h
    have hk := H.hold k
    rw [e1] at hk
    have := idS_any (strD (lookH hp k)) (by omega) s A c w hk
    rw [← e2] at this
    refine this.mono ?_
    rintro e w' ⟨rfl, hb⟩
    exact ⟨⟨0, none, 0, none, 0, mz⟩, rfl, .still hb⟩
  · exact hv.elim
def glCs : List (FuncId × Spc) := [(128, spIdS)]
theorem glCs_ok : GOk Tryz.prog (lookG glCs) := lG_cons (by kernel_rfl) spIdS_ok lG_nil
theorem coS_any (xs : List ByteArray) (hn : xs.length ≤ 100000) (s : ByteArray) (A : Option Addr) (c : Nat) (w : World) (h : Hold w.heap.size w (.strs A c xs)) :
    Calls Tryz.prog 107 #[.slice A xs.length c, .string s] w fun e w' => e = .returned (.bool (decide (0 ≤ idS xs s))) ∧ Below w.heap.size w w' := by
  refine calls_go (args := [.g 1000 A xs.length c, .v (.string s)]) (hp := [(1000, .strs A c xs)]) (nx := 1001) (n := 400) (U := [(1000000, 9)]) (V := []) (tl := tlLt) (gl := glCs) (post := fun s' ys => ys = [.v (.bool (decide (0 ≤ idS xs s)))])
    followP tlLt_ok glCs_ok Tryz.func107 rfl (by kernel_rfl) (Nat.le_of_ble_eq_true (by kernel_rfl)) (by kernel_rfl) (by kernel_rfl) (hh_list ⟨⟨h, rfl⟩, trivial⟩) (free_list (by simp [allLt])) ?_ ?_
  · rintro s ys w' rfl H
    exact ⟨rfl, H.below⟩
  intro L F T G nd va hE
  obtain ⟨hL, hF, hs, hv, hT, hG, hR, hI, hJ, hW⟩ := hE
  rw [Tryz.results107] at hF
  simp (maxSteps := 1000000) only [En.nN, En.E, En.evsC, List.map_cons, List.map_nil, ne_eq, En.bitN, Nat.testBit, seval] at hv
  simp only [En.at_nil, En.at_cons, En.ag_nil, En.ag_cons, and_true, tlLt, glCs, tyInt, tyU8, tyBool, tyStr, tyErr, tyStrs, tyBytes, tyInts, tyLat, tyA8, tyUps, tyDns, tyOrd, tyUint] at hT hG
  simp (maxSteps := 10000000) only [En.E, En.evsC, List.map_cons, List.map_nil, ne_eq, En.bitN, Nat.testBit, seval, En.vV, hs, hv, hT, hG, hF, spIdS_q, strR_q, strD_q, hn]
def spCoS : Spc
  | [.g k A n c, .v (.string s)], H, _ => .is (strR A n c (H k) ∧ n ≤ 100000) (.v (.bool (decide (0 ≤ idS (strD (H k)) s))))
  | _, _, _ => .bad
theorem spCoS_q {k n c : Nat} {A : Option Addr} {s : ByteArray} {H : Nat → Ch} {nx : Nat} : spCoS [.g k A n c, .v (.string s)] H nx = .is (strR A n c (H k) ∧ n ≤ 100000) (.v (.bool (decide (0 ≤ idS (strD (H k)) s)))) := (rfl)
theorem spCoS_ok : SpecOk Tryz.prog 107 spCoS := by
  intro args hp nx w0 O w H hv
  unfold spCoS at hv ⊢
  split at hv
  · next k A n c s =>
    obtain ⟨h, hn⟩ := hv
    obtain ⟨e1, e2⟩ := strR_of h
    have hk := H.hold k
    rw [e1] at hk
    have := coS_any (strD (lookH hp k)) (by omega) s A c w hk
    rw [← e2] at this
    refine this.mono ?_
    rintro e w' ⟨rfl, hb⟩
    exact ⟨⟨0, none, 0, none, 0, mz⟩, rfl, .still hb⟩
  · exact hv.elim
theorem twice_idS {xs : List ByteArray} {i : Nat} (hi : i ≤ xs.length) : decide (0 ≤ idS (xs.take i) (sAt xs i)) = twice xs i := by
  have hl : (xs.take i).length = i := by simp; omega
  have hat : ∀ j, j < i → sAt (xs.take i) j = sAt xs j := fun j hj => by
    unfold sAt
    rw [List.getD_eq_getElem?_getD, List.getElem?_take, if_pos hj, List.getD_eq_getElem?_getD]
  unfold idS twice
  rw [hl]
  cases hf : (List.range i).find? (fun j => (sAt xs i).toList == (sAt (xs.take i) j).toList) with
  | none =>
    have := List.find?_range_eq_none.1 hf
    have e : ((List.range i).any fun k => (xs.getD k ByteArray.empty).toList == (xs.getD i ByteArray.empty).toList) = false := by
      rw [List.any_eq_false]
      intro k hk
      have hk := List.mem_range.1 hk
      have := this k hk
      rw [hat k hk] at this
      intro h
      have h := eq_of_beq h
      have : ¬ (sAt xs i).toList = (sAt xs k).toList := by simpa using this
      exact this h.symm
    rw [e]; rfl
  | some j =>
    obtain ⟨h1, h2, _⟩ := List.find?_range_eq_some.1 hf
    have h2 := List.mem_range.1 h2
    rw [hat j h2] at h1
    have h1 := eq_of_beq h1
    have e : ((List.range i).any fun k => (xs.getD k ByteArray.empty).toList == (xs.getD i ByteArray.empty).toList) = true :=
      List.any_eq_true.2 ⟨j, List.mem_range.2 h2, beq_iff_eq.2 (show (sAt xs j).toList = (sAt xs i).toList from h1.symm)⟩
    rw [e]
    exact decide_eq_true (Int.natCast_nonneg j)
end Pr
end Go.Proofs.YtnpkmimbnjnicaaGreatDoor
/-
lattice.named, the reference's names (chapter 3).
-/
set_option linter.unusedSimpArgs false
set_option linter.unusedVariables false
namespace Go.Proofs.YtnpkmimbnjnicaaGreatDoor
namespace Pr
open Go Go.RowKit En
open Lt
def namV (ns : List ByteArray) : Int × Int := if ns.length < 1 ∨ 8 < ns.length then (-1, 3) else namedG nmV ns ns.length 0
theorem namV_no {ns : List ByteArray} (h : ns.length < 1 ∨ 8 < ns.length) : namV ns = (-1, 3) := if_pos h
theorem namV_yes {ns : List ByteArray} (h : ¬(ns.length < 1 ∨ 8 < ns.length)) : namV ns = namedG nmV ns ns.length 0 := if_neg h
theorem namG_at {ns : List ByteArray} {i : Nat} (hi : i < ns.length) : namedG nmV ns (ns.length - i) i = bif nmV (sAt ns i) then (bif twice ns i then ((i : Int), 8) else namedG nmV ns (ns.length - (i + 1)) (i + 1)) else ((i : Int), 6) := by
  obtain ⟨k, hk⟩ : ∃ k, ns.length - i = k + 1 := ⟨ns.length - i - 1, by omega⟩
  rw [hk, show ns.length - (i + 1) = k by omega]
  rfl
def glNa : List (FuncId × Spc) := [(106, spWName), (107, spCoS)]
theorem glNa_ok : GOk Tryz.prog (lookG glNa) := lG_cons (by kernel_rfl) spWName_ok <| lG_cons (by kernel_rfl) spCoS_ok lG_nil
def naI (A : Option Addr) (c : Nat) (ns : List ByteArray) (i : Nat) : SS :=
  ⟨[(0, .g 1000 A ns.length c), (14, .g 1000 A ns.length c), (15, .v (.int .i64 ns.length)), (16, .v (.int .i64 i))], [(1000, .strs A c ns)], 8000⟩
set_option maxRecDepth 100000 in
set_option maxHeartbeats 4000000 in
theorem named_any (ns : List ByteArray) (A : Option Addr) (c : Nat) (w : World) (h : Hold w.heap.size w (.strs A c ns)) :
    Calls Tryz.prog 54 #[.slice A ns.length c] w fun e w' => e = .returned (.tuple #[.int .i64 (namV ns).1, .int .i64 (namV ns).2]) ∧ Below w.heap.size w w' := by
  obtain ⟨q, hq⟩ : ∃ q, q = namV ns := ⟨_, rfl⟩
  rw [← hq]
  refine calls_go (args := [.g 1000 A ns.length c]) (hp := [(1000, .strs A c ns)]) (nx := 1001) (n := 400) (U := [(1000000, 17)]) (V := []) (tl := tlLt) (gl := glNa) (post := fun s' ys => ys = [.v (.int .i64 q.1), .v (.int .i64 q.2)])
    followP tlLt_ok glNa_ok Tryz.func54 rfl (by kernel_rfl) (Nat.le_of_ble_eq_true (by kernel_rfl)) (by kernel_rfl) (by kernel_rfl) (hh_list ⟨⟨h, rfl⟩, trivial⟩) (free_list (by simp [allLt])) ?_ ?_
  · rintro s ys w' rfl H
    exact ⟨rfl, H.below⟩
  intro L F T G nd va hE
  obtain ⟨hL, hF, hs, hv, hT, hG, hR, hI, hJ, hW⟩ := hE
  rw [Tryz.results54] at hF
  simp (maxSteps := 1000000) only [En.nN, En.E, En.evsC, List.map_cons, List.map_nil, ne_eq, En.bitN, Nat.testBit, seval] at hv
  simp only [En.at_nil, En.at_cons, En.ag_nil, En.ag_cons, and_true, tlLt, glNa, tyInt, tyU8, tyBool, tyStr, tyErr, tyStrs, tyBytes, tyInts, tyLat, tyA8, tyUps, tyDns, tyOrd, tyUint] at hT hG
  cases h1 : decide ((ns.length : Int) < 1)
  · have z1 := of_decide_eq_false h1
    cases h2 : decide ((8 : Int) < ns.length)
    · have z2 := of_decide_eq_false h2
      rw [namV_yes (by omega)] at hq
      simp (maxSteps := 10000000) only [En.E, En.evsC, List.map_cons, List.map_nil, ne_eq, En.bitN, Nat.testBit, seval, En.vV, hs, hv, hT, hG, hF, h1, h2]
      refine hI {i : Nat // i ≤ ns.length ∧ q = namedG nmV ns (ns.length - i) i} (fun x => naI A c ns x.1) (fun x => ns.length - x.1) _ _ _ ⟨0, Nat.zero_le _, hq⟩ (sle_all [1000] (by decide) (by simp only [En.E, En.evsC, List.map_cons, List.map_nil, ne_eq, En.bitN, Nat.testBit, seval, En.slLe, En.hpLe, En.chE, En.allLt, naI, Int.cast_ofNat_Int])) ?_
      rintro ⟨i, hi, hp⟩
      refine hR 400 _ _ ?_
      by_cases hlt : i < ns.length
      · have d0 : decide ((i : Int) < (ns.length : Int)) = true := decide_eq_true (by omega)
        have i1 : inr .i64 ((i : Int) + 1) := by simp only [En.inr, En.lo, En.hi]; omega
        rw [namG_at hlt] at hp
        have hp : q = bif nmV (ns.getD i ByteArray.empty) then (bif twice ns i then ((i : Int), 8) else namedG nmV ns (ns.length - (i + 1)) (i + 1)) else ((i : Int), 6) := hp
        cases k1 : nmV (ns.getD i ByteArray.empty)
        · rw [k1] at hp
          simp (maxSteps := 10000000) only [En.E, En.evsC, List.map_cons, List.map_nil, ne_eq, En.bitN, Nat.testBit, seval, En.vV, hs, hv, hT, hG, hF, naI, d0, Int.toNat_natCast, spWName_q, k1, hp]
          omega
        · rw [k1] at hp
          have tw := twice_idS (xs := ns) (i := i) (by omega)
          have tw : decide (0 ≤ idS (ns.take i) (ns.getD i ByteArray.empty)) = twice ns i := tw
          cases k2 : twice ns i
          · rw [k2] at hp tw
            simp (maxSteps := 10000000) only [En.E, En.evsC, List.map_cons, List.map_nil, ne_eq, En.bitN, Nat.testBit, seval, En.vV, hs, hv, hT, hG, hF, naI, d0, Int.toNat_natCast, spWName_q, k1, spCoS_q, strR_q, strD_q, List.drop_zero, Nat.sub_zero, tw, i1]
            exact ⟨by omega, by omega, by omega, ⟨by simp; omega, by omega⟩, ⟨i + 1, by omega, hp⟩, (sle_all [1000] (by decide) (by simp only [En.E, En.evsC, List.map_cons, List.map_nil, ne_eq, En.bitN, Nat.testBit, seval, En.slLe, En.hpLe, En.chE, En.allLt, naI, Int.natCast_add, Int.cast_ofNat_Int])), by simp only; omega⟩
          · rw [k2] at hp tw
            simp (maxSteps := 10000000) only [En.E, En.evsC, List.map_cons, List.map_nil, ne_eq, En.bitN, Nat.testBit, seval, En.vV, hs, hv, hT, hG, hF, naI, d0, Int.toNat_natCast, spWName_q, k1, spCoS_q, strR_q, strD_q, List.drop_zero, Nat.sub_zero, tw, hp]
            exact ⟨by omega, by omega, by omega, by simp; omega, by omega⟩
      · have d0 : decide ((i : Int) < (ns.length : Int)) = false := decide_eq_false (by omega)
        rw [show ns.length - i = 0 by omega] at hp
        have hp : q = (0, 0) := hp
        simp (maxSteps := 10000000) only [En.E, En.evsC, List.map_cons, List.map_nil, ne_eq, En.bitN, Nat.testBit, seval, En.vV, hs, hv, hT, hG, hF, naI, d0, hp]
    · rw [namV_no (.inr (by have := of_decide_eq_true h2; omega))] at hq
      simp (maxSteps := 10000000) only [En.E, En.evsC, List.map_cons, List.map_nil, ne_eq, En.bitN, Nat.testBit, seval, En.vV, hs, hv, hT, hG, hF, h1, h2, hq]
  · rw [namV_no (.inl (by have := of_decide_eq_true h1; omega))] at hq
    simp (maxSteps := 10000000) only [En.E, En.evsC, List.map_cons, List.map_nil, ne_eq, En.bitN, Nat.testBit, seval, En.vV, hs, hv, hT, hG, hF, h1, hq]
def spNamed : Spc
  | [.g k A n c], H, _ => .is (strR A n c (H k)) (.tup [.v (.int .i64 (namV (strD (H k))).1), .v (.int .i64 (namV (strD (H k))).2)])
  | _, _, _ => .bad
theorem spNamed_q {k n c : Nat} {A : Option Addr} {H : Nat → Ch} {nx : Nat} : spNamed [.g k A n c] H nx = .is (strR A n c (H k)) (.tup [.v (.int .i64 (namV (strD (H k))).1), .v (.int .i64 (namV (strD (H k))).2)]) := (rfl)
theorem spNamed_ok : SpecOk Tryz.prog 54 spNamed := by
  intro args hp nx w0 O w H hv
  unfold spNamed at hv ⊢
  split at hv
  · next k A n c =>
    obtain ⟨e1, e2⟩ := strR_of hv
    have hk := H.hold k
    rw [e1] at hk
    have := named_any (strD (lookH hp k)) A c w hk
    rw [← e2] at this
    refine this.mono ?_
    rintro e w' ⟨rfl, hb⟩
    exact ⟨⟨0, none, 0, none, 0, mz⟩, rfl, .still hb⟩
  · exact hv.elim
def glRn : List (FuncId × Spc) := [(116, spRName1)]
theorem glRn_ok : GOk Tryz.prog (lookG glRn) := lG_cons (by kernel_rfl) spRName1_ok lG_nil
def rnI (A : Option Addr) (c : Nat) (ns : List ByteArray) (i : Nat) : SS :=
  ⟨[(0, .g 1000 A ns.length c), (4, .v (.int .i64 i))], [(1000, .strs A c ns)], 8000⟩
def rnJ (A : Option Addr) (c : Nat) (ns : List ByteArray) (i j : Nat) : SS :=
  ⟨[(0, .g 1000 A ns.length c), (4, .v (.int .i64 i)), (5, .v (.int .i64 j))], [(1000, .strs A c ns)], 8000⟩
theorem twice_yes {ns : List ByteArray} {i j : Nat} (hj : j < i) (h : ((ns.getD j ByteArray.empty).toList == (ns.getD i ByteArray.empty).toList) = true) : twice ns i = true := List.any_eq_true.2 ⟨j, List.mem_range.2 hj, h⟩
theorem twice_no {ns : List ByteArray} {i : Nat} (h : ∀ j, j < i → ((ns.getD j ByteArray.empty).toList == (ns.getD i ByteArray.empty).toList) = false) : twice ns i = false := by
  unfold twice
  rw [List.any_eq_false]
  intro j hj
  rw [h j (List.mem_range.1 hj)]; simp
set_option maxRecDepth 100000 in
set_option maxHeartbeats 4000000 in
theorem rnames_any (ns : List ByteArray) (A : Option Addr) (c : Nat) (w : World) (h : Hold w.heap.size w (.strs A c ns)) :
    Calls Tryz.prog 79 #[.slice A ns.length c] w fun e w' => e = .returned (.tuple #[.int .i64 (namV ns).1, .int .i64 (namV ns).2]) ∧ Below w.heap.size w w' := by
  obtain ⟨q, hq⟩ : ∃ q, q = namV ns := ⟨_, rfl⟩
  rw [← hq]
  refine calls_go (args := [.g 1000 A ns.length c]) (hp := [(1000, .strs A c ns)]) (nx := 1001) (n := 400) (U := [(1000000, 6)]) (V := []) (tl := tlLt) (gl := glRn) (post := fun s' ys => ys = [.v (.int .i64 q.1), .v (.int .i64 q.2)])
    followP tlLt_ok glRn_ok Tryz.func79 rfl (by kernel_rfl) (Nat.le_of_ble_eq_true (by kernel_rfl)) (by kernel_rfl) (by kernel_rfl) (hh_list ⟨⟨h, rfl⟩, trivial⟩) (free_list (by simp [allLt])) ?_ ?_
  · rintro s ys w' rfl H
    exact ⟨rfl, H.below⟩
  intro L F T G nd va hE
  obtain ⟨hL, hF, hs, hv, hT, hG, hR, hI, hJ, hW⟩ := hE
  rw [Tryz.results79] at hF
  simp (maxSteps := 1000000) only [En.nN, En.E, En.evsC, List.map_cons, List.map_nil, ne_eq, En.bitN, Nat.testBit, seval] at hv
  simp only [En.at_nil, En.at_cons, En.ag_nil, En.ag_cons, and_true, tlLt, glRn, tyInt, tyU8, tyBool, tyStr, tyErr, tyStrs, tyBytes, tyInts, tyLat, tyA8, tyUps, tyDns, tyOrd, tyUint] at hT hG
  cases h1 : decide ((ns.length : Int) < 1)
  · have z1 := of_decide_eq_false h1
    cases h2 : decide ((8 : Int) < ns.length)
    · have z2 := of_decide_eq_false h2
      rw [namV_yes (by omega)] at hq
      simp (maxSteps := 10000000) only [En.E, En.evsC, List.map_cons, List.map_nil, ne_eq, En.bitN, Nat.testBit, seval, En.vV, hs, hv, hT, hG, hF, h1, h2]
      refine hI {i : Nat // i ≤ ns.length ∧ q = namedG nmV ns (ns.length - i) i} (fun x => rnI A c ns x.1) (fun x => ns.length - x.1) _ _ _ ⟨0, Nat.zero_le _, hq⟩ (sle_all [1000] (by decide) (by simp only [En.E, En.evsC, List.map_cons, List.map_nil, ne_eq, En.bitN, Nat.testBit, seval, En.slLe, En.hpLe, En.chE, En.allLt, rnI, Int.cast_ofNat_Int])) ?_
      rintro ⟨i, hi, hp⟩
      refine hR 400 _ _ ?_
      by_cases hlt : i < ns.length
      · have d0 : decide ((i : Int) < (ns.length : Int)) = true := decide_eq_true (by omega)
        have i1 : inr .i64 ((i : Int) + 1) := by simp only [En.inr, En.lo, En.hi]; omega
        rw [namG_at hlt] at hp
        have hp : q = bif nmV (ns.getD i ByteArray.empty) then (bif twice ns i then ((i : Int), 8) else namedG nmV ns (ns.length - (i + 1)) (i + 1)) else ((i : Int), 6) := hp
        cases k1 : nmV (ns.getD i ByteArray.empty)
        · rw [k1] at hp
          simp (maxSteps := 10000000) only [En.E, En.evsC, List.map_cons, List.map_nil, ne_eq, En.bitN, Nat.testBit, seval, En.vV, hs, hv, hT, hG, hF, rnI, d0, Int.toNat_natCast, spRName1_q, k1, hp]
          omega
        · rw [k1] at hp
          simp (maxSteps := 10000000) only [En.E, En.evsC, List.map_cons, List.map_nil, ne_eq, En.bitN, Nat.testBit, seval, En.vV, hs, hv, hT, hG, hF, rnI, d0, Int.toNat_natCast, spRName1_q, k1]
          refine ⟨by omega, by omega, ?_⟩
          refine hI {j : Nat // j ≤ i ∧ ∀ m, m < j → ((ns.getD m ByteArray.empty).toList == (ns.getD i ByteArray.empty).toList) = false} (fun x => rnJ A c ns i x.1) (fun x => i - x.1) _ _ _ ⟨0, Nat.zero_le _, fun m hm => absurd hm (Nat.not_lt_zero m)⟩ (sle_all [1000] (by decide) (by simp only [En.E, En.evsC, List.map_cons, List.map_nil, ne_eq, En.bitN, Nat.testBit, seval, En.slLe, En.hpLe, En.chE, En.allLt, rnJ, Int.cast_ofNat_Int])) ?_
          rintro ⟨j, hj, hm⟩
          refine hR 400 _ _ ?_
          by_cases hjl : j < i
          · have d1 : decide ((j : Int) < (i : Int)) = true := decide_eq_true (by omega)
            have i2 : inr .i64 ((j : Int) + 1) := by simp only [En.inr, En.lo, En.hi]; omega
            cases k2 : ((ns.getD j ByteArray.empty).toList == (ns.getD i ByteArray.empty).toList)
            · simp (maxSteps := 10000000) only [En.E, En.evsC, List.map_cons, List.map_nil, ne_eq, En.bitN, Nat.testBit, seval, En.vV, hs, hv, hT, hG, hF, rnJ, d1, Int.toNat_natCast, k2, i2]
              refine ⟨by omega, by omega, by omega, by omega, ⟨j + 1, by omega, fun m hm' => ?_⟩, (sle_all [1000] (by decide) (by simp only [En.E, En.evsC, List.map_cons, List.map_nil, ne_eq, En.bitN, Nat.testBit, seval, En.slLe, En.hpLe, En.chE, En.allLt, rnJ, Int.natCast_add, Int.cast_ofNat_Int])), by simp only; omega⟩
              by_cases e : m = j
              · rw [e]; exact k2
              · exact hm m (by omega)
            · rw [twice_yes hjl k2] at hp
              simp (maxSteps := 10000000) only [En.E, En.evsC, List.map_cons, List.map_nil, ne_eq, En.bitN, Nat.testBit, seval, En.vV, hs, hv, hT, hG, hF, rnJ, d1, Int.toNat_natCast, k2, hp]
              omega
          · have d1 : decide ((j : Int) < (i : Int)) = false := decide_eq_false (by omega)
            rw [twice_no fun m hm' => hm m (by omega)] at hp
            simp (maxSteps := 10000000) only [En.E, En.evsC, List.map_cons, List.map_nil, ne_eq, En.bitN, Nat.testBit, seval, En.vV, hs, hv, hT, hG, hF, rnJ, d1, i1]
            exact ⟨⟨i + 1, by omega, hp⟩, (sle_all [1000] (by decide) (by simp only [En.E, En.evsC, List.map_cons, List.map_nil, ne_eq, En.bitN, Nat.testBit, seval, En.slLe, En.hpLe, En.chE, En.allLt, rnI, Int.natCast_add, Int.cast_ofNat_Int])), by simp only; omega⟩
      · have d0 : decide ((i : Int) < (ns.length : Int)) = false := decide_eq_false (by omega)
        rw [show ns.length - i = 0 by omega] at hp
        have hp : q = (0, 0) := hp
        simp (maxSteps := 10000000) only [En.E, En.evsC, List.map_cons, List.map_nil, ne_eq, En.bitN, Nat.testBit, seval, En.vV, hs, hv, hT, hG, hF, rnI, d0, hp]
    · rw [namV_no (.inr (by have := of_decide_eq_true h2; omega))] at hq
      simp (maxSteps := 10000000) only [En.E, En.evsC, List.map_cons, List.map_nil, ne_eq, En.bitN, Nat.testBit, seval, En.vV, hs, hv, hT, hG, hF, h1, h2, hq]
  · rw [namV_no (.inl (by have := of_decide_eq_true h1; omega))] at hq
    simp (maxSteps := 10000000) only [En.E, En.evsC, List.map_cons, List.map_nil, ne_eq, En.bitN, Nat.testBit, seval, En.vV, hs, hv, hT, hG, hF, h1, hq]
theorem spRNames_ok : SpecOk Tryz.prog 79 spNamed := by
  intro args hp nx w0 O w H hv
  unfold spNamed at hv ⊢
  split at hv
  · next k A n c =>
    obtain ⟨e1, e2⟩ := strR_of hv
    have hk := H.hold k
    rw [e1] at hk
    have := rnames_any (strD (lookH hp k)) A c w hk
    rw [← e2] at this
    refine this.mono ?_
    rintro e w' ⟨rfl, hb⟩
    exact ⟨⟨0, none, 0, none, 0, mz⟩, rfl, .still hb⟩
  · exact hv.elim
end Pr
end Go.Proofs.YtnpkmimbnjnicaaGreatDoor
/-
lattice.Check (chapter 3).
-/
set_option linter.unusedSimpArgs false
set_option linter.unusedVariables false
namespace Go.Proofs.YtnpkmimbnjnicaaGreatDoor
namespace Pr
open Go Go.RowKit En
open Lt
def latR (A : Option Addr) (n c : Nat) (B : Option Addr) (m d : Nat) : Ch → Ch → Prop
  | .strs A' c' ns, .ints B' d' .u8 us => A = A' ∧ n = ns.length ∧ c = c' ∧ B = B' ∧ m = us.length ∧ d = d' ∧ Bytes us
  | _, _ => False
def latN : Ch → List ByteArray
  | .strs _ _ ns => ns
  | _ => []
def latU : Ch → List Int
  | .ints _ _ .u8 us => us
  | _ => []
theorem latR_q {A A' B B' : Option Addr} {n c m d c' d' : Nat} {ns : List ByteArray} {us : List Int} : latR A n c B m d (.strs A' c' ns) (.ints B' d' .u8 us) = (A = A' ∧ n = ns.length ∧ c = c' ∧ B = B' ∧ m = us.length ∧ d = d' ∧ Bytes us) := (rfl)
theorem latN_q {A' : Option Addr} {c' : Nat} {ns : List ByteArray} : latN (.strs A' c' ns) = ns := (rfl)
theorem latU_q {B' : Option Addr} {d' : Nat} {us : List Int} : latU (.ints B' d' .u8 us) = us := (rfl)
theorem latR_of {A B : Option Addr} {n c m d : Nat} {x y : Ch} (h : latR A n c B m d x y) : x = .strs A c (latN x) ∧ y = .ints B d .u8 (latU y) ∧ n = (latN x).length ∧ m = (latU y).length ∧ Bytes (latU y) := by
  unfold latR at h
  split at h
  · obtain ⟨rfl, rfl, rfl, rfl, rfl, rfl, hb⟩ := h; exact ⟨rfl, rfl, rfl, rfl, hb⟩
  · exact h.elim
def ofC (b : Nat) (H : Nat → Ch) : Ch → Res
  | .blk b' [.g k A n c, .g j B m d] _ => .is (b = b' ∧ latR A n c B m d (H k) (H j) ∧ m = n ∧ n ≤ 8) (.agg (ordL n (upF (latU (H j)) m) (dnF (latU (H j)) n m 0)))
  | _ => .bad
def spOf : Spc
  | [.p k b 0], H, _ => ofC b H (H k)
  | _, _, _ => .bad
theorem spOf_q {k b : Nat} {H : Nat → Ch} {nx : Nat} : spOf [.p k b 0] H nx = ofC b H (H k) := (rfl)
theorem ofC_q {b b' : Nat} {H : Nat → Ch} {k n c j m d : Nat} {A B : Option Addr} {t : TypeId} : ofC b H (.blk b' [.g k A n c, .g j B m d] t) = .is (b = b' ∧ latR A n c B m d (H k) (H j) ∧ m = n ∧ n ≤ 8) (.agg (ordL n (upF (latU (H j)) m) (dnF (latU (H j)) n m 0))) := (rfl)
theorem spOf_ok : SpecOk Tryz.prog 56 spOf := by
  intro args hp nx w0 O w H hv
  unfold spOf at hv ⊢
  split at hv
  · next k b =>
    have hk := H.hold k
    unfold ofC at hv ⊢
    split at hv
    · next b' k1 A n c j B m d t e =>
      obtain ⟨rfl, hl, e1, hn⟩ := hv
      obtain ⟨x1, x2, x3, x4, x5⟩ := latR_of hl
      rw [e] at hk
      have h1 := H.hold k1
      have h2 := H.hold j
      rw [x1] at h1
      rw [x2] at h2
      have hc := blk_cells hk
      have := of_any b A B c d (latN (lookH hp k1)) (latU (lookH hp j)) x5 (by omega) (by omega) w ⟨⟨by rw [← x3, ← x4]; exact hc, rfl⟩, ⟨h1, rfl⟩, ⟨h2, rfl⟩, trivial⟩
      rw [← x3, ← x4] at this
      refine this.mono ?_
      rintro e' w' ⟨rfl, hb⟩
      exact ⟨⟨0, none, 0, none, 0, mz⟩, rfl, .still hb⟩
    · exact hv.elim
  · exact hv.elim
theorem chk_eq {ns : List ByteArray} {us : List Int} : chkV nmV ns us = if (namV ns).2 ≠ 0 then namV ns else if us.length ≠ ns.length then (-1, 6) else if (ordG us ns.length ns.length 0).2 ≠ 0 then ordG us ns.length ns.length 0 else latG us ns.length ns.length 0 := by
  unfold chkV namV
  by_cases h : ns.length < 1 ∨ 8 < ns.length
  · rw [if_pos h, if_pos h, if_pos (by decide)]
  · rw [if_neg h, if_neg h]
theorem ordG_at {us : List Int} {n i : Nat} (hi : i < n) : ordG us n (n - i) i = bif ordB us n i then ordG us n (n - (i + 1)) (i + 1) else ((i : Int), 6) := by
  obtain ⟨k, hk⟩ : ∃ k, n - i = k + 1 := ⟨n - i - 1, by omega⟩
  rw [hk, show n - (i + 1) = k by omega]
  rfl
theorem latG_at {us : List Int} {n i : Nat} (hi : i < n) : latG us n (n - i) i = bif (List.range n).any (noB us n i) then ((i : Int), 4) else latG us n (n - (i + 1)) (i + 1) := by
  obtain ⟨k, hk⟩ : ∃ k, n - i = k + 1 := ⟨n - i - 1, by omega⟩
  rw [hk, show n - (i + 1) = k by omega]
  rfl
def ordR (us : List Int) (n i : Nat) : Int × Int := if (ordG us n (n - i) i).2 ≠ 0 then ordG us n (n - i) i else latG us n n 0
theorem ordR_no {us : List Int} {n i : Nat} (hi : i < n) (h : ordB us n i = false) : ordR us n i = ((i : Int), 6) := by
  unfold ordR
  rw [ordG_at hi, h]; simp
theorem ordR_yes {us : List Int} {n i : Nat} (hi : i < n) (h : ordB us n i = true) : ordR us n i = ordR us n (i + 1) := by
  unfold ordR
  rw [ordG_at hi, h]; simp
theorem ordR_end {us : List Int} {n : Nat} : ordR us n n = latG us n n 0 := by
  unfold ordR
  rw [Nat.sub_self]; simp [ordG]
theorem bit0 {us : List Int} (hB : Bytes us) {a b : Nat} (hb : b < 8) : bits .and .u8 (us.getD a 0 / 2 ^ min b 8) 1 = if bl us a b then 1 else 0 := by
  have h1 := hB a
  rw [Nat.min_eq_left (by omega : b ≤ 8)]
  have := sh8 ⟨(us.getD a 0).toNat, by omega⟩ ⟨b, hb⟩
  simp only [Int.toNat_of_nonneg h1.1] at this
  exact this
theorem bit_eq0 {us : List Int} (hB : Bytes us) {a b : Nat} (hb : b < 8) : (bits .and .u8 (us.getD a 0 / 2 ^ min b 8) 1 == 0) = !bl us a b := by
  rw [bit0 hB hb]; cases bl us a b <;> rfl
theorem bit_eq1 {us : List Int} (hB : Bytes us) {a b : Nat} (hb : b < 8) : (bits .and .u8 (us.getD a 0 / 2 ^ min b 8) 1 == 1) = bl us a b := by
  rw [bit0 hB hb]; cases bl us a b <;> rfl
def maskI (n : Nat) : Int := IntKind.wrap .u8 (IntKind.wrap .u8 (1 * 2 ^ min n 8) - 1)
theorem mask_at : ∀ n : Fin 9, maskI n.val = ((2 ^ n.val - 1 : Nat) : Int) := by decide +kernel
theorem not8 {x y : Int} (hx : 0 ≤ x ∧ x ≤ 255) (hy : 0 ≤ y ∧ y ≤ 255) : (bits .andNot .u8 x y == 0) = (x.toNat &&& y.toNat == x.toNat) := by
  obtain ⟨a, rfl⟩ : ∃ a : Nat, x = a := ⟨x.toNat, by omega⟩
  obtain ⟨b, rfl⟩ : ∃ b : Nat, y = b := ⟨y.toNat, by omega⟩
  have h1 : (BitVec.ofInt 8 (a : Int)).toNat = a := by simp [BitVec.toNat_ofInt]; omega
  have h2 : (BitVec.ofInt 8 (b : Int)).toNat = b := by simp [BitVec.toNat_ofInt]; omega
  have hw : ∀ z : Nat, z < 256 → IntKind.wrap .u8 (z : Int) = z := fun z hz => by
    simp only [IntKind.wrap, IntKind.bits, IntKind.signed, IntKind.max, IntKind.min]; (try simp); omega
  have hl := (BitVec.ofInt 8 (a : Int) &&& ~~~BitVec.ofInt 8 (b : Int)).isLt
  have e : bits .andNot .u8 (a : Int) (b : Int) = ((BitVec.ofInt 8 (a : Int) &&& ~~~BitVec.ofInt 8 (b : Int)).toNat : Int) := by
    show IntKind.wrap .u8 ((BitVec.ofInt 8 (a : Int) &&& ~~~BitVec.ofInt 8 (b : Int)).toNat : Int) = _
    exact hw _ hl
  rw [e]
  apply Bool.eq_iff_iff.2
  rw [beq_iff_eq, beq_iff_eq, Int.toNat_natCast, Int.toNat_natCast]
  have k : (BitVec.ofInt 8 (a : Int) &&& ~~~BitVec.ofInt 8 (b : Int)) = 0#8 ↔ (BitVec.ofInt 8 (a : Int) &&& BitVec.ofInt 8 (b : Int)) = BitVec.ofInt 8 (a : Int) := by
    generalize BitVec.ofInt 8 (a : Int) = u
    generalize BitVec.ofInt 8 (b : Int) = v
    constructor
    · intro h
      apply BitVec.eq_of_getLsbD_eq
      intro i hi
      have := congrArg (fun z : BitVec 8 => z.getLsbD i) h
      simp [hi] at this ⊢
      exact this
    · intro h
      apply BitVec.eq_of_getLsbD_eq
      intro i hi
      have := congrArg (fun z : BitVec 8 => z.getLsbD i) h
      simp [hi] at this ⊢
      exact this
  constructor
  · intro h
    have h0 : (BitVec.ofInt 8 (a : Int) &&& ~~~BitVec.ofInt 8 (b : Int)) = 0#8 := BitVec.eq_of_toNat_eq (by simpa using h)
    have := congrArg BitVec.toNat (k.1 h0)
    rwa [BitVec.toNat_and, h1, h2] at this
  · intro h
    have h0 : (BitVec.ofInt 8 (a : Int) &&& BitVec.ofInt 8 (b : Int)) = BitVec.ofInt 8 (a : Int) := BitVec.eq_of_toNat_eq (by rw [BitVec.toNat_and, h1, h2]; exact h)
    rw [k.2 h0]; rfl
theorem beyond8 {us : List Int} (hB : Bytes us) {n a b : Nat} (hn : n ≤ 8) : (bits .andNot .u8 (bits .and .u8 (us.getD b 0) (maskI n)) (us.getD a 0) != 0) = !((uN us b &&& (2 ^ n - 1)) &&& uN us a == uN us b &&& (2 ^ n - 1)) := by
  have h1 := hB b
  have h2 : 2 ^ n ≤ 256 := Nat.le_trans (Nat.pow_le_pow_right (by decide) hn) (by decide)
  have h3 := mask_at ⟨n, by omega⟩
  simp only at h3
  have h4 : 0 ≤ maskI n ∧ maskI n ≤ 255 := by rw [h3]; omega
  have h5 : uN us b &&& (2 ^ n - 1) < 256 := Nat.lt_of_le_of_lt Nat.and_le_left (by unfold uN; omega)
  have e : bits .and .u8 (us.getD b 0) (maskI n) = ((uN us b &&& (2 ^ n - 1) : Nat) : Int) := by
    rw [(bits8 h1 h4).1, h3, Int.toNat_natCast]; rfl
  show (!(bits .andNot .u8 (bits .and .u8 (us.getD b 0) (maskI n)) (us.getD a 0) == 0)) = _
  rw [e, not8 ⟨by omega, by omega⟩ (hB a), Int.toNat_natCast]
  rfl
def chkHp (b : Nat) (A B : Option Addr) (c d : Nat) (ns : List ByteArray) (us : List Int) : Hp := [(2000, .blk b [.g 1001 A ns.length c, .g 1002 B us.length d] 33), (1001, .strs A c ns), (1002, .ints B d .u8 us)]
def glCk : List (FuncId × Spc) := [(54, spNamed), (55, spLen8), (56, spOf), (57, spBnd), (58, spBnd)]
theorem glCk_ok : GOk Tryz.prog (lookG glCk) := lG_cons (by kernel_rfl) spNamed_ok <| lG_cons (by kernel_rfl) spLen8_ok <| lG_cons (by kernel_rfl) spOf_ok <| lG_cons (by kernel_rfl) spBnd_ok <| lG_cons (by kernel_rfl) spBndd_ok lG_nil
def tlCk : List (TypeId × TI) := [tyInt, tyU8w, tyBool, tyStr, tyErr, tyStrs, tyBytes, tyInts, tyLat, tyA8, tyUps, tyDns, tyOrd]
theorem tlCk_ok : TyAll Tryz.prog (lookT tlCk) := tyAll_p tyInt_ok <| tyAll_p tyU8w_ok <| tyAll_p tyBool_ok <| tyAll_p tyStr_ok <| tyAll_p tyErr_ok <| tyAll_p tyStrs_ok <| tyAll_p tyBytes_ok <| tyAll_p tyInts_ok <| tyAll_p tyLat_ok <| tyAll_p tyA8_ok <| tyAll_p tyUps_ok <| tyAll_p tyDns_ok <| tyAll_p tyOrd_ok tyAll_nil
def ckI (b : Nat) (A B : Option Addr) (c d : Nat) (ns : List ByteArray) (us : List Int) (i : Nat) : SS :=
  ⟨[(1, .p 2000 b 0), (6, .v (.int .i64 ns.length)), (7, .v (.int .u8 (maskI ns.length))), (37, .g 1002 B us.length d), (38, .v (.int .i64 us.length)), (39, .v (.int .i64 i))], chkHp b A B c d ns us, 8000⟩
def ckJ (b : Nat) (A B : Option Addr) (c d : Nat) (ns : List ByteArray) (us : List Int) (i j : Nat) : SS :=
  ⟨[(1, .p 2000 b 0), (6, .v (.int .i64 ns.length)), (7, .v (.int .u8 (maskI ns.length))), (37, .g 1002 B us.length d), (38, .v (.int .i64 us.length)), (39, .v (.int .i64 i)), (8, .v (.int .i64 i)), (9, .v (.int .u8 (us.getD i 0))), (57, .g 1002 B us.length d), (58, .v (.int .i64 us.length)), (59, .v (.int .i64 j))], chkHp b A B c d ns us, 8000⟩
def ckK (b2 : Nat) (ns : List ByteArray) (us : List Int) (i : Nat) : SS :=
  ⟨[(6, .v (.int .i64 ns.length)), (12, .p 8000 b2 0), (95, .v (.int .i64 ns.length)), (96, .v (.int .i64 i))], [(8000, .blk b2 (ordL ns.length (upF us us.length) (dnF us ns.length us.length 0)) 98)], 10000⟩
def ckM (b2 : Nat) (ns : List ByteArray) (us : List Int) (i j : Nat) : SS :=
  ⟨[(6, .v (.int .i64 ns.length)), (12, .p 8000 b2 0), (95, .v (.int .i64 ns.length)), (96, .v (.int .i64 i)), (13, .v (.int .i64 i)), (99, .v (.int .i64 ns.length)), (100, .v (.int .i64 j))], [(8000, .blk b2 (ordL ns.length (upF us us.length) (dnF us ns.length us.length 0)) 98)], 12000⟩
theorem upF_by {us : List Int} (hB : Bytes us) (i : Nat) : 0 ≤ upF us us.length i ∧ upF us us.length i ≤ 255 := by rw [upF_at]; exact hB i
theorem bnd_up {us : List Int} {n i j : Nat} (hB : Bytes us) (hn : n ≤ 8) (hl : us.length = n) (ho : ∀ j, j < n → bl us j j = true) (hi : i < n) (hj : j < n) : bndR (u8L (upF us us.length)) n i j :=
  bndR_u8 (upF_by hB) hn hi hj fun k hk => by rw [upF_at]; exact ho k hk
theorem dnF_at {us : List Int} {n b : Nat} (hb : b < n) : dnF us n us.length 0 b = (dN us b us.length : Nat) := by simp [dnF, hb]
theorem dnF_by {us : List Int} {n : Nat} (hn : n ≤ 8) (hl : us.length = n) (b : Nat) : 0 ≤ dnF us n us.length 0 b ∧ dnF us n us.length 0 b ≤ 255 := by
  by_cases h : b < n
  · rw [dnF_at h]
    have := dN_lt us b us.length
    have h2 : 2 ^ us.length ≤ 256 := Nat.le_trans (Nat.pow_le_pow_right (by decide) (by omega : us.length ≤ 8)) (by decide)
    omega
  · simp [dnF, h]
theorem bnd_dn {us : List Int} {n i j : Nat} (hB : Bytes us) (hn : n ≤ 8) (hl : us.length = n) (ho : ∀ j, j < n → bl us j j = true) (hi : i < n) (hj : j < n) : bndR (u8L (dnF us n us.length 0)) n i j :=
  bndR_u8 (dnF_by hn hl) hn hi hj fun k hk => by
    rw [dnF_at hk, Int.toNat_natCast, dN_bit, ho k hk]
    simp; omega
theorem near_up {us : List Int} {n i j : Nat} (hn : n ≤ 8) (hi : i < n) (hj : j < n) : nearS (u8L (upF us us.length)) n i j = nearN (uN us) n i j := by
  rw [nearS_u8 hn hi hj]
  exact near_congr (fun k hk => by rw [upF_at]; rfl) hi hj
theorem near_dn {us : List Int} {n i j : Nat} (hn : n ≤ 8) (hl : us.length = n) (hi : i < n) (hj : j < n) : nearS (u8L (dnF us n us.length 0)) n i j = nearN (fun b => dN us b n) n i j := by
  rw [nearS_u8 hn hi hj]
  exact near_congr (fun k hk => by rw [dnF_at hk, Int.toNat_natCast, hl]) hi hj
set_option maxRecDepth 100000 in
set_option maxHeartbeats 8000000 in
theorem check_any (ns : List ByteArray) (us : List Int) (A B : Option Addr) (c d : Nat) (hB : Bytes us) (w : World) (hg : allRd w.heap.size w [(1001, .strs A c ns), (1002, .ints B d .u8 us)]) :
    Calls Tryz.prog 34 (dens [.agg [.g 1001 A ns.length c, .g 1002 B us.length d]]).toArray w fun e w' => e = .returned (.tuple #[.int .i64 (chkV nmV ns us).1, .int .i64 (chkV nmV ns us).2]) ∧ Below w.heap.size w w' := by
  obtain ⟨q, hq⟩ : ∃ q, q = chkV nmV ns us := ⟨_, rfl⟩
  rw [← hq]
  refine calls_go (args := [.agg [.g 1001 A ns.length c, .g 1002 B us.length d]]) (hp := [(1001, .strs A c ns), (1002, .ints B d .u8 us)]) (nx := 2000) (n := 600) (U := [(1000000, 101)]) (V := []) (tl := tlCk) (gl := glCk) (post := fun s' ys => ys = [.v (.int .i64 q.1), .v (.int .i64 q.2)])
    followP tlCk_ok glCk_ok Tryz.func34 rfl (by kernel_rfl) (Nat.le_of_ble_eq_true (by kernel_rfl)) (by kernel_rfl) (by kernel_rfl) (hh_list hg) (free_list (by simp [allLt])) ?_ ?_
  · rintro s ys w' rfl H
    exact ⟨rfl, H.below⟩
  intro L F T G nd va hE
  obtain ⟨hL, hF, hs, hv, hT, hG, hR, hI, hJ, hW⟩ := hE
  rw [Tryz.results34] at hF
  simp (maxSteps := 1000000) only [En.nN, En.E, En.evsC, List.map_cons, List.map_nil, ne_eq, En.bitN, Nat.testBit, seval] at hv
  simp only [En.at_nil, En.at_cons, En.ag_nil, En.ag_cons, and_true, tlCk, glCk, tyInt, tyU8w, tyBool, tyStr, tyErr, tyStrs, tyBytes, tyInts, tyLat, tyA8, tyUps, tyDns, tyOrd] at hT hG
  rw [chk_eq] at hq
  cases h1 : ((namV ns).2 != 0)
  · have h1' : (namV ns).2 = 0 := by simpa using h1
    rw [if_neg (by simpa using h1')] at hq
    cases h2 : ((us.length : Int) != (ns.length : Int))
    · have h2' : us.length = ns.length := by have : (us.length : Int) = ns.length := by simpa using h2
                                             omega
      rw [if_neg (by simpa using h2')] at hq
      have hq : q = ordR us ns.length 0 := hq
      have hnm : 1 ≤ ns.length ∧ ns.length ≤ 8 := by
        apply Classical.byContradiction
        intro hc
        rw [namV_no (by omega)] at h1'
        simp at h1'
      simp (maxSteps := 10000000) only [En.E, En.evsC, List.map_cons, List.map_nil, ne_eq, En.bitN, Nat.testBit, seval, En.vV, hs, hv, hT, hG, hF, spNamed_q, strR_q, strD_q, h1, h2, Int.toNat_natCast]
      intro b
      refine ⟨by omega, ?_⟩
      refine hI {i : Nat // i ≤ ns.length ∧ q = ordR us ns.length i ∧ ∀ j, j < i → ordB us ns.length j = true} (fun x => ckI b A B c d ns us x.1) (fun x => ns.length - x.1) _ _ _ ⟨0, Nat.zero_le _, hq, fun j hj => absurd hj (Nat.not_lt_zero j)⟩ (sle_all [2000, 1001, 1002] (by decide) (by simp only [En.E, En.evsC, List.map_cons, List.map_nil, ne_eq, En.bitN, Nat.testBit, seval, En.slLe, En.hpLe, En.chE, En.allLt, ckI, chkHp, maskI, Int.cast_ofNat_Int])) ?_
      rintro ⟨i, hi, hp, ho⟩
      refine hR 600 _ _ ?_
      by_cases hlt : i < ns.length
      · have d0 : decide ((i : Int) < (us.length : Int)) = true := decide_eq_true (by omega)
        have i8 : i < 8 := by omega
        have h8 := hB i
        have hl8 : decide ((ns.length : Int) < (Lib.bitLen (us.getD i 0).toNat : Int)) = !decide (uN us i < 2 ^ ns.length) := len8 ⟨(us.getD i 0).toNat, by omega⟩ ⟨ns.length, by omega⟩
        have fail : ordB us ns.length i = false → q = ((i : Int), 6) := fun h => hp.trans (ordR_no hlt h)
        cases k1 : decide (uN us i < 2 ^ ns.length)
        · have hq' := fail (by unfold ordB; rw [k1]; rfl)
          rw [k1] at hl8
          simp (maxSteps := 10000000) only [En.E, En.evsC, List.map_cons, List.map_nil, ne_eq, En.bitN, Nat.testBit, seval, En.vV, hs, hv, hT, hG, hF, ckI, chkHp, d0, Int.toNat_natCast, spLen8_q, hl8, h8, hq']
          exact ⟨by omega, by omega⟩
        · rw [k1] at hl8
          cases k2 : bl us i i
          · have hq' := fail (by unfold ordB; rw [k1, k2]; rfl)
            have e2 := bit_eq0 hB (a := i) (b := i) i8
            rw [k2] at e2
            simp (maxSteps := 10000000) only [En.E, En.evsC, List.map_cons, List.map_nil, ne_eq, En.bitN, Nat.testBit, seval, En.vV, hs, hv, hT, hG, hF, ckI, chkHp, d0, Int.toNat_natCast, spLen8_q, hl8, h8, e2, hq']
            exact ⟨by omega, by omega, by omega⟩
          · have e2 := bit_eq0 hB (a := i) (b := i) i8
            rw [k2] at e2
            simp (maxSteps := 10000000) only [En.E, En.evsC, List.map_cons, List.map_nil, ne_eq, En.bitN, Nat.testBit, seval, En.vV, hs, hv, hT, hG, hF, ckI, chkHp, d0, Int.toNat_natCast, spLen8_q, hl8, h8, e2]
            refine ⟨by omega, by omega, by omega, ?_⟩
            refine hI {j : Nat // j < ns.length ∧ ∀ m, m < j → ordC us ns.length i m = true} (fun x => ckJ b A B c d ns us i x.1) (fun x => ns.length - x.1) _ _ _ ⟨0, by omega, fun m hm => absurd hm (Nat.not_lt_zero m)⟩ (sle_all [2000, 1001, 1002] (by decide) (by simp only [En.E, En.evsC, List.map_cons, List.map_nil, ne_eq, En.bitN, Nat.testBit, seval, En.slLe, En.hpLe, En.chE, En.allLt, ckJ, chkHp, Int.cast_ofNat_Int])) ?_
            rintro ⟨j, hj, hm⟩
            refine hR 600 _ _ ?_
            have d1 : decide ((j : Int) < (us.length : Int)) = true := decide_eq_true (by omega)
            have j8 : j < 8 := by omega
            have i1 : inr .i64 ((j : Int) + 1) := by simp only [En.inr, En.lo, En.hi]; omega
            have i2 : inr .i64 ((i : Int) + 1) := by simp only [En.inr, En.lo, En.hi]; omega
            have i3 : inr .i64 ((ns.length : Int) - 1) := by simp only [En.inr, En.lo, En.hi]; omega
            have e3 := bit_eq0 hB (a := i) (b := j) j8
            have e4 := bit_eq1 hB (a := j) (b := i) i8
            have e5 := beyond8 hB (n := ns.length) (a := i) (b := j) hnm.2
            have e6 : ((j : Int) != (i : Int)) = !(j == i) := by
              show (!((j : Int) == (i : Int))) = _
              congr 1
              apply Bool.eq_iff_iff.2
              rw [beq_iff_eq, beq_iff_eq]; omega
            have bad : ordC us ns.length i j = false → q = ((i : Int), 6) := fun h => fail (by
              unfold ordB
              rw [k1, k2]
              cases hq : (List.range ns.length).all (ordC us ns.length i)
              · rfl
              · have := List.all_eq_true.1 hq j (List.mem_range.2 hj)
                rw [h] at this; cases this)
            have good : ordC us ns.length i j = true → ∀ m, m < j + 1 → ordC us ns.length i m = true := fun h m hmj => by
              by_cases e : m = j
              · rw [e]; exact h
              · exact hm m (by omega)
            have full : ordC us ns.length i j = true → j + 1 = ns.length → ordB us ns.length i = true := fun h e => by
              unfold ordB
              rw [k1, k2]
              exact List.all_eq_true.2 fun m hmm => good h m (by have := List.mem_range.1 hmm; omega)
            have next : ordB us ns.length i = true → q = ordR us ns.length (i + 1) ∧ ∀ j, j < i + 1 → ordB us ns.length j = true := fun h => ⟨hp.trans (ordR_yes hlt h), fun j hj => by
              by_cases e : j = i
              · rw [e]; exact h
              · exact ho j (by omega)⟩
            clear fail
            cases k3 : ordC us ns.length i j
            · have hq' := bad k3
              unfold ordC at k3
              cases k4 : bl us i j
              · rw [k4] at k3; simp at k3
              · rw [k4] at k3 e3
                cases k5 : (bif j == i then false else bl us j i)
                · rw [k5] at k3
                  have k3 : ((uN us j &&& (2 ^ ns.length - 1)) &&& uN us i == uN us j &&& (2 ^ ns.length - 1)) = false := k3
                  rw [k3] at e5
                  cases k6 : (j == i)
                  · rw [k6] at k5 e6
                    have k5 : bl us j i = false := k5
                    simp (maxSteps := 10000000) only [En.E, En.evsC, List.map_cons, List.map_nil, ne_eq, En.bitN, Nat.testBit, seval, En.vV, hs, hv, hT, hG, hF, ckJ, chkHp, d1, Int.toNat_natCast, e3, e4, e5, e6, k5, hq']
                    exact ⟨by omega, by omega, by omega, by omega⟩
                  · rw [k6] at e6
                    simp (maxSteps := 10000000) only [En.E, En.evsC, List.map_cons, List.map_nil, ne_eq, En.bitN, Nat.testBit, seval, En.vV, hs, hv, hT, hG, hF, ckJ, chkHp, d1, Int.toNat_natCast, e3, e4, e5, e6, hq']
                    exact ⟨by omega, by omega, by omega⟩
                · cases k6 : (j == i)
                  · rw [k6] at k5 e6
                    have k5 : bl us j i = true := k5
                    simp (maxSteps := 10000000) only [En.E, En.evsC, List.map_cons, List.map_nil, ne_eq, En.bitN, Nat.testBit, seval, En.vV, hs, hv, hT, hG, hF, ckJ, chkHp, d1, Int.toNat_natCast, e3, e4, e5, e6, k5, hq']
                    exact ⟨by omega, by omega, by omega, by omega⟩
                  · rw [k6] at k5; simp at k5
            · have g1 := good k3
              have g2 := full k3
              clear good full bad
              unfold ordC at k3
              cases k7 : ((j : Int) == (ns.length : Int) - 1)
              · have hj1 : j + 1 < ns.length := by
                  have : ¬ (j : Int) = (ns.length : Int) - 1 := by simpa using k7
                  omega
                cases k4 : bl us i j
                · rw [k4] at e3
                  simp (maxSteps := 10000000) only [En.E, En.evsC, List.map_cons, List.map_nil, ne_eq, En.bitN, Nat.testBit, seval, En.vV, hs, hv, hT, hG, hF, ckJ, chkHp, d1, Int.toNat_natCast, e3, k7, i1, i3]
                  exact ⟨by omega, by omega, by omega, ⟨j + 1, hj1, g1⟩, (sle_all [2000, 1001, 1002] (by decide) (by simp only [En.E, En.evsC, List.map_cons, List.map_nil, ne_eq, En.bitN, Nat.testBit, seval, En.slLe, En.hpLe, En.chE, En.allLt, ckJ, chkHp, Int.natCast_add, Int.cast_ofNat_Int])), by simp only; omega⟩
                · rw [k4] at k3 e3
                  cases k5 : (bif j == i then false else bl us j i)
                  · rw [k5] at k3
                    have k3 : ((uN us j &&& (2 ^ ns.length - 1)) &&& uN us i == uN us j &&& (2 ^ ns.length - 1)) = true := k3
                    rw [k3] at e5
                    cases k6 : (j == i)
                    · rw [k6] at k5 e6
                      have k5 : bl us j i = false := k5
                      simp (maxSteps := 10000000) only [En.E, En.evsC, List.map_cons, List.map_nil, ne_eq, En.bitN, Nat.testBit, seval, En.vV, hs, hv, hT, hG, hF, ckJ, chkHp, d1, Int.toNat_natCast, e3, e4, e5, e6, k5, k7, i1, i3]
                      exact ⟨by omega, by omega, by omega, by omega, ⟨j + 1, hj1, g1⟩, (sle_all [2000, 1001, 1002] (by decide) (by simp only [En.E, En.evsC, List.map_cons, List.map_nil, ne_eq, En.bitN, Nat.testBit, seval, En.slLe, En.hpLe, En.chE, En.allLt, ckJ, chkHp, Int.natCast_add, Int.cast_ofNat_Int])), by simp only; omega⟩
                    · rw [k6] at e6
                      simp (maxSteps := 10000000) only [En.E, En.evsC, List.map_cons, List.map_nil, ne_eq, En.bitN, Nat.testBit, seval, En.vV, hs, hv, hT, hG, hF, ckJ, chkHp, d1, Int.toNat_natCast, e3, e4, e5, e6, k7, i1, i3]
                      exact ⟨by omega, by omega, by omega, ⟨j + 1, hj1, g1⟩, (sle_all [2000, 1001, 1002] (by decide) (by simp only [En.E, En.evsC, List.map_cons, List.map_nil, ne_eq, En.bitN, Nat.testBit, seval, En.slLe, En.hpLe, En.chE, En.allLt, ckJ, chkHp, Int.natCast_add, Int.cast_ofNat_Int])), by simp only; omega⟩
                  · rw [k5] at k3; simp at k3
              · have hj1 : j + 1 = ns.length := by
                  have : (j : Int) = (ns.length : Int) - 1 := by simpa using k7
                  omega
                have nx := next (g2 hj1)
                cases k4 : bl us i j
                · rw [k4] at e3
                  simp (maxSteps := 10000000) only [En.E, En.evsC, List.map_cons, List.map_nil, ne_eq, En.bitN, Nat.testBit, seval, En.vV, hs, hv, hT, hG, hF, ckJ, chkHp, d1, Int.toNat_natCast, e3, k7, i2, i3]
                  exact ⟨by omega, by omega, by omega, ⟨i + 1, by omega, nx⟩, (sle_all [2000, 1001, 1002] (by decide) (by simp only [En.E, En.evsC, List.map_cons, List.map_nil, ne_eq, En.bitN, Nat.testBit, seval, En.slLe, En.hpLe, En.chE, En.allLt, ckI, chkHp, Int.natCast_add, Int.cast_ofNat_Int])), by simp only; omega⟩
                · rw [k4] at k3 e3
                  cases k5 : (bif j == i then false else bl us j i)
                  · rw [k5] at k3
                    have k3 : ((uN us j &&& (2 ^ ns.length - 1)) &&& uN us i == uN us j &&& (2 ^ ns.length - 1)) = true := k3
                    rw [k3] at e5
                    cases k6 : (j == i)
                    · rw [k6] at k5 e6
                      have k5 : bl us j i = false := k5
                      simp (maxSteps := 10000000) only [En.E, En.evsC, List.map_cons, List.map_nil, ne_eq, En.bitN, Nat.testBit, seval, En.vV, hs, hv, hT, hG, hF, ckJ, chkHp, d1, Int.toNat_natCast, e3, e4, e5, e6, k5, k7, i2, i3]
                      exact ⟨by omega, by omega, by omega, by omega, ⟨i + 1, by omega, nx⟩, (sle_all [2000, 1001, 1002] (by decide) (by simp only [En.E, En.evsC, List.map_cons, List.map_nil, ne_eq, En.bitN, Nat.testBit, seval, En.slLe, En.hpLe, En.chE, En.allLt, ckI, chkHp, Int.natCast_add, Int.cast_ofNat_Int])), by simp only; omega⟩
                    · rw [k6] at e6
                      simp (maxSteps := 10000000) only [En.E, En.evsC, List.map_cons, List.map_nil, ne_eq, En.bitN, Nat.testBit, seval, En.vV, hs, hv, hT, hG, hF, ckJ, chkHp, d1, Int.toNat_natCast, e3, e4, e5, e6, k7, i2, i3]
                      exact ⟨by omega, by omega, by omega, ⟨i + 1, by omega, nx⟩, (sle_all [2000, 1001, 1002] (by decide) (by simp only [En.E, En.evsC, List.map_cons, List.map_nil, ne_eq, En.bitN, Nat.testBit, seval, En.slLe, En.hpLe, En.chE, En.allLt, ckI, chkHp, Int.natCast_add, Int.cast_ofNat_Int])), by simp only; omega⟩
                  · rw [k5] at k3; simp at k3
      · have d0 : decide ((i : Int) < (us.length : Int)) = false := decide_eq_false (by omega)
        obtain rfl : i = ns.length := by omega
        rw [ordR_end] at hp
        simp (maxSteps := 10000000) only [En.E, En.evsC, List.map_cons, List.map_nil, ne_eq, En.bitN, Nat.testBit, seval, En.vV, hs, hv, hT, hG, hF, ckI, chkHp, d0, spOf_q, ofC_q, latR_q, latU_q, hB, eq_true h2', hnm.2, ordL_one, ordL_len, ordL_put0]
        intro b2
        have orf : ∀ j, j < ns.length → bl us j j = true := fun j hj => by
          have := ho j hj
          unfold ordB at this
          cases k1 : decide (uN us j < 2 ^ ns.length) <;> rw [k1] at this
          · simp at this
          · cases k2 : bl us j j <;> rw [k2] at this
            simp at this
        refine hI {i : Nat // i ≤ ns.length ∧ q = latG us ns.length (ns.length - i) i} (fun x => ckK b2 ns us x.1) (fun x => ns.length - x.1) _ _ _ ⟨0, Nat.zero_le _, hp⟩ (sle_all [8000] (by decide) (by simp only [En.E, En.evsC, List.map_cons, List.map_nil, ne_eq, En.bitN, Nat.testBit, seval, En.slLe, En.hpLe, En.chE, En.allLt, ckK, Int.cast_ofNat_Int])) ?_
        rintro ⟨i, hi, hp⟩
        refine hR 600 _ _ ?_
        by_cases hlt : i < ns.length
        · have d0 : decide ((i : Int) < (ns.length : Int)) = true := decide_eq_true (by omega)
          have i1 : inr .i64 ((i : Int) + 1) := by simp only [En.inr, En.lo, En.hi]; omega
          rw [latG_at hlt] at hp
          simp (maxSteps := 10000000) only [En.E, En.evsC, List.map_cons, List.map_nil, ne_eq, En.bitN, Nat.testBit, seval, En.vV, hs, hv, hT, hG, hF, ckK, d0]
          refine hI {j : Nat // j ≤ ns.length ∧ ∀ m, m < j → noB us ns.length i m = false} (fun x => ckM b2 ns us i x.1) (fun x => ns.length - x.1) _ _ _ ⟨0, Nat.zero_le _, fun m hm => absurd hm (Nat.not_lt_zero m)⟩ (sle_all [8000] (by decide) (by simp only [En.E, En.evsC, List.map_cons, List.map_nil, ne_eq, En.bitN, Nat.testBit, seval, En.slLe, En.hpLe, En.chE, En.allLt, ckM, Int.cast_ofNat_Int])) ?_
          rintro ⟨j, hj, hm⟩
          refine hR 600 _ _ ?_
          by_cases hjl : j < ns.length
          · have d1 : decide ((j : Int) < (ns.length : Int)) = true := decide_eq_true (by omega)
            have i2 : inr .i64 ((j : Int) + 1) := by simp only [En.inr, En.lo, En.hi]; omega
            have r1 := eq_true (bnd_up hB hnm.2 h2' orf hlt hjl)
            have r2 := eq_true (bnd_dn hB hnm.2 h2' orf hlt hjl)
            have r3 := near_up (us := us) hnm.2 hlt hjl
            have r4 := near_dn (us := us) hnm.2 h2' hlt hjl
            cases k1 : noB us ns.length i j
            · have k1' := k1
              unfold noB at k1'
              cases k2 : decide (nearN (uN us) ns.length i j < 0)
              · rw [k2] at k1'
                have k3 : decide (nearN (fun b => dN us b ns.length) ns.length i j < 0) = false := k1'
                simp (maxSteps := 10000000) only [En.E, En.evsC, List.map_cons, List.map_nil, ne_eq, En.bitN, Nat.testBit, seval, En.vV, hs, hv, hT, hG, hF, ckM, d1, spBnd_q, ordL_len, ordL_cup, ordL_cdn, r1, r2, r3, r4, k2, k3, i2]
                refine ⟨⟨j + 1, by omega, fun m hmj => ?_⟩, (sle_all [8000] (by decide) (by simp only [En.E, En.evsC, List.map_cons, List.map_nil, ne_eq, En.bitN, Nat.testBit, seval, En.slLe, En.hpLe, En.chE, En.allLt, ckM, Int.natCast_add, Int.cast_ofNat_Int])), by simp only; omega⟩
                by_cases e : m = j
                · rw [e]; exact k1
                · exact hm m (by omega)
              · rw [k2] at k1'; simp at k1'
            · have an : (List.range ns.length).any (noB us ns.length i) = true := List.any_eq_true.2 ⟨j, List.mem_range.2 hjl, k1⟩
              rw [an] at hp
              have hp : q = ((i : Int), 4) := hp
              unfold noB at k1
              cases k2 : decide (nearN (uN us) ns.length i j < 0)
              · rw [k2] at k1
                have k3 : decide (nearN (fun b => dN us b ns.length) ns.length i j < 0) = true := k1
                simp (maxSteps := 10000000) only [En.E, En.evsC, List.map_cons, List.map_nil, ne_eq, En.bitN, Nat.testBit, seval, En.vV, hs, hv, hT, hG, hF, ckM, d1, spBnd_q, ordL_len, ordL_cup, ordL_cdn, r1, r2, r3, r4, k2, k3, hp]
              · simp (maxSteps := 10000000) only [En.E, En.evsC, List.map_cons, List.map_nil, ne_eq, En.bitN, Nat.testBit, seval, En.vV, hs, hv, hT, hG, hF, ckM, d1, spBnd_q, ordL_len, ordL_cup, ordL_cdn, r1, r2, r3, r4, k2, hp]
          · have d1 : decide ((j : Int) < (ns.length : Int)) = false := decide_eq_false (by omega)
            have an : (List.range ns.length).any (noB us ns.length i) = false := by
              rw [List.any_eq_false]
              intro m hmm
              rw [hm m (by have := List.mem_range.1 hmm; omega)]; simp
            rw [an] at hp
            simp (maxSteps := 10000000) only [En.E, En.evsC, List.map_cons, List.map_nil, ne_eq, En.bitN, Nat.testBit, seval, En.vV, hs, hv, hT, hG, hF, ckM, d1, i1]
            exact ⟨⟨i + 1, by omega, hp⟩, (sle_all [8000] (by decide) (by simp only [En.E, En.evsC, List.map_cons, List.map_nil, ne_eq, En.bitN, Nat.testBit, seval, En.slLe, En.hpLe, En.chE, En.allLt, ckK, Int.natCast_add, Int.cast_ofNat_Int])), by simp only; omega⟩
        · have d0 : decide ((i : Int) < (ns.length : Int)) = false := decide_eq_false (by omega)
          rw [show ns.length - i = 0 by omega] at hp
          have hp : q = (0, 0) := hp
          simp (maxSteps := 10000000) only [En.E, En.evsC, List.map_cons, List.map_nil, ne_eq, En.bitN, Nat.testBit, seval, En.vV, hs, hv, hT, hG, hF, ckK, d0, hp]
    · rw [if_pos (by have : ¬ (us.length : Int) = ns.length := by simpa using h2
                     omega)] at hq
      simp (maxSteps := 10000000) only [En.E, En.evsC, List.map_cons, List.map_nil, ne_eq, En.bitN, Nat.testBit, seval, En.vV, hs, hv, hT, hG, hF, spNamed_q, strR_q, strD_q, h1, h2, hq]
  · rw [if_pos (by simpa using h1)] at hq
    simp (maxSteps := 10000000) only [En.E, En.evsC, List.map_cons, List.map_nil, ne_eq, En.bitN, Nat.testBit, seval, En.vV, hs, hv, hT, hG, hF, spNamed_q, strR_q, strD_q, h1, hq]
end Pr
end Go.Proofs.YtnpkmimbnjnicaaGreatDoor
/-
lattice.Check as a contract; asked, Bottom, Leq (chapter 3).
-/
set_option linter.unusedSimpArgs false
set_option linter.unusedVariables false
namespace Go.Proofs.YtnpkmimbnjnicaaGreatDoor
namespace Pr
open Go Go.RowKit En
open Lt
def spChk3 : Spc
  | [.agg [.g k A n c, .g j B m d]], H, _ => .is (latR A n c B m d (H k) (H j) ∧ True) (.tup [.v (.int .i64 (chkV nmV (latN (H k)) (latU (H j))).1), .v (.int .i64 (chkV nmV (latN (H k)) (latU (H j))).2)])
  | _, _, _ => .bad
theorem spChk3_q {k n c j m d : Nat} {A B : Option Addr}  {H : Nat → Ch} {nx : Nat} : spChk3 [.agg [.g k A n c, .g j B m d]] H nx = .is (latR A n c B m d (H k) (H j) ∧ True) (.tup [.v (.int .i64 (chkV nmV (latN (H k)) (latU (H j))).1), .v (.int .i64 (chkV nmV (latN (H k)) (latU (H j))).2)]) := (rfl)
theorem spChk3_ok : SpecOk Tryz.prog 34 spChk3 := by
  intro args hp nx w0 O w H hv
  unfold spChk3 at hv ⊢
  split at hv
  · next k A n c j B m d  =>
    obtain ⟨hl, hx⟩ := hv
    obtain ⟨x1, x2, x3, x4, x5⟩ := latR_of hl
    have h1 := H.hold k
    have h2 := H.hold j
    rw [x1] at h1
    rw [x2] at h2
    have := check_any (latN (lookH hp k)) (latU (lookH hp j)) A B c d x5 w ⟨⟨h1, rfl⟩, ⟨h2, rfl⟩, trivial⟩
    rw [← x3, ← x4] at this
    refine this.mono ?_
    rintro e w' ⟨rfl, hb⟩
    exact ⟨⟨0, none, 0, none, 0, mz⟩, rfl, .still hb⟩
  · exact hv.elim
def askV (ns : List ByteArray) (us : List Int) (ls : List Int) : Int := bif (chkV nmV ns us).2 != 0 then (chkV nmV ns us).2 else bif ls.any (fun a => bif decide (a < 0) then true else decide ((ns.length : Int) ≤ a)) then 7 else 0
def askHp (b : Nat) (A B C : Option Addr) (c d e : Nat) (ns : List ByteArray) (us ls : List Int) : Hp := [(0, .cst b 0 [.g 1 A ns.length c, .g 2 B us.length d]), (1, .strs A c ns), (2, .ints B d .u8 us), (3, .ints C e .i64 ls)]
def glAs : List (FuncId × Spc) := [(34, spChk3)]
theorem glAs_ok : GOk Tryz.prog (lookG glAs) := lG_cons (by kernel_rfl) spChk3_ok lG_nil
set_option maxRecDepth 100000 in
set_option maxHeartbeats 4000000 in
theorem asked_any (b : Nat) (A B C : Option Addr) (c d e : Nat) (ns : List ByteArray) (us ls : List Int) (hl : ls.length ≤ 2) (hB : Bytes us) (w : World) (hg : allRd w.heap.size w (askHp b A B C c d e ns us ls)) :
    Calls Tryz.prog 59 (dens [.p 0 b 0, .g 3 C ls.length e]).toArray w fun e w' => e = .returned (.int .i64 (askV ns us ls)) ∧ Below w.heap.size w w' := by
  obtain ⟨q, hq⟩ : ∃ q, q = askV ns us ls := ⟨_, rfl⟩
  rw [← hq]
  refine calls_go (args := [.p 0 b 0, .g 3 C ls.length e]) (hp := askHp b A B C c d e ns us ls) (nx := 1000) (n := 600) (U := [(5, 3), (1000000, 37)]) (V := []) (tl := tlLt) (gl := glAs) (post := fun s' ys => ys = [.v (.int .i64 q)])
    followP tlLt_ok glAs_ok Tryz.func59 rfl (by kernel_rfl) (Nat.le_of_ble_eq_true (by kernel_rfl)) (by kernel_rfl) (by kernel_rfl) (hh_list hg) (free_list (by simp [allLt, askHp])) ?_ ?_
  · rintro s ys w' rfl H
    exact ⟨rfl, H.below⟩
  intro L F T G nd va hE
  obtain ⟨hL, hF, hs, hv, hT, hG, hR, hI, hJ, hW⟩ := hE
  rw [Tryz.results59] at hF
  simp (maxSteps := 1000000) only [En.nN, En.E, En.evsC, List.map_cons, List.map_nil, ne_eq, En.bitN, Nat.testBit, seval] at hv
  simp only [En.at_nil, En.at_cons, En.ag_nil, En.ag_cons, and_true, tlLt, glAs, tyInt, tyU8, tyBool, tyStr, tyErr, tyStrs, tyBytes, tyInts, tyLat, tyA8, tyUps, tyDns, tyOrd, tyUint] at hT hG
  unfold askV at hq
  cases h1 : ((chkV nmV ns us).2 != 0)
  · rw [h1] at hq
    match ls, hl with
    | [], _ =>
      simp only [List.any_nil, cond_false] at hq
      simp (maxSteps := 10000000) only [En.E, En.evsC, List.map_cons, List.map_nil, ne_eq, En.bitN, Nat.testBit, seval, En.vV, hs, hv, hT, hG, hF, askHp, spChk3_q, latR_q, latN_q, latU_q, hB, h1, hq, List.length_nil, Int.cast_ofNat_Int]
    | [x], _ =>
      simp only [List.any_cons, List.any_nil, Bool.or_false] at hq
      have i1 : inr .i64 1 := by simp only [En.inr, En.lo, En.hi]; omega
      have i2 : inr .i64 2 := by simp only [En.inr, En.lo, En.hi]; omega
      cases h2 : (bif decide (x < 0) then true else decide ((ns.length : Int) ≤ x)) <;> rw [h2] at hq
      · simp (maxSteps := 10000000) only [En.E, En.evsC, List.map_cons, List.map_nil, ne_eq, En.bitN, Nat.testBit, seval, En.vV, hs, hv, hT, hG, hF, askHp, spChk3_q, latR_q, latN_q, latU_q, hB, h1, List.length_cons, List.length_nil, Int.cast_ofNat_Int, List.getD_cons_zero, List.getD_cons_succ, i1, i2, h2, hq]
        exact fun h => by rw [h]; rfl
      · simp (maxSteps := 10000000) only [En.E, En.evsC, List.map_cons, List.map_nil, ne_eq, En.bitN, Nat.testBit, seval, En.vV, hs, hv, hT, hG, hF, askHp, spChk3_q, latR_q, latN_q, latU_q, hB, h1, List.length_cons, List.length_nil, Int.cast_ofNat_Int, List.getD_cons_zero, List.getD_cons_succ, i1, i2, h2, hq]
        exact fun h => by rw [h]; rfl
    | [x, y], _ =>
      simp only [List.any_cons, List.any_nil, Bool.or_false] at hq
      have i1 : inr .i64 1 := by simp only [En.inr, En.lo, En.hi]; omega
      have i2 : inr .i64 2 := by simp only [En.inr, En.lo, En.hi]; omega
      cases h2 : (bif decide (x < 0) then true else decide ((ns.length : Int) ≤ x)) <;> rw [h2] at hq
      · cases h3 : (bif decide (y < 0) then true else decide ((ns.length : Int) ≤ y)) <;> rw [h3] at hq
        · simp (maxSteps := 10000000) only [En.E, En.evsC, List.map_cons, List.map_nil, ne_eq, En.bitN, Nat.testBit, seval, En.vV, hs, hv, hT, hG, hF, askHp, spChk3_q, latR_q, latN_q, latU_q, hB, h1, List.length_cons, List.length_nil, Int.cast_ofNat_Int, List.getD_cons_zero, List.getD_cons_succ, i1, i2, h2, h3, hq, Bool.or_self]
          exact ⟨fun h => by rw [h]; rfl, fun h => by rw [h]; rfl⟩
        · simp (maxSteps := 10000000) only [En.E, En.evsC, List.map_cons, List.map_nil, ne_eq, En.bitN, Nat.testBit, seval, En.vV, hs, hv, hT, hG, hF, askHp, spChk3_q, latR_q, latN_q, latU_q, hB, h1, List.length_cons, List.length_nil, Int.cast_ofNat_Int, List.getD_cons_zero, List.getD_cons_succ, i1, i2, h2, h3, hq, Bool.false_or]
          exact ⟨fun h => by rw [h]; rfl, fun h => by rw [h]; rfl⟩
      · simp (maxSteps := 10000000) only [En.E, En.evsC, List.map_cons, List.map_nil, ne_eq, En.bitN, Nat.testBit, seval, En.vV, hs, hv, hT, hG, hF, askHp, spChk3_q, latR_q, latN_q, latU_q, hB, h1, List.length_cons, List.length_nil, Int.cast_ofNat_Int, List.getD_cons_zero, List.getD_cons_succ, i1, i2, h2, hq, Bool.true_or]
        exact fun h => by rw [h]; rfl
  · rw [h1] at hq
    simp (maxSteps := 10000000) only [En.E, En.evsC, List.map_cons, List.map_nil, ne_eq, En.bitN, Nat.testBit, seval, En.vV, hs, hv, hT, hG, hF, askHp, spChk3_q, latR_q, latN_q, latU_q, hB, h1, hq]
def askC (b : Nat) (H : Nat → Ch) : Option (List Int) → Ch → Res
  | some ls, .blk b' [.g k A n c, .g j B m d] _ => .is (b = b' ∧ latR A n c B m d (H k) (H j) ∧ ls.length ≤ 2) (.v (.int .i64 (askV (latN (H k)) (latU (H j)) ls)))
  | _, _ => .bad
def spAsk : Spc
  | [.p k b 0, L], H, _ => askC b H (getN H L) (H k)
  | _, _, _ => .bad
theorem spAsk_q {k b : Nat} {L : SV} {H : Nat → Ch} {nx : Nat} : spAsk [.p k b 0, L] H nx = askC b H (getN H L) (H k) := (rfl)
theorem askC_q {b b' : Nat} {H : Nat → Ch} {ls : List Int} {k n c j m d : Nat} {A B : Option Addr} {t : TypeId} : askC b H (some ls) (.blk b' [.g k A n c, .g j B m d] t) = .is (b = b' ∧ latR A n c B m d (H k) (H j) ∧ ls.length ≤ 2) (.v (.int .i64 (askV (latN (H k)) (latU (H j)) ls))) := (rfl)
theorem spAsk_ok : SpecOk Tryz.prog 59 spAsk := by
  intro args hp nx w0 O w H hv
  unfold spAsk at hv ⊢
  split at hv
  · next k b L =>
    have hk := H.hold k
    cases hL : getN (lookH hp) L with
    | none => rw [hL] at hv; exact hv.elim
    | some ls =>
      rw [hL] at hv
      obtain ⟨C, e, q1, q2, _⟩ := getN_ok H hL
      unfold askC at hv ⊢
      split at hv
      · next ls' b' k1 A n c j B m d t e0 e1 =>
        cases e0
        obtain ⟨rfl, hl, hn⟩ := hv
        obtain ⟨x1, x2, x3, x4, x5⟩ := latR_of hl
        rw [e1] at hk
        have h1 := H.hold k1
        have h2 := H.hold j
        rw [x1] at h1
        rw [x2] at h2
        have hc := blk_cells hk
        have := asked_any b A B C c d e (latN (lookH hp k1)) (latU (lookH hp j)) ls hn x5 w ⟨⟨by rw [← x3, ← x4]; exact hc, rfl⟩, ⟨h1, rfl⟩, ⟨h2, rfl⟩, ⟨q2, rfl⟩, trivial⟩
        rw [show dens [.p k b 0, L] = dens [.p 0 b 0, .g 3 C ls.length e] by simp [dens, den, q1]]
        refine this.mono ?_
        rintro e' w' ⟨rfl, hb⟩
        exact ⟨⟨0, none, 0, none, 0, mz⟩, rfl, .still hb⟩
      · exact hv.elim
  · exact hv.elim
def glBo : List (FuncId × Spc) := [(59, spAsk), (56, spOf), (60, spEnd)]
theorem glBo_ok : GOk Tryz.prog (lookG glBo) := lG_cons (by kernel_rfl) spAsk_ok <| lG_cons (by kernel_rfl) spOf_ok <| lG_cons (by kernel_rfl) spEnd_ok lG_nil
def botV (ns : List ByteArray) (us : List Int) : Int := bif (chkV nmV ns us).2 != 0 then 0 else botI us
theorem lt_of_chk {ns : List ByteArray} {us : List Int} (hB : Bytes us) (h : (chkV nmV ns us).2 = 0) : Lt us ∧ us.length = ns.length ∧ 1 ≤ us.length ∧ us.length ≤ 8 := by
  obtain ⟨h1, h2, h3, h4⟩ := chk_ok h
  exact ⟨⟨h1, hB, h4⟩, h2, h3, h4⟩
set_option maxRecDepth 100000 in
set_option maxHeartbeats 4000000 in
theorem bottom_any (ns : List ByteArray) (us : List Int) (A B : Option Addr) (c d : Nat) (hB : Bytes us) (w : World) (hg : allRd w.heap.size w [(1001, .strs A c ns), (1002, .ints B d .u8 us)]) :
    Calls Tryz.prog 35 (dens [.agg [.g 1001 A ns.length c, .g 1002 B us.length d]]).toArray w fun e w' => e = .returned (.tuple #[.int .i64 (botV ns us), .int .i64 (chkV nmV ns us).2]) ∧ Below w.heap.size w w' := by
  obtain ⟨q, hq⟩ : ∃ q, q = botV ns us := ⟨_, rfl⟩
  obtain ⟨r, hr⟩ : ∃ r, r = (chkV nmV ns us).2 := ⟨_, rfl⟩
  rw [← hq, ← hr]
  refine calls_go (args := [.agg [.g 1001 A ns.length c, .g 1002 B us.length d]]) (hp := [(1001, .strs A c ns), (1002, .ints B d .u8 us)]) (nx := 2000) (n := 600) (U := [(1000000, 37)]) (V := []) (tl := tlLt) (gl := glBo) (post := fun s' ys => ys = [.v (.int .i64 q), .v (.int .i64 r)])
    followP tlLt_ok glBo_ok Tryz.func35 rfl (by kernel_rfl) (Nat.le_of_ble_eq_true (by kernel_rfl)) (by kernel_rfl) (by kernel_rfl) (hh_list hg) (free_list (by simp [allLt])) ?_ ?_
  · rintro s ys w' rfl H
    exact ⟨rfl, H.below⟩
  intro L F T G nd va hE
  obtain ⟨hL, hF, hs, hv, hT, hG, hR, hI, hJ, hW⟩ := hE
  rw [Tryz.results35] at hF
  simp (maxSteps := 1000000) only [En.nN, En.E, En.evsC, List.map_cons, List.map_nil, ne_eq, En.bitN, Nat.testBit, seval] at hv
  simp only [En.at_nil, En.at_cons, En.ag_nil, En.ag_cons, and_true, tlLt, glBo, tyInt, tyU8, tyBool, tyStr, tyErr, tyStrs, tyBytes, tyInts, tyLat, tyA8, tyUps, tyDns, tyOrd, tyUint] at hT hG
  have ha : askV ns us [] = (chkV nmV ns us).2 := by
    unfold askV
    cases h1 : ((chkV nmV ns us).2 != 0)
    · have : (chkV nmV ns us).2 = 0 := by simpa using h1
      simp [this]
    · rfl
  cases h1 : ((chkV nmV ns us).2 != 0)
  · have h0 : (chkV nmV ns us).2 = 0 := by simpa using h1
    obtain ⟨l1, l2, l3, l4⟩ := lt_of_chk hB h0
    have hb : botV ns us = botI us := by unfold botV; rw [h1]; rfl
    have e1 := eq_true (enR_q l1)
    have e2 := u8S_q l4
    rw [hb] at hq
    rw [h0] at hr
    simp (maxSteps := 10000000) only [En.E, En.evsC, List.map_cons, List.map_nil, ne_eq, En.bitN, Nat.testBit, seval, En.vV, hs, hv, hT, hG, hF, spAsk_q, askC_q, getN_nil, latR_q, latN_q, latU_q, hB, ha, h0, hq, hr, e1, e2, spOf_q, ofC_q, l2, ordL_one, ordL_len, ordL_put0, ordL_cup, ordL_n, spEnd_q, List.length_nil]
    rw [l2] at e1 e2
    exact ⟨by omega, of_eq_true e1, by rw [e2]⟩
  · have hb : botV ns us = 0 := by unfold botV; rw [h1]; rfl
    rw [hb] at hq
    simp (maxSteps := 10000000) only [En.E, En.evsC, List.map_cons, List.map_nil, ne_eq, En.bitN, Nat.testBit, seval, En.vV, hs, hv, hT, hG, hF, spAsk_q, askC_q, getN_nil, latR_q, latN_q, latU_q, hB, ha, h1, hq, hr, List.length_nil]
def spBot : Spc
  | [.agg [.g k A n c, .g j B m d]], H, _ => .is (latR A n c B m d (H k) (H j) ∧ True) (.tup [.v (.int .i64 (botV (latN (H k)) (latU (H j)))), .v (.int .i64 (chkV nmV (latN (H k)) (latU (H j))).2)])
  | _, _, _ => .bad
theorem spBot_q {k n c j m d : Nat} {A B : Option Addr}  {H : Nat → Ch} {nx : Nat} : spBot [.agg [.g k A n c, .g j B m d]] H nx = .is (latR A n c B m d (H k) (H j) ∧ True) (.tup [.v (.int .i64 (botV (latN (H k)) (latU (H j)))), .v (.int .i64 (chkV nmV (latN (H k)) (latU (H j))).2)]) := (rfl)
theorem spBot_ok : SpecOk Tryz.prog 35 spBot := by
  intro args hp nx w0 O w H hv
  unfold spBot at hv ⊢
  split at hv
  · next k A n c j B m d  =>
    obtain ⟨hl, hx⟩ := hv
    obtain ⟨x1, x2, x3, x4, x5⟩ := latR_of hl
    have h1 := H.hold k
    have h2 := H.hold j
    rw [x1] at h1
    rw [x2] at h2
    have := bottom_any (latN (lookH hp k)) (latU (lookH hp j)) A B c d x5 w ⟨⟨h1, rfl⟩, ⟨h2, rfl⟩, trivial⟩
    rw [← x3, ← x4] at this
    refine this.mono ?_
    rintro e w' ⟨rfl, hb⟩
    exact ⟨⟨0, none, 0, none, 0, mz⟩, rfl, .still hb⟩
  · exact hv.elim
def leqV (ns : List ByteArray) (us : List Int) (a b : Int) : Bool := bif askV ns us [a, b] != 0 then false else leI us a b
theorem ask_ok {ns : List ByteArray} {us : List Int} (hB : Bytes us) {a b : Int} (h : (askV ns us [a, b] != 0) = false) : Lt us ∧ us.length = ns.length ∧ us.length ≤ 8 ∧ lab us a ∧ lab us b ∧ (chkV nmV ns us).2 = 0 := by
  unfold askV at h
  cases h1 : ((chkV nmV ns us).2 != 0) <;> rw [h1] at h
  · have h0 : (chkV nmV ns us).2 = 0 := by simpa using h1
    obtain ⟨l1, l2, l3, l4⟩ := lt_of_chk hB h0
    refine ⟨l1, l2, l4, ?_⟩
    simp only [List.any_cons, List.any_nil, Bool.or_false, cond_false] at h
    cases h2 : (bif decide (a < 0) then true else decide ((ns.length : Int) ≤ a)) <;> rw [h2] at h
    · cases h3 : (bif decide (b < 0) then true else decide ((ns.length : Int) ≤ b)) <;> rw [h3] at h
      · have f : ∀ x : Int, (bif decide (x < 0) then true else decide ((ns.length : Int) ≤ x)) = false → lab us x := fun x hx => by
          cases hx1 : decide (x < 0) <;> rw [hx1] at hx
          · have := of_decide_eq_false hx1
            have hx2 := of_decide_eq_false hx
            exact ⟨by omega, by omega⟩
          · simp at hx
        exact ⟨f a h2, f b h3, h0⟩
      · simp at h
    · simp at h
  · simp only [cond_true] at h; rw [h1] at h; cases h
def glLq : List (FuncId × Spc) := [(59, spAsk)]
theorem glLq_ok : GOk Tryz.prog (lookG glLq) := lG_cons (by kernel_rfl) spAsk_ok lG_nil
theorem bit_lab {us : List Int} (hB : Bytes us) (h8 : us.length ≤ 8) {a b : Int} (ha : lab us a) (hb : lab us b) : (bits .and .u8 (us.getD a.toNat 0 / 2 ^ min b.toNat 8) 1 == 1) = leI us a b := by
  have := hb.1; have := hb.2
  exact bit_eq1 hB (by omega)
set_option maxRecDepth 100000 in
set_option maxHeartbeats 4000000 in
theorem leq_any (ns : List ByteArray) (us : List Int) (A B : Option Addr) (c d : Nat) (a b : Int) (hB : Bytes us) (w : World) (hg : allRd w.heap.size w [(1001, .strs A c ns), (1002, .ints B d .u8 us)]) :
    Calls Tryz.prog 42 (dens [.agg [.g 1001 A ns.length c, .g 1002 B us.length d], .v (.int .i64 a), .v (.int .i64 b)]).toArray w fun e w' => e = .returned (.tuple #[.bool (leqV ns us a b), .int .i64 (askV ns us [a, b])]) ∧ Below w.heap.size w w' := by
  obtain ⟨q, hq⟩ : ∃ q, q = leqV ns us a b := ⟨_, rfl⟩
  obtain ⟨r, hr⟩ : ∃ r, r = askV ns us [a, b] := ⟨_, rfl⟩
  rw [← hq, ← hr]
  refine calls_go (args := [.agg [.g 1001 A ns.length c, .g 1002 B us.length d], .v (.int .i64 a), .v (.int .i64 b)]) (hp := [(1001, .strs A c ns), (1002, .ints B d .u8 us)]) (nx := 2000) (n := 600) (U := [(1000000, 37)]) (V := []) (tl := tlLt) (gl := glLq) (post := fun s' ys => ys = [.v (.bool q), .v (.int .i64 r)])
    followP tlLt_ok glLq_ok Tryz.func42 rfl (by kernel_rfl) (Nat.le_of_ble_eq_true (by kernel_rfl)) (by kernel_rfl) (by kernel_rfl) (hh_list hg) (free_list (by simp [allLt])) ?_ ?_
  · rintro s ys w' rfl H
    exact ⟨rfl, H.below⟩
  intro L F T G nd va hE
  obtain ⟨hL, hF, hs, hv, hT, hG, hR, hI, hJ, hW⟩ := hE
  rw [Tryz.results42] at hF
  simp (maxSteps := 1000000) only [En.nN, En.E, En.evsC, List.map_cons, List.map_nil, ne_eq, En.bitN, Nat.testBit, seval] at hv
  simp only [En.at_nil, En.at_cons, En.ag_nil, En.ag_cons, and_true, tlLt, glLq, tyInt, tyU8, tyBool, tyStr, tyErr, tyStrs, tyBytes, tyInts, tyLat, tyA8, tyUps, tyDns, tyOrd, tyUint] at hT hG
  unfold leqV at hq
  cases h1 : (askV ns us [a, b] != 0)
  · have h0 : askV ns us [a, b] = 0 := by simpa using h1
    rw [h1] at hq
    rw [h0] at hr
    obtain ⟨l1, l2, l3, la, lb, _⟩ := ask_ok hB h1
    have e1 := bit_lab hB l3 la lb
    have a0 := la.1; have a1 := la.2
    have b0 := lb.1
    have an : a.toNat < us.length := by omega
    have hq : q = leI us a b := hq
    simp (maxSteps := 10000000) only [En.E, En.evsC, List.map_cons, List.map_nil, ne_eq, En.bitN, Nat.testBit, seval, En.vV, hs, hv, hT, hG, hF, spAsk_q, askC_q, getN_gp, getN_nil, showC, intsOf, if_true, Option.bind_some, Option.map_some, List.length_cons, List.length_nil, latR_q, latN_q, latU_q, hB, h0, hq, hr, e1]
    exact ⟨⟨a0, a1⟩, ⟨a0, an⟩, b0⟩
  · rw [h1] at hq
    simp (maxSteps := 10000000) only [En.E, En.evsC, List.map_cons, List.map_nil, ne_eq, En.bitN, Nat.testBit, seval, En.vV, hs, hv, hT, hG, hF, spAsk_q, askC_q, getN_gp, getN_nil, showC, intsOf, if_true, Option.bind_some, Option.map_some, List.length_cons, List.length_nil, latR_q, latN_q, latU_q, hB, h1, hq, hr]
def spLeq3 : Spc
  | [.agg [.g k A n c, .g j B m d], .v (.int .i64 a), .v (.int .i64 b)], H, _ => .is (latR A n c B m d (H k) (H j) ∧ True) (.tup [.v (.bool (leqV (latN (H k)) (latU (H j)) a b)), .v (.int .i64 (askV (latN (H k)) (latU (H j)) [a, b]))])
  | _, _, _ => .bad
theorem spLeq3_q {k n c j m d : Nat} {A B : Option Addr} {a b : Int} {H : Nat → Ch} {nx : Nat} : spLeq3 [.agg [.g k A n c, .g j B m d], .v (.int .i64 a), .v (.int .i64 b)] H nx = .is (latR A n c B m d (H k) (H j) ∧ True) (.tup [.v (.bool (leqV (latN (H k)) (latU (H j)) a b)), .v (.int .i64 (askV (latN (H k)) (latU (H j)) [a, b]))]) := (rfl)
theorem spLeq3_ok : SpecOk Tryz.prog 42 spLeq3 := by
  intro args hp nx w0 O w H hv
  unfold spLeq3 at hv ⊢
  split at hv
  · next k A n c j B m d a b =>
    obtain ⟨hl, hx⟩ := hv
    obtain ⟨x1, x2, x3, x4, x5⟩ := latR_of hl
    have h1 := H.hold k
    have h2 := H.hold j
    rw [x1] at h1
    rw [x2] at h2
    have := leq_any (latN (lookH hp k)) (latU (lookH hp j)) A B c d a b x5 w ⟨⟨h1, rfl⟩, ⟨h2, rfl⟩, trivial⟩
    rw [← x3, ← x4] at this
    refine this.mono ?_
    rintro e w' ⟨rfl, hb⟩
    exact ⟨⟨0, none, 0, none, 0, mz⟩, rfl, .still hb⟩
  · exact hv.elim
end Pr
end Go.Proofs.YtnpkmimbnjnicaaGreatDoor
